/- Po1 Pt1 Pt2 Pt3 Pt4 Pt5 Pt6 Pt7 -/
import Derived.Test.YtlchefooafpdlaaGreatK10
set_option maxHeartbeats 4000000
namespace Go.Sh
open Go Go.Am
def sg (a b : Int) : Int:=if a < b then -1 else 0
theorem Z8 {a b : Int} : decide (sg a b < 0) = decide (a < b):=by
  unfold sg;by_cases h : a < b <;> simp [h]
def qO (a b : Int) : Option Int:=some (sg a b)
theorem Zh (a b : Int) : qO a b = some (sg a b):=rfl
theorem Zg (a b : Int) : Ye a b = some (decide (a < b)):=by
  unfold Ye q6l
  have : (a != a) = false:=by simp
  simp []
theorem qxh : qbd = q4g:=rfl
theorem qvk : (fun p0=>q1n p0) = (fun p0=>q2i p0):=by
  funext p0
  simp only [q1n,q2i,qxh]
  all_goals repeat' first | with_reducible rfl | (refine funext fun (m : Sum _ _)=>?_;cases m <;> (first | with_reducible rfl | rfl)) | (congr 1) | funext _
  done
theorem qvl  : ∀ p0,q1n p0 = q2i p0:=fun p0=>(congrFun qvk p0)
theorem qvj : (fun p0=>U3 p0) = (fun p0=>Ug p0):=by
  funext p0
  simp only [U3,Ug,qvl]
  all_goals repeat' first | with_reducible rfl | (refine funext fun (m : Sum _ _)=>?_;cases m <;> (first | with_reducible rfl | rfl)) | (congr 1) | funext _
  done
theorem qk7  : ∀ p0,U3 p0 = Ug p0:=fun p0=>(congrFun qvj p0)
theorem qw4 : (fun p1=>q5m p1) = (fun p1=>Jb p1 qO):=by
  funext p1 a443
  simp only [q5m,Jb,Zg,Zh,Option.bind_some,Z8]
  all_goals repeat' first | with_reducible rfl | (refine funext fun (m : Sum _ _)=>?_;cases m <;> (first | with_reducible rfl | rfl)) | (congr 1) | funext _
  done
theorem qw5  : ∀ p1,q5m p1 = Jb p1 qO:=fun p1=>(congrFun qw4 p1)
theorem qw2 : (fun p2 p1=>q5l p2 p1) = (fun p2 p1=>Uk p2 p1 qO):=by
  funext p2 p1 a270
  simp only [q5l,Uk,qw5]
  all_goals repeat' first | with_reducible rfl | (refine funext fun (m : Sum _ _)=>?_;cases m <;> (first | with_reducible rfl | rfl)) | (congr 1) | funext _
  done
theorem qw3  : ∀ p2 p1,q5l p2 p1 = Uk p2 p1 qO:=fun p2 p1=>(congrFun (congrFun qw2 p2) p1)
theorem qw0 : (fun p0 p1 p2=>q5k p0 p1 p2) = (fun p0 p1 p2=>q1c qO p0 p1 p2):=by
  funext p0 p1 p2
  simp only [q5k,q1c,qw3]
  all_goals repeat' first | with_reducible rfl | (refine funext fun (m : Sum _ _)=>?_;cases m <;> (first | with_reducible rfl | rfl)) | (congr 1) | funext _
  done
theorem qw1  : ∀ p0 p1 p2,q5k p0 p1 p2 = q1c qO p0 p1 p2:=fun p0 p1 p2=>(congrFun (congrFun (congrFun qw0 p0) p1) p2)
theorem qxf : (fun p2 p3=>q68 p2 p3) = (fun p2 p3=>Je p2 p3 qO):=by
  funext p2 p3 a193
  simp only [q68,Je,Zg,Zh,Option.bind_some,Z8]
  all_goals repeat' first | with_reducible rfl | (refine funext fun (m : Sum _ _)=>?_;cases m <;> (first | with_reducible rfl | rfl)) | (congr 1) | funext _
  done
theorem qxg  : ∀ p2 p3,q68 p2 p3 = Je p2 p3 qO:=fun p2 p3=>(congrFun (congrFun qxf p2) p3)
theorem qxe : (fun p0 p1 p2 p3=>q3t p0 p1 p2 p3) = (fun p0 p1 p2 p3=>U0 qO p0 p1 p2 p3):=by
  funext p0 p1 p2 p3
  simp only [q3t,U0,qxg]
  all_goals repeat' first | with_reducible rfl | (refine funext fun (m : Sum _ _)=>?_;cases m <;> (first | with_reducible rfl | rfl)) | (congr 1) | funext _
  done
theorem qk9  : ∀ p0 p1 p2 p3,q3t p0 p1 p2 p3 = U0 qO p0 p1 p2 p3:=fun p0 p1 p2 p3=>(congrFun (congrFun (congrFun (congrFun qxe p0) p1) p2) p3)
theorem qvw : (fun p2 p1=>q5i p2 p1) = (fun p2 p1=>Ui qO p2 p1):=by
  funext p2 p1 a123
  simp only [q5i,Ui,qk9]
  all_goals repeat' first | with_reducible rfl | (refine funext fun (m : Sum _ _)=>?_;cases m <;> (first | with_reducible rfl | rfl)) | (congr 1) | funext _
  done
theorem qvx  : ∀ p2 p1,q5i p2 p1 = Ui qO p2 p1:=fun p2 p1=>(congrFun (congrFun qvw p2) p1)
theorem qvy : (fun p1=>q5j p1) = (fun p1=>Uj p1 qO):=by
  funext p1 a191
  simp only [q5j,Uj,qk9]
  all_goals repeat' first | with_reducible rfl | (refine funext fun (m : Sum _ _)=>?_;cases m <;> (first | with_reducible rfl | rfl)) | (congr 1) | funext _
  done
theorem qvz  : ∀ p1,q5j p1 = Uj p1 qO:=fun p1=>(congrFun qvy p1)
theorem qvu : (fun p0 p1 p2=>q5h p0 p1 p2) = (fun p0 p1 p2=>q1b qO p0 p1 p2):=by
  funext p0 p1 p2
  simp only [q5h,q1b,qvx,qvz]
  all_goals repeat' first | with_reducible rfl | (refine funext fun (m : Sum _ _)=>?_;cases m <;> (first | with_reducible rfl | rfl)) | (congr 1) | funext _
  done
theorem qvv  : ∀ p0 p1 p2,q5h p0 p1 p2 = q1b qO p0 p1 p2:=fun p0 p1 p2=>(congrFun (congrFun (congrFun qvu p0) p1) p2)
theorem qw9 : (fun p0=>Ux p0) = (fun p0=>q1d p0):=by
  funext p0
  simp only [Ux,q1d,qk7]
  all_goals repeat' first | with_reducible rfl | (refine funext fun (m : Sum _ _)=>?_;cases m <;> (first | with_reducible rfl | rfl)) | (congr 1) | funext _
  done
theorem qwa  : ∀ p0,Ux p0 = q1d p0:=fun p0=>(congrFun qw9 p0)
theorem qxi : (fun p0=>Uy p0) = (fun p0=>q1h p0):=by
  funext p0
  simp only [Uy,q1h]
  all_goals repeat' first | with_reducible rfl | (refine funext fun (m : Sum _ _)=>?_;cases m <;> (first | with_reducible rfl | rfl)) | (congr 1) | funext _
  done
theorem qxj  : ∀ p0,Uy p0 = q1h p0:=fun p0=>(congrFun qxi p0)
theorem qvq : (fun p1 p2 r101=>q5f p1 p2 r101) = (fun p1 p2 r101=>Jr p1 p2 r101):=by
  funext p1 p2 r101 a153
  simp only [q5f,Jr,qxj]
  all_goals repeat' first | with_reducible rfl | (refine funext fun (m : Sum _ _)=>?_;cases m <;> (first | with_reducible rfl | rfl)) | (congr 1) | funext _
  done
theorem qvr  : ∀ p1 p2 r101,q5f p1 p2 r101 = Jr p1 p2 r101:=fun p1 p2 r101=>(congrFun (congrFun (congrFun qvq p1) p2) r101)
theorem qvo : (fun p0 p1 p2=>q5e p0 p1 p2) = (fun p0 p1 p2=>Uh qO p0 p1 p2):=by
  funext p0 p1 p2
  simp only [q5e,Uh,qwa,qvr]
  all_goals repeat' first | with_reducible rfl | (refine funext fun (m : Sum _ _)=>?_;cases m <;> (first | with_reducible rfl | rfl)) | (congr 1) | funext _
  done
theorem qvp  : ∀ p0 p1 p2,q5e p0 p1 p2 = Uh qO p0 p1 p2:=fun p0 p1 p2=>(congrFun (congrFun (congrFun qvo p0) p1) p2)
theorem qwb : (fun p0 p1 p2 p3=>q22 p0 p1 p2 p3) = (fun p0 p1 p2 p3=>Jt qO p0 p1 p2 p3):=by
  funext p0 p1 p2 p3
  simp only [q22,Jt,Zg,Zh,Option.bind_some,Z8]
  all_goals repeat' first | with_reducible rfl | (refine funext fun (m : Sum _ _)=>?_;cases m <;> (first | with_reducible rfl | rfl)) | (congr 1) | funext _
  done
theorem qwc  : ∀ p0 p1 p2 p3,q22 p0 p1 p2 p3 = Jt qO p0 p1 p2 p3:=fun p0 p1 p2 p3=>(congrFun (congrFun (congrFun (congrFun qwb p0) p1) p2) p3)
theorem qw6 : (fun p0 p1 p2 p3 p4=>q3n p0 p1 p2 p3 p4) = (fun p0 p1 p2 p3 p4=>Js qO p0 p1 p2 p3 p4):=by
  funext p0 p1 p2 p3 p4
  simp only [q3n,Js,qwc]
  all_goals repeat' first | with_reducible rfl | (refine funext fun (m : Sum _ _)=>?_;cases m <;> (first | with_reducible rfl | rfl)) | (congr 1) | funext _
  done
theorem qk8  : ∀ p0 p1 p2 p3 p4,q3n p0 p1 p2 p3 p4 = Js qO p0 p1 p2 p3 p4:=fun p0 p1 p2 p3 p4=>(congrFun (congrFun (congrFun (congrFun (congrFun qw6 p0) p1) p2) p3) p4)
theorem qw7 : (fun p0 p1 p2=>q21 p0 p1 p2) = (fun p0 p1 p2=>Jc qO p0 p1 p2):=by
  funext p0 p1 p2
  simp only [q21,Jc,qk8]
  all_goals repeat' first | with_reducible rfl | (refine funext fun (m : Sum _ _)=>?_;cases m <;> (first | with_reducible rfl | rfl)) | (congr 1) | funext _
  done
theorem qw8  : ∀ p0 p1 p2,q21 p0 p1 p2 = Jc qO p0 p1 p2:=fun p0 p1 p2=>(congrFun (congrFun (congrFun qw7 p0) p1) p2)
theorem qvs : (fun p0 p1 p2=>q5g p0 p1 p2) = (fun p0 p1 p2=>q1a p0 p1 p2 qO):=by
  funext p0 p1 p2
  simp only [q5g,q1a,qk8,qw8]
  all_goals repeat' first | with_reducible rfl | (refine funext fun (m : Sum _ _)=>?_;cases m <;> (first | with_reducible rfl | rfl)) | (congr 1) | funext _
  done
theorem qvt  : ∀ p0 p1 p2,q5g p0 p1 p2 = q1a p0 p1 p2 qO:=fun p0 p1 p2=>(congrFun (congrFun (congrFun qvs p0) p1) p2)
theorem qxd : q8t = q1g:=by
  funext a119
  simp only [q8t,q1g]
  all_goals repeat' first | with_reducible rfl | (refine funext fun (m : Sum _ _)=>?_;cases m <;> (first | with_reducible rfl | rfl)) | (congr 1) | funext _
  done
theorem qxb : (fun p0 p1 p2=>q66 p0 p1 p2) = (fun p0 p1 p2=>Up qO p0 p1 p2):=by
  funext p0 p1 p2
  simp only [q66,Up,qxd]
  all_goals repeat' first | with_reducible rfl | (refine funext fun (m : Sum _ _)=>?_;cases m <;> (first | with_reducible rfl | rfl)) | (congr 1) | funext _
  done
theorem qxc  : ∀ p0 p1 p2,q66 p0 p1 p2 = Up qO p0 p1 p2:=fun p0 p1 p2=>(congrFun (congrFun (congrFun qxb p0) p1) p2)
theorem qwh : (fun p2 a432=>q5q p2 a432) = (fun p2 a432=>Ju p2 a432 qO):=by
  funext p2 a432 a667
  simp only [q5q,Ju,Zg,Zh,Option.bind_some,Z8]
  all_goals repeat' first | with_reducible rfl | (refine funext fun (m : Sum _ _)=>?_;cases m <;> (first | with_reducible rfl | rfl)) | (congr 1) | funext _
  done
theorem qwi  : ∀ p2 a432,q5q p2 a432 = Ju p2 a432 qO:=fun p2 a432=>(congrFun (congrFun qwh p2) a432)
theorem qwj : q8g = Jv qO:=by
  funext a822
  simp only [q8g,Jv,Zg,Zh,Option.bind_some,Z8]
  all_goals repeat' first | with_reducible rfl | (refine funext fun (m : Sum _ _)=>?_;cases m <;> (first | with_reducible rfl | rfl)) | (congr 1) | funext _
  done
theorem qwk : (fun p2 b670=>q5r p2 b670) = (fun p2 b670=>Jw p2 qO b670):=by
  funext p2 b670 a912
  simp only [q5r,Jw,Zg,Zh,Option.bind_some,Z8]
  all_goals repeat' first | with_reducible rfl | (refine funext fun (m : Sum _ _)=>?_;cases m <;> (first | with_reducible rfl | rfl)) | (congr 1) | funext _
  done
theorem qwl  : ∀ p2 b670,q5r p2 b670 = Jw p2 qO b670:=fun p2 b670=>(congrFun (congrFun qwk p2) b670)
theorem qwf : (fun p2 p1=>q3q p2 p1) = (fun p2 p1=>Z5 p2 qO p1):=by
  funext p2 p1 a432
  have mm : @q3q.match_1.{1} = @Z5.match_1.{1} Int:=by funext motive m f g;cases m <;> rfl
  unfold q3q Z5;rw [mm]
  simp only [qwi,qwj,qwl]
  all_goals repeat' first | with_reducible rfl | (congr 1) | funext _
  done
theorem qwg  : ∀ p2 p1,q3q p2 p1 = Z5 p2 qO p1:=fun p2 p1=>(congrFun (congrFun qwf p2) p1)
theorem qwd : (fun p0 p1 p2=>q3p p0 p1 p2) = (fun p0 p1 p2=>Jd qO p0 p1 p2):=by
  funext p0 p1 p2
  have mm : @q3p.match_1.{1} = @Jd.match_1.{1} Int:=by funext motive m f g;cases m <;> rfl
  unfold q3p Jd;rw [mm]
  simp only [qwg]
  all_goals repeat' first | with_reducible rfl | (congr 1) | funext _
  done
theorem qwe  : ∀ p0 p1 p2,q3p p0 p1 p2 = Jd qO p0 p1 p2:=fun p0 p1 p2=>(congrFun (congrFun (congrFun qwd p0) p1) p2)
theorem qwr : (fun a304 p1=>q5u a304 p1) = (fun a304 p1=>Jx a304 p1 qO):=by
  funext a304 p1 a360
  simp only [q5u,Jx,Zg,Zh,Option.bind_some,Z8]
  all_goals repeat' first | with_reducible rfl | (refine funext fun (m : Sum _ _)=>?_;cases m <;> (first | with_reducible rfl | rfl)) | (congr 1) | funext _
  done
theorem qws  : ∀ a304 p1,q5u a304 p1 = Jx a304 p1 qO:=fun a304 p1=>(congrFun (congrFun qwr a304) p1)
theorem qwt : (fun b363 a304 p1=>q5v b363 a304 p1) = (fun b363 a304 p1=>Jy b363 a304 p1 qO):=by
  funext b363 a304 p1 a439
  simp only [q5v,Jy,Zg,Zh,Option.bind_some,Z8]
  all_goals repeat' first | with_reducible rfl | (refine funext fun (m : Sum _ _)=>?_;cases m <;> (first | with_reducible rfl | rfl)) | (congr 1) | funext _
  done
theorem qwu  : ∀ b363 a304 p1,q5v b363 a304 p1 = Jy b363 a304 p1 qO:=fun b363 a304 p1=>(congrFun (congrFun (congrFun qwt b363) a304) p1)
theorem qwp : (fun p1=>q5t p1) = (fun p1=>Un p1 qO):=by
  funext p1 a304
  simp only [q5t,Un,qws,qwu]
  all_goals repeat' first | with_reducible rfl | (refine funext fun (m : Sum _ _)=>?_;cases m <;> (first | with_reducible rfl | rfl)) | (congr 1) | funext _
  done
theorem qwq  : ∀ p1,q5t p1 = Un p1 qO:=fun p1=>(congrFun qwp p1)
theorem qwn : (fun p0 p1 p2 p3=>q5s p0 p1 p2 p3) = (fun p0 p1 p2 p3=>Um qO p0 p1 p2 p3):=by
  funext p0 p1 p2 p3
  simp only [q5s,Um,qwq]
  all_goals repeat' first | with_reducible rfl | (refine funext fun (m : Sum _ _)=>?_;cases m <;> (first | with_reducible rfl | rfl)) | (congr 1) | funext _
  done
theorem qwo  : ∀ p0 p1 p2 p3,q5s p0 p1 p2 p3 = Um qO p0 p1 p2 p3:=fun p0 p1 p2 p3=>(congrFun (congrFun (congrFun (congrFun qwn p0) p1) p2) p3)
theorem qww : (fun p2 p0 p1 v101 p3 v103=>q5x p2 p0 p1 v101 p3 v103) = (fun p2 p0 p1 v101 p3 v103=>q1e p2 p0 p1 v101 p3 v103 qO):=by
  funext p2 p0 p1 v101 p3 v103 a159
  simp only [q5x,q1e,Zg,Zh,Option.bind_some,Z8]
  all_goals repeat' first | with_reducible rfl | (refine funext fun (m : Sum _ _)=>?_;cases m <;> (first | with_reducible rfl | rfl)) | (congr 1) | funext _
  done
theorem qwx  : ∀ p2 p0 p1 v101 p3 v103,q5x p2 p0 p1 v101 p3 v103 = q1e p2 p0 p1 v101 p3 v103 qO:=fun p2 p0 p1 v101 p3 v103=>(congrFun (congrFun (congrFun (congrFun (congrFun (congrFun qww p2) p0) p1) v101) p3) v103)
theorem qwy : (fun b162 p0 p1 v101 p3 v103=>q5y b162 p0 p1 v101 p3 v103) = (fun b162 p0 p1 v101 p3 v103=>q1f b162 p0 p1 v101 p3 v103 qO):=by
  funext b162 p0 p1 v101 p3 v103 a239
  simp only [q5y,q1f,Zg,Zh,Option.bind_some,Z8]
  all_goals repeat' first | with_reducible rfl | (refine funext fun (m : Sum _ _)=>?_;cases m <;> (first | with_reducible rfl | rfl)) | (congr 1) | funext _
  done
theorem qwz  : ∀ b162 p0 p1 v101 p3 v103,q5y b162 p0 p1 v101 p3 v103 = q1f b162 p0 p1 v101 p3 v103 qO:=fun b162 p0 p1 v101 p3 v103=>(congrFun (congrFun (congrFun (congrFun (congrFun (congrFun qwy b162) p0) p1) v101) p3) v103)
theorem qx2 : (fun a488 p1=>q60 a488 p1) = (fun a488 p1=>Ze a488 p1 qO):=by
  funext a488 p1 a542
  simp only [q60,Ze,Zg,Zh,Option.bind_some,Z8]
  all_goals repeat' first | with_reducible rfl | (refine funext fun (m : Sum _ _)=>?_;cases m <;> (first | with_reducible rfl | rfl)) | (congr 1) | funext _
  done
theorem qx3  : ∀ a488 p1,q60 a488 p1 = Ze a488 p1 qO:=fun a488 p1=>(congrFun (congrFun qx2 a488) p1)
theorem qx4 : (fun b545 a488 p1=>q61 b545 a488 p1) = (fun b545 a488 p1=>Zf b545 a488 p1 qO):=by
  funext b545 a488 p1 a622
  simp only [q61,Zf,Zg,Zh,Option.bind_some,Z8]
  all_goals repeat' first | with_reducible rfl | (refine funext fun (m : Sum _ _)=>?_;cases m <;> (first | with_reducible rfl | rfl)) | (congr 1) | funext _
  done
theorem qx5  : ∀ b545 a488 p1,q61 b545 a488 p1 = Zf b545 a488 p1 qO:=fun b545 a488 p1=>(congrFun (congrFun (congrFun qx4 b545) a488) p1)
theorem qx0 : (fun p1=>q5z p1) = (fun p1=>Uo p1 qO):=by
  funext p1 a488
  simp only [q5z,Uo,qx3,qx5]
  all_goals repeat' first | with_reducible rfl | (refine funext fun (m : Sum _ _)=>?_;cases m <;> (first | with_reducible rfl | rfl)) | (congr 1) | funext _
  done
theorem qx1  : ∀ p1,q5z p1 = Uo p1 qO:=fun p1=>(congrFun qx0 p1)
theorem qwm : (fun p0 p1 p2 p3=>q5w p0 p1 p2 p3) = (fun p0 p1 p2 p3=>Ul qO p0 p1 p2 p3):=by
  funext p0 p1 p2 p3
  simp only [q5w,Ul,qwx,qwz,qx1]
  all_goals repeat' first | with_reducible rfl | (refine funext fun (m : Sum _ _)=>?_;cases m <;> (first | with_reducible rfl | rfl)) | (congr 1) | funext _
  done
theorem qwv  : ∀ p0 p1 p2 p3,q5w p0 p1 p2 p3 = Ul qO p0 p1 p2 p3:=fun p0 p1 p2 p3=>(congrFun (congrFun (congrFun (congrFun qwm p0) p1) p2) p3)
theorem qx7 : (fun rec=>q3r rec) = (fun rec=>Yn qO rec):=by
  funext rec a305
  have mm : @q3r.match_1.{1} = @Yn.match_1.{1} Int:=by funext motive m f g;cases m <;> rfl
  unfold q3r Yn;rw [mm]
  simp only [qw1,qvv,qvp,qvt,qxc,qwe,qwo,qwv,Zg,Zh,Option.bind_some,Z8]
  all_goals repeat' first | with_reducible rfl | (congr 1) | funext _
  done
theorem qx8  : ∀ rec,q3r rec = Yn qO rec:=fun rec=>(congrFun qx7 rec)
theorem qx9 : (fun rec p0 p1 p2 p3=>q3s rec p0 p1 p2 p3) = (fun rec p0 p1 p2 p3=>Jz rec qO p0 p1 p2 p3):=by
  funext rec p0 p1 p2 p3
  simp only [q3s,Jz,qx8]
  all_goals repeat' first | with_reducible rfl | (refine funext fun (m : Sum _ _)=>?_;cases m <;> (first | with_reducible rfl | rfl)) | (congr 1) | funext _
  done
theorem qxa  : ∀ rec p0 p1 p2 p3,q3s rec p0 p1 p2 p3 = Jz rec qO p0 p1 p2 p3:=fun rec p0 p1 p2 p3=>(congrFun (congrFun (congrFun (congrFun (congrFun qx9 rec) p0) p1) p2) p3)
theorem qx6 : ∀ N,q65 N = Yh N qO:=by
  intro N
  induction N with
  | zero=>rfl
  | succ N ih=>
    funext a b c d
    show q3s (q65 N) a b c d = Jz (Yh N qO) qO a b c d
    rw [ih,qxa]
theorem qvm : (fun p0=>U9 p0) = (fun p0=>q19 qO p0):=by
  funext p0
  simp only [U9,q19,qk7,qx6]
  all_goals repeat' first | with_reducible rfl | (refine funext fun (m : Sum _ _)=>?_;cases m <;> (first | with_reducible rfl | rfl)) | (congr 1) | funext _
  done
theorem qvn  : ∀ p0,U9 p0 = q19 qO p0:=fun p0=>(congrFun qvm p0)
end Go.Sh
namespace Go.Sh
open Go Go.Am
theorem Yp {α β : Type} {f : α→Option (α ⊕ β)} (st : Nat→α) (n : Nat) (b : β) (hs : ∀ k,k < n→f (st k) = some (.inl (st (k + 1)))) (hd : f (st n) = some (.inr b)) : ∀ {k : Nat},k≤n→loop f (st k) = some b:=by
  have key : ∀ m k,n - k = m→k≤n→loop f (st k) = some b:=by
    intro m
    induction m with
    | zero => intro k hm hk; obtain rfl : k = n := by omega
              exact K0 hd
    | succ m ih=>intro k hm hk;rw [K1 (hs k (by omega))];exact ih (k + 1) (by omega) (by omega)
  intro k hk
  exact key _ k rfl hk
theorem w64s {k : Nat} {n : Nat} (h : k < n) (hn : n≤1000000) : w64 ((k : Int) + 1) = ((k + 1 : Nat) : Int):=by rw [qz (by omega)];omega
theorem dlt {k n : Nat} (h : k < n) : decide ((k : Int) < (n : Int)) = true:=decide_eq_true (by omega)
theorem dnl {n : Nat} : decide ((n : Int) < (n : Int)) = false:=decide_eq_false (by omega)
theorem Zs {α β γ : Type} (src : List α) (hl : src.length≤1000000) (h : α→List γ) (out : List γ) (fin : List γ→β) (f : Int × List γ→Option ((Int × List γ) ⊕ β))
    (hs : ∀ (k : Nat) (hk : k < src.length) (o : List γ),o = out ++ (src.take k).flatMap h→f ((k : Int),o) = some (.inl (((k + 1 : Nat) : Int),o ++ h src[k])))
    (hd : ∀ o,f ((src.length : Int),o) = some (.inr (fin o))) : loop f (0,out) = some (fin (out ++ src.flatMap h)):=by
  have e : ∀ k (hk : k < src.length),(src.take (k + 1)).flatMap h = (src.take k).flatMap h ++ h src[k]:=fun k hk=>by
    rw [List.take_succ_eq_append_getElem hk,List.flatMap_append,List.flatMap_cons,List.flatMap_nil,List.append_nil]
  have:=Yp (f:=f) (fun k=>((k : Int),out ++ (src.take k).flatMap h)) src.length (fin (out ++ src.flatMap h)) (fun k hk=>by
    rw [hs k hk _ rfl,e k hk,List.append_assoc]) (by simp only [List.take_length];exact hd _) (Nat.zero_le _)
  simpa using this
theorem q1m {α β γ : Type} (src : List α) (h : α→γ) (out : List γ) (fin : List γ→β) (f : Int × List γ→Option ((Int × List γ) ⊕ β))
    (hs : ∀ (k : Nat) (hk : k < src.length) (o : List γ),o.length = out.length + k→f ((k : Int),o) = some (.inl (((k + 1 : Nat) : Int),o ++ [h src[k]])))
    (hd : ∀ o,f ((src.length : Int),o) = some (.inr (fin o))) : loop f (0,out) = some (fin (out ++ src.map h)):=by
  have e : ∀ k (hk : k < src.length),(src.take (k + 1)).map h = (src.take k).map h ++ [h src[k]]:=fun k hk=>by
    rw [List.take_succ_eq_append_getElem hk,List.map_append,List.map_cons,List.map_nil]
  have:=Yp (f:=f) (fun k=>((k : Int),out ++ (src.take k).map h)) src.length (fin (out ++ src.map h)) (fun k hk=>by
    rw [hs k hk _ (by simp;omega),e k hk,List.append_assoc]) (by simp only [List.take_length];exact hd _) (Nat.zero_le _)
  simpa using this
theorem q6z {γ : Type} (g : γ→γ) (a b : List γ) (hl : (a ++ b).length≤1000000) (f : Int × List γ→Option ((Int × List γ) ⊕ (List γ)))
    (hs : ∀ (k : Nat) (o : List γ) (hk : k < o.length),o.length = (a ++ b).length→f ((k : Int),o) = some (.inl (((k + 1 : Nat) : Int),o.set k (g o[k]))))
    (hd : ∀ o : List γ,f ((o.length : Int),o) = some (.inr o)) : loop f ((a.length : Int),a ++ b) = some (a ++ b.map g):=by
  have hl' : a.length + b.length≤1000000:=by simpa using hl
  have key:=Yp (f:=f) (fun k=>(((a.length + k : Nat) : Int),a ++ ((b.take k).map g ++ b.drop k))) b.length (a ++ b.map g) (fun k hk=>by
    have hlen : (a ++ ((b.take k).map g ++ b.drop k)).length = (a ++ b).length:=by simp;omega
    have hk' : a.length + k < (a ++ ((b.take k).map g ++ b.drop k)).length:=by rw [hlen];simp;omega
    rw [hs (a.length + k) _ hk' hlen]
    have hm : ((b.take k).map g).length = k:=by simp;omega
    have e : (a ++ ((b.take k).map g ++ b.drop k))[a.length + k]'hk' = b[k]:=by
      rw [List.getElem_append_right (by omega)]
      rw [List.getElem_append_right (by rw [hm];omega)]
      simp [List.length_take,Nat.min_eq_left (Nat.le_of_lt hk)]
    rw [e]
    congr 4
    rw [List.set_append,if_neg (by omega),List.set_append,if_neg (by rw [hm];omega),hm]
    have z : a.length + k - a.length - k = 0:=by omega
    rw [z,List.take_succ_eq_append_getElem hk,List.drop_eq_getElem_cons hk,List.set_cons_zero,List.map_append,List.map_cons,List.map_nil,List.append_assoc]
    rfl) (by
    simp only [List.take_length,List.drop_length,List.append_nil]
    have:=hd (a ++ b.map g)
    simpa using this) (Nat.zero_le _)
  simpa using key
theorem q15 {α γ υ : Type} (l : List α) (c : α→Bool) (res : (k : Nat)→k < l.length→γ) (u : υ) (f : Int→Option (Int ⊕ (υ ⊕ γ)))
    (hs : ∀ (k : Nat) (h : k < l.length),f (k : Int) = some (if c l[k] = true then .inr (.inr (res k h)) else .inl ((k + 1 : Nat) : Int))) (hd : f (l.length : Int) = some (.inr (.inl u))) :
    ((∀ v∈l,c v = false)∧loop f 0 = some (.inl u))∨∃ k,∃ h : k < l.length,c l[k] = true∧(∀ j (hj : j < k),c (l[j]'(by omega)) = false)∧loop f 0 = some (.inr (res k h)):=by
  by_cases hh : ∀ v∈l,c v = false
  · refine .inl ⟨hh,?_⟩
    exact Yp (f:=f) (fun k=>(k : Int)) l.length _ (fun k hk=>by rw [hs k hk,hh _ (List.getElem_mem hk)];rfl) hd (Nat.zero_le _)
  · refine .inr ?_
    have : ∃ k,∃ h : k < l.length,c l[k] = true:=by
      refine Classical.byContradiction fun hn=>hh fun v hv=>?_
      obtain ⟨k,hk,rfl⟩:=List.getElem_of_mem hv
      cases hc : c l[k]
      · rfl
      · exact absurd ⟨k,hk,hc⟩ hn
    have h2 : ∃ k,(∃ h : k < l.length,c l[k] = true)∧∀ j,j < k→¬ ∃ h : j < l.length,c l[j] = true:=by
      obtain ⟨k,hk⟩:=this
      induction k using Nat.strongRecOn with
      | _ k ih=>
        by_cases hj : ∃ j,j < k∧∃ h : j < l.length,c l[j] = true
        · obtain ⟨j,h1,h2⟩:=hj;exact ih j h1 h2
        · exact ⟨k,hk,fun j h1 h2=>hj ⟨j,h1,h2⟩⟩
    obtain ⟨k,⟨hk,hc⟩,hmin⟩:=h2
    have hmin' : ∀ j (hj : j < k),c (l[j]'(by omega)) = false:=fun j hj=>by
      cases h : c (l[j]'(by omega))
      · rfl
      · exact absurd ⟨by omega,h⟩ (hmin j hj)
    refine ⟨k,hk,hc,hmin',?_⟩
    exact Yp (f:=f) (fun k=>(k : Int)) k _ (fun j hj=>by rw [hs j (by omega),hmin' j hj];rfl) (by rw [hs k hk,if_pos hc]) (Nat.zero_le _)
theorem qke : ∀ {l a b : List Int},Y6 l a→Y6 l b→a = b:=by
  have key : ∀ (a b : List Int),a.Pairwise (· < ·)→b.Pairwise (· < ·)→(∀ x,x∈a↔x∈b)→a = b:=by
    intro a
    induction a with
    | nil=>intro b _ _ h;cases b with
      | nil=>rfl
      | cons y b=>exact absurd ((h y).2 (by simp)) (by simp)
    | cons x a ih=>
      intro b ha hb h
      cases b with
      | nil=>exact absurd ((h x).1 (by simp)) (by simp)
      | cons y b=>
        rw [List.pairwise_cons] at ha hb
        have hxy : x = y:=by
          rcases List.mem_cons.1 ((h x).1 (by simp)) with h1 | h1
          · exact h1
          · rcases List.mem_cons.1 ((h y).2 (by simp)) with h2 | h2
            · exact h2.symm
            · have:=hb.1 _ h1;have:=ha.1 _ h2;omega
        subst hxy
        rw [ih b ha.2 hb.2 fun z=>?_]
        constructor
        · intro hz
          rcases List.mem_cons.1 ((h z).1 (by simp [hz])) with h1 | h1
          · have:=ha.1 _ hz;omega
          · exact h1
        · intro hz
          rcases List.mem_cons.1 ((h z).2 (by simp [hz])) with h1 | h1
          · have:=hb.1 _ hz;omega
          · exact h1
  intro l a b ha hb
  exact key a b ha.1 hb.1 fun x=>(ha.2 x).trans (hb.2 x).symm
def ltI (a b : Int) : Bool:=decide (a < b)
theorem swoI : Sort.SWO ltI where
  irrefl:=by intro x;simp [ltI]
  trans:=by intro x y z;simp only [ltI,decide_eq_true_eq];omega
  ntrans:=by intro x y z;simp only [ltI,decide_eq_false_iff_not];omega
theorem cmpI : K6 qO ltI (fun _=>True):=by
  intro x y _ _
  refine ⟨sg x y,rfl,?_⟩
  rw [Z8];rfl
theorem qkd (l : List Int) (hl : l.length≤1000000) : ∃ ys,U9 l = some ys∧ys.Perm l∧ys.Pairwise (·≤·):=by
  obtain ⟨ys,h1,h2,h3⟩:=qkc cmpI swoI l hl (fun _ _=>trivial)
  refine ⟨ys,by rw [qvn];exact h1,h2,h3.imp ?_⟩
  intro a b h
  simp only [ltI,decide_eq_false_iff_not] at h
  omega
end Go.Sh
namespace Go.Sh
open Go Go.Am
structure CInv (p : List Int) (k k2 i : Nat) (a : List Int) : Prop where
  len : a.length = p.length
  hi : i≤k + k2 - 1
  same : ∀ j (h : j < p.length),k + k2 - 1≤j→a[j]? = some p[j]
  so : Y6 (p.take (k + k2)) (a.take i)
theorem qn9 {p : List Int} (hp : p.Pairwise (·≤·)) (hl : p.length≤1000000) {k k2 i : Nat} {a : List Int} (hk : 0 < k) (h2 : 0 < k2) (hn : k + k2 < p.length) (h : CInv p k k2 i a) :
    ∃ (i' : Nat) (a' : List Int),Uw ((i : Int),(k,p.length - k),(k2 : Int),a) = some (.inl ((i' : Int),(k,p.length - k),((k2 + 1 : Nat) : Int),a'))∧CInv p k (k2 + 1) i' a':=by
  obtain ⟨h1,h3,h4,h5,h6⟩:=h
  have hb : decide ((k2 : Int) < ((p.length - k : Nat) : Int)) = true:=dlt (by omega)
  have r1 : idxW a (k,p.length - k) (k2 : Int) = some (p[k + k2]):=by
    unfold idxW;rw [if_pos ⟨by omega,by omega⟩]
    simp only [Int.toNat_natCast]
    exact h4 (k + k2) hn (by omega)
  have r2 : idxW a (k,p.length - k) (w64 ((k2 : Int) - 1)) = some (p[k + k2 - 1]):=by
    rw [qz (by omega)]
    have e : (k2 : Int) - 1 = ((k2 - 1 : Nat) : Int):=by omega
    rw [e];unfold idxW;rw [if_pos ⟨by omega,by omega⟩]
    simp only [Int.toNat_natCast]
    have:=h4 (k + k2 - 1) (by omega) (by omega)
    rw [show k + (k2 - 1) = k + k2 - 1 by omega];exact this
  have hle : p[k + k2 - 1]≤p[k + k2]:=List.pairwise_iff_getElem.1 hp _ _ (by omega) hn (by omega)
  have hmem : p[k + k2 - 1]∈p.take (k + k2):=by
    rw [List.mem_take_iff_getElem];exact ⟨k + k2 - 1,by omega,rfl⟩
  have htk : p.take (k + (k2 + 1)) = p.take (k + k2) ++ [p[k + k2]]:=by rw [← Nat.add_assoc,List.take_succ_eq_append_getElem hn]
  have hw : w64 ((k2 : Int) + 1) = ((k2 + 1 : Nat) : Int):=w64s (n:=p.length) (by omega) hl
  by_cases he : p[k + k2] = p[k + k2 - 1]
  · refine ⟨i,a,?_,h1,by omega,fun j hj hge=>h4 j hj (by omega),?_⟩
    · have hne : (p[k + k2] != p[k + k2 - 1]) = false:=by rw [he];simp
      simp only [Uw,hb,cond_true,r1,r2,Option.bind_some,hne,cond_false,hw]
    · rw [htk]
      refine ⟨h5,fun x=>?_⟩
      rw [h6 x]
      constructor
      · intro hx;exact List.mem_append.2 (.inl hx)
      · intro hx
        rcases List.mem_append.1 hx with h | h
        · exact h
        · simp only [List.mem_singleton] at h;rw [h,he];exact hmem
  · have hne : (p[k + k2] != p[k + k2 - 1]) = true:=by simpa using he
    have hia : i < a.length:=by omega
    have r3 : idx a (i : Int) = some a[i]:=Qf hia
    have hw' : w64 ((i : Int) + 1) = ((i + 1 : Nat) : Int):=w64s (n:=p.length) (by omega) hl
    refine ⟨i + 1,a.set i p[k + k2],?_,by simpa using h1,by omega,fun j hj hge=>?_,?_⟩
    · simp only [Uw,hb,cond_true,r1,r2,Option.bind_some,hne,r3,hw,hw',Int.toNat_natCast]
    · rw [List.getElem?_set_ne (by omega)];exact h4 j hj (by omega)
    · have e : (a.set i p[k + k2]).take (i + 1) = a.take i ++ [p[k + k2]]:=by
        rw [List.take_succ_eq_append_getElem (by simpa using hia)]
        simp [List.take_set_of_le]
      rw [e,htk]
      refine ⟨?_,fun x=>?_⟩
      · rw [List.pairwise_append]
        refine ⟨h5,by simp,fun x hx y hy=>?_⟩
        simp only [List.mem_singleton] at hy;subst hy
        have hx':=(h6 x).1 hx
        rw [List.mem_take_iff_getElem] at hx'
        obtain ⟨j,hj,rfl⟩:=hx'
        have : p[j]≤p[k + k2 - 1]:=by
          by_cases hjj : j = k + k2 - 1
          · subst hjj;exact Int.le_refl _
          · exact List.pairwise_iff_getElem.1 hp _ _ (by omega) (by omega) (by omega)
        omega
      · rw [List.mem_append,List.mem_append,h6 x]
theorem qn8 {p : List Int} (hp : p.Pairwise (·≤·)) (hl : p.length≤1000000) {k : Nat} (hk : 0 < k) (hkn : k < p.length) (h0 : Y6 (p.take (k + 1)) (p.take k)) :
    ∃ i : Nat,∃ a : List Int,loop Uw ((k : Int),(k,p.length - k),1,p) = some ((i : Int),a)∧a.length = p.length∧i≤p.length∧Y6 p (a.take i):=by
  have h:=Z7 (f:=Uw) (mk:=fun k2 (c : Nat × List Int)=>((c.1 : Int),(k,p.length - k),((k2 : Nat) : Int),c.2)) (p.length - k) (fun k2 c=>0 < k2∧CInv p k k2 c.1 c.2)
    (fun b=>∃ i : Nat,∃ a : List Int,b = ((i : Int),a)∧a.length = p.length∧i≤p.length∧Y6 p (a.take i))
    (fun k2 c hk2 hI=>by
      obtain ⟨i',a',e1,e2⟩:=qn9 hp hl hk hI.1 (by omega) hI.2
      exact .inl ⟨(i',a'),e1,by omega,e2⟩)
    (fun c hI=>by
      obtain ⟨hpos,h1,h3,h4,h5⟩:=hI
      refine ⟨((c.1 : Int),c.2),?_,c.1,c.2,rfl,h1,by omega,?_⟩
      · simp only [Uw,dnl,cond_false]
      · rwa [List.take_of_length_le (by omega)] at h5)
    (k0:=1) (c0:=(k,p)) (by omega) ⟨by omega,rfl,by simp,fun j hj _=>by simp [hj],h0⟩
  obtain ⟨b,hb,i,a,rfl,h2⟩:=h
  exact ⟨i,a,hb,h2⟩
theorem qg3 {p : List Int} (hp : p.Pairwise (·≤·)) (hl : p.length≤1000000) :
    ∃ w a,q1z p = some ((0,w),a)∧a.length = p.length∧w≤p.length∧Y6 p (a.take w):=by
  unfold q1z
  by_cases hs : p.length < 2
  · rw [decide_eq_true (by omega : (p.length : Int) < 2),cond_true]
    refine ⟨p.length,p,rfl,rfl,Nat.le_refl _,?_⟩
    rw [List.take_length]
    refine ⟨?_,fun x=>Iff.rfl⟩
    match p,hs with
    | [],_=>simp
    | [x],_=>simp
  rw [decide_eq_false (by omega : ¬ (p.length : Int) < 2),cond_false]
  have hsort : ∀ k,k≤p.length→(∀ j (hj : j < k),0 < j→∀ h : j < p.length,p[j]≠p[j - 1])→Y6 (p.take k) (p.take k):=by
    intro k hk hne
    refine ⟨?_,fun x=>Iff.rfl⟩
    rw [List.pairwise_iff_getElem]
    intro i j hi hj hij
    simp only [List.length_take] at hi hj
    simp only [List.getElem_take]
    have h1 : p[j - 1]≤p[j]:=List.pairwise_iff_getElem.1 hp _ _ (by omega) (by omega) (by omega)
    have h2:=hne j (by omega) (by omega) (by omega)
    have h3 : p[i]≤p[j - 1]:=by
      by_cases e : i = j - 1
      · subst e;exact Int.le_refl _
      · exact List.pairwise_iff_getElem.1 hp _ _ (by omega) (by omega) (by omega)
    omega
  have hstep : ∀ k,0 < k→∀ h : k < p.length,p[k]≠p[k - 1]→Zj p (k : Int) = some (.inl ((k + 1 : Nat) : Int)):=by
    intro k h0 h hne
    have r2 : idx p (w64 ((k : Int) - 1)) = some (p[k - 1]):=by rw [qz (by omega)];exact Uq (by omega) (by omega)
    have hb : (p[k] == p[k - 1]) = false:=by simpa using hne
    simp only [Zj,dlt h,cond_true,Qf h,r2,Option.bind_some,hb,cond_false,w64s h hl]
  by_cases hh : ∀ j,0 < j→∀ h : j < p.length,p[j]≠p[j - 1]
  · have h1 : loop (Zj p) 1 = some (.inl ()):=by
      exact Yp (f:=Zj p) (fun k=>((k + 1 : Nat) : Int)) (p.length - 1) _ (fun k hk=>by
        exact hstep (k + 1) (by omega) (by omega) (hh (k + 1) (by omega) (by omega))) (by
        show Zj p (((p.length - 1) + 1 : Nat) : Int) = _
        rw [show p.length - 1 + 1 = p.length by omega]
        simp only [Zj,dnl,cond_false]) (Nat.zero_le _)
    rw [h1]
    refine ⟨p.length,p,rfl,rfl,Nat.le_refl _,?_⟩
    have:=hsort p.length (Nat.le_refl _) fun j _ h0 h=>hh j h0 h
    rw [List.take_length] at this ⊢;exact this
  · have h2 : ∃ k,(0 < k∧∃ h : k < p.length,p[k] = p[k - 1])∧∀ j,j < k→¬ (0 < j∧∃ h : j < p.length,p[j] = p[j - 1]):=by
      have : ∃ k,0 < k∧∃ h : k < p.length,p[k] = p[k - 1]:=by
        refine Classical.byContradiction fun hn=>hh fun j h0 h he=>hn ⟨j,h0,h,he⟩
      obtain ⟨k,hk⟩:=this
      induction k using Nat.strongRecOn with
      | _ k ih=>
        by_cases hj : ∃ j,j < k∧(0 < j∧∃ h : j < p.length,p[j] = p[j - 1])
        · obtain ⟨j,h1,h2⟩:=hj;exact ih j h1 h2
        · exact ⟨k,hk,fun j h1 h2=>hj ⟨j,h1,h2⟩⟩
    obtain ⟨k,⟨h0,hk,he⟩,hmin⟩:=h2
    have hso : Y6 (p.take k) (p.take k):=hsort k (by omega) fun j hj h0 h he=>hmin j hj ⟨h0,h,he⟩
    have hso' : Y6 (p.take (k + 1)) (p.take k):=by
      refine ⟨hso.1,fun x=>?_⟩
      rw [List.take_succ_eq_append_getElem hk,List.mem_append]
      refine ⟨.inl,fun h=>h.elim id fun h=>?_⟩
      simp only [List.mem_singleton] at h
      rw [h,he,List.mem_take_iff_getElem]
      exact ⟨k - 1,by omega,rfl⟩
    obtain ⟨i,a,e1,e2,e3,e4⟩:=qn8 hp hl h0 hk hso'
    have s1 : sub2 p.length (k : Int) (p.length : Int) = some (k,p.length - k):=by unfold sub2;rw [if_pos ⟨by omega,by omega,by omega⟩];simp
    have s2 : sub2 a.length (i : Int) (a.length : Int) = some (i,a.length - i):=by unfold sub2;rw [if_pos ⟨by omega,by omega,by omega⟩];simp
    have s3 : sub2 a.length 0 (i : Int) = some (0,i):=by unfold sub2;rw [if_pos ⟨by omega,by omega,by omega⟩];simp
    have r2 : idx p (w64 ((k : Int) - 1)) = some (p[k - 1]):=by rw [qz (by omega)];exact Uq (by omega) (by omega)
    have h1 : loop (Zj p) 1 = some (.inr ((0,i),clrw a (i,a.length - i) 0)):=by
      exact Yp (f:=Zj p) (fun k=>((k + 1 : Nat) : Int)) (k - 1) _ (fun j hj=>by
        exact hstep (j + 1) (by omega) (by omega) fun he=>hmin (j + 1) (by omega) ⟨by omega,by omega,he⟩) (by
        show Zj p (((k - 1) + 1 : Nat) : Int) = _
        rw [show k - 1 + 1 = k by omega]
        have hb : (p[k] == p[k - 1]) = true:=by simpa using he
        simp only [Zj,dlt hk,cond_true,Qf hk,r2,Option.bind_some,hb,s1,e1,s2,s3]) (Nat.zero_le _)
    rw [h1]
    refine ⟨i,clrw a (i,a.length - i) 0,rfl,by rw [qfq (by simp;omega)];exact e2,e3,?_⟩
    have : (clrw a (i,a.length - i) 0).take i = a.take i:=by
      unfold clrw splice
      rw [List.append_assoc,List.take_append_of_le_length (by simp;omega)]
      simp [List.take_take]
    rw [this];exact e4
end Go.Sh
namespace Go.Sh
open Go Go.Am
theorem q6v {α : Type} [DecidableEq α] (e : α→α→Bool) (he : ∀ v w,e v w = decide (v = w)) (p q : List α) (hl : p.length≤1000000) (f : Int→Option (Int ⊕ (Unit ⊕ Bool)))
    (hf : ∀ k,f k = cond (decide (k < (p.length : Int))) ((idx p k).bind fun v=>(idx q k).bind fun w=>cond (!(e v w)) (some (.inr (.inr false))) (some (.inl (w64 (k + 1))))) (some (.inr (.inl ())))) :
    cond ((p.length : Int) != (q.length : Int)) (some false) ((loop f 0).bind fun m=>(match m with | .inl _=>some true | .inr x=>some x)) = some (decide (p = q)):=by
  by_cases hn : p.length = q.length
  · have : ((p.length : Int) != (q.length : Int)) = false:=by rw [hn];simp
    rw [this,cond_false]
    let c : Nat→Bool:=fun k=>if h : k < p.length then !(e p[k] (q[k]'(by omega))) else false
    have hs : ∀ (k : Nat) (h : k < (List.range p.length).length),f (k : Int) = some (if c (List.range p.length)[k] = true then .inr (.inr false) else .inl ((k + 1 : Nat) : Int)):=by
      intro k h
      have h : k < p.length:=by simpa using h
      rw [hf]
      simp only [dlt h,cond_true,Qf h,Qf (xs:=q) (k:=k) (by omega),Option.bind_some,List.getElem_range,c,dif_pos h,w64s h hl]
      cases e p[k] (q[k]'(by omega)) <;> simp
    have hd : f ((List.range p.length).length : Int) = some (.inr (.inl ())):=by rw [hf];simp []
    rcases q15 (List.range p.length) c (fun _ _=>false) () f hs hd with ⟨h1,h2⟩ | ⟨k,hk,hc,_,h2⟩
    · rw [h2]
      have : p = q:=by
        refine List.ext_getElem hn fun k h3 h4=>?_
        have:=h1 k (by simpa using h3)
        simp only [c,dif_pos h3,he,Bool.not_eq_false',decide_eq_true_eq] at this
        exact this
      simp [this]
    · rw [h2]
      have hk' : k < p.length:=by simpa using hk
      have : p≠q:=by
        intro h
        simp only [List.getElem_range,c,he,h] at hc
        simp at hc
      simp [this]
  · have : ((p.length : Int) != (q.length : Int)) = true:=by simpa using (fun h : (p.length : Int) = q.length=>hn (by omega))
    rw [this,cond_true]
    have : p≠q:=fun h=>hn (by rw [h])
    simp [this]
theorem qgg (p q : List qj) (hl : p.length≤1000000) : q81 p q = some (decide (p = q)):=
  q6v (fun v w=>((v.Lo == w.Lo) && ((v.Hi == w.Hi) && true))) (fun v w=>by cases v;cases w;rw [Bool.eq_iff_iff];simp) p q hl (qb4 p q) (fun _=>rfl)
theorem qe5 (p q : List qj) (hl : p.length≤1000000) : q2x p q = some (decide (p = q)):=
  q6v (fun v w=>((v.Lo == w.Lo) && ((v.Hi == w.Hi) && true))) (fun v w=>by cases v;cases w;rw [Bool.eq_iff_iff];simp) p q hl (qaq p q) (fun _=>rfl)
theorem q4c (p q : List qf) (hl : p.length≤1000000) : U7 p q = some (decide (p = q)):=
  q6v (fun v w=>((v.X0 == w.X0) && ((v.Y0 == w.Y0) && ((v.X1 == w.X1) && ((v.Y1 == w.Y1) && true))))) (fun v w=>by cases v;cases w;rw [Bool.eq_iff_iff];simp) p q hl (qb1 p q) (fun _=>rfl)
theorem qjo (p q : List qf) (hl : p.length≤1000000) : q4r p q = some (decide (p = q)):=
  q6v (fun v w=>((v.X0 == w.X0) && ((v.Y0 == w.Y0) && ((v.X1 == w.X1) && ((v.Y1 == w.Y1) && true))))) (fun v w=>by cases v;cases w;rw [Bool.eq_iff_iff];simp) p q hl (qas p q) (fun _=>rfl)
theorem sameBox (p q : List qg) (hl : p.length≤1000000) : qav p q = some (decide (p = q)):=
  q6v (fun v w=>((v.Lo.X == w.Lo.X) && ((v.Lo.Y == w.Lo.Y) && ((v.Lo.Z == w.Lo.Z) && ((v.Hi.X == w.Hi.X) && ((v.Hi.Y == w.Hi.Y) && ((v.Hi.Z == w.Hi.Z) && true))))))) (fun v w=>by rcases v with ⟨⟨_,_,_⟩,⟨_,_,_⟩⟩;rcases w with ⟨⟨_,_,_⟩,⟨_,_,_⟩⟩;rw [Bool.eq_iff_iff];simp [and_assoc]) p q hl (qaw p q) (fun _=>rfl)
structure Mg (σ β : Type) where
  done : List β
  sec : List σ
  lo : Int
  hi : Int
section
variable {σ β : Type} [DecidableEq σ] (put : Int→Int→σ→β)
def Mg.flat (s : Mg σ β) : List β:=s.done ++ s.sec.map (put s.lo s.hi)
def addM (s : Mg σ β) (a b : Int) (c : List σ) : Mg σ β:=if c≠[]∧c = s.sec∧s.hi = a then ⟨s.done,s.sec,s.lo,b⟩ else ⟨s.flat put,c,a,b⟩
def Qi : Mg σ β:=⟨[],[],0,0⟩
def Ql (s0 : Mg σ β) (steps : List (Int × Int × List σ)) : Mg σ β:=steps.foldl (fun s t=>addM put s t.1 t.2.1 t.2.2) s0
theorem q2g {s0 : Mg σ β} {steps : List (Int × Int × List σ)} {i : Nat} (h : i < steps.length) : Ql put s0 (steps.take (i + 1)) = addM put (Ql put s0 (steps.take i)) steps[i].1 steps[i].2.1 steps[i].2.2:=by
  unfold Ql
  rw [List.take_succ_eq_append_getElem h,List.foldl_append];rfl
theorem qf0 (s : Mg σ β) (a b : Int) (c : List σ) : (addM put s a b c).hi = b:=by unfold addM;split <;> rfl
theorem qle (s : Mg σ β) (a b : Int) (c : List σ) : ((addM put s a b c).flat put).length≤(s.flat put).length + c.length:=by
  unfold addM;split
  · simp [Mg.flat]
  · simp [Mg.flat];omega
theorem qa3 {s0 : Mg σ β} {M : Nat} : ∀ {steps : List (Int × Int × List σ)},(∀ t∈steps,t.2.2.length≤M)→((Ql put s0 steps).flat put).length≤(s0.flat put).length + steps.length * M:=by
  intro steps
  induction steps generalizing s0 with
  | nil=>intro _;simp [Ql]
  | cons t r ih=>
    intro h
    have h1:=ih (s0:=addM put s0 t.1 t.2.1 t.2.2) fun u hu=>h u (by simp [hu])
    have h2:=qle put s0 t.1 t.2.1 t.2.2
    have h3:=h t (by simp)
    have h4 : Ql put s0 (t::r) = Ql put (addM put s0 t.1 t.2.1 t.2.2) r:=rfl
    rw [h4]
    simp only [List.length_cons,Nat.succ_mul]
    omega
end
section
variable {σ : Type}
def Y3 (cuts : List Int) (sec : Int→List σ) : List (Int × Int × List σ):=(cuts.zip cuts.tail).map fun c=>(c.1,c.2,sec c.1)
theorem q97 (cuts : List Int) (sec : Int→List σ) : (Y3 cuts sec).length = cuts.length - 1:=by simp [Y3]
theorem q96 {cuts : List Int} {sec : Int→List σ} {i : Nat} (h : i < (Y3 cuts sec).length) (h1 : i + 1 < cuts.length) : (Y3 cuts sec)[i] = (cuts[i],cuts[i + 1],sec cuts[i]):=by
  simp [Y3]
theorem qym {cuts : List Int} {sec : Int→List σ} {M : Nat} (h : ∀ x,(sec x).length≤M) : ∀ t∈Y3 cuts sec,t.2.2.length≤M:=by
  intro t ht
  simp only [Y3,List.mem_map] at ht
  obtain ⟨c,_,rfl⟩:=ht
  exact h _
end
theorem Jm {σ β : Type} [DecidableEq σ] (put : Int→Int→σ→β) (s : Mg σ β) (a b : Int) (c : List σ) : (c≠[]∧c = s.sec∧s.hi = a∧addM put s a b c = ⟨s.done,s.sec,s.lo,b⟩)∨(¬ (c≠[]∧c = s.sec∧s.hi = a)∧addM put s a b c = ⟨s.flat put,c,a,b⟩):=by
  unfold addM
  split
  · rename_i h;exact .inl ⟨h.1,h.2.1,h.2.2,rfl⟩
  · rename_i h;exact .inr ⟨h,rfl⟩
def putR (a b : Int) (t : qj) : qf:={X0:=a,Y0:=t.Lo,X1:=b,Y1:=t.Hi}
theorem qlu (s : Mg qj qf) (a b : Int) (c : List qj) (hl : (s.flat putR).length + c.length≤1000000) :
    q7t (s.flat putR) s.sec (s.done.length : Int) s.hi a b c = some ((addM putR s a b c).sec,((addM putR s a b c).done.length : Int),(addM putR s a b c).hi,(addM putR s a b c).flat putR):=by
  have hsec : s.sec.length≤1000000:=by have : (s.flat putR).length = s.done.length + s.sec.length:=(by simp [Mg.flat]);omega
  unfold q7t
  rcases Jm putR s a b c with ⟨h1,h2,h3,h4⟩ | ⟨h1,h4⟩
  · have hb : decide ((c.length : Int) > 0) = true:=decide_eq_true (by have:=List.length_pos_iff.2 h1;omega)
    have he : (s.hi == a) = true:=by simpa using h3
    rw [h2] at hb
    rw [h4,h2]
    simp only [hb,cond_true,he,Option.bind_some,qgg _ _ hsec,decide_true]
    have:=q6z (fun v : qf=>({X0:=v.X0,Y0:=v.Y0,X1:=b,Y1:=v.Y1} : qf)) s.done (s.sec.map (putR s.lo s.hi)) (by have : (s.done ++ s.sec.map (putR s.lo s.hi)).length = (s.flat putR).length:=rfl;omega) (q55 b) (fun k o hk ho=>by
      have h5 : (s.done ++ s.sec.map (putR s.lo s.hi)).length = (s.flat putR).length:=rfl
      simp only [q55,dlt hk,cond_true,Qf hk,Option.bind_some,w64s hk (by omega),Int.toNat_natCast]) (fun o=>by simp only [q55,dnl,cond_false])
    rw [show s.flat putR = s.done ++ s.sec.map (putR s.lo s.hi) from rfl,this]
    simp only [Option.bind_some,Mg.flat,List.map_map]
    rfl
  · rw [h4]
    have hc : ((cond (decide ((c.length : Int) > 0)) (some (s.hi == a)) (some false)).bind fun c101=>(cond c101 ((q81 s.sec c).bind fun r121=>some r121) (some false))) = some false:=by
      by_cases h5 : c = []
      · subst h5;simp
      · have hb : decide ((c.length : Int) > 0) = true:=decide_eq_true (by have:=List.length_pos_iff.2 h5;omega)
        simp only [hb,cond_true,Option.bind_some,qgg _ _ hsec]
        by_cases h6 : s.hi = a
        · have h7 : s.sec≠c:=fun h=>h1 ⟨h5,h.symm,h6⟩
          simp [h6,h7]
        · have : (s.hi == a) = false:=by simpa using h6
          simp [this]
    have hap:=q1m c (putR a b) (s.flat putR) (fun o=>(c,((s.flat putR).length : Int),b,o)) (q56 c a b (s.flat putR)) (fun k hk o ho=>by
      simp only [q56,dlt hk,cond_true,Qf hk,Option.bind_some,w64s hk (by omega)]
      rw [Kf (by simp;omega)]
      rfl) (fun o=>by simp only [q56,dnl,cond_false])
    rw [← Option.bind_assoc,hc]
    simp only [Option.bind_some,cond_false,hap]
    simp [Mg.flat]
end Go.Sh
namespace Go.Sh
open Go Go.Am
def vR (r : qf) : Prop:=r.X0 < r.X1∧r.Y0 < r.Y1∧-1000000≤r.X0∧r.X0≤1000000∧-1000000≤r.X1∧r.X1≤1000000∧-1000000≤r.Y0∧r.Y0≤1000000∧-1000000≤r.Y1∧r.Y1≤1000000
instance (r : qf) : Decidable (vR r):=by unfold vR;infer_instance
theorem qgq (x : Int) : q1t x = some (decide (-1000000≤x∧x≤1000000)):=by
  unfold q1t
  by_cases h : x ≥ -1000000 <;> by_cases h' : x≤1000000 <;> simp [h,h'] <;> omega
theorem ql0 (r : qf) : q58 r = some (decide (vR r)):=by
  unfold q58
  simp only [qgq,qna,Option.bind_some,vR]
  by_cases h1 : r.X0 < r.X1 <;> by_cases h2 : r.Y0 < r.Y1 <;> by_cases h3 : -1000000≤r.X0∧r.X0≤1000000 <;> by_cases h4 : -1000000≤r.X1∧r.X1≤1000000 <;> by_cases h5 : -1000000≤r.Y0∧r.Y0≤1000000 <;> by_cases h6 : -1000000≤r.Y1∧r.Y1≤1000000 <;> simp [h1,h2,h3,h4,h5,h6] <;> omega
def covR (x : Int) (r : qf) : Bool:=decide (r.X0≤x) && decide (x < r.X1)
def ysp (r : qf) : qj:={Lo:=r.Y0,Hi:=r.Y1}
def covS (l : List qf) (x : Int) : List qj:=l.flatMap fun r=>if covR x r = true then [ysp r] else []
def hasR (l : List qf) (x y : Int) : Prop:=∃ r∈l,r.X0≤x∧x < r.X1∧r.Y0≤y∧y < r.Y1
theorem qai {l : List qf} {x : Int} {t : qj} : t∈covS l x↔∃ r∈l,covR x r = true∧t = ysp r:=by
  unfold covS
  rw [List.mem_flatMap]
  constructor
  · rintro ⟨r,hr,h⟩
    split at h
    · rename_i hc;simp only [List.mem_singleton] at h;exact ⟨r,hr,hc,h⟩
    · cases h
  · rintro ⟨r,hr,hc,rfl⟩;exact ⟨r,hr,by simp [hc]⟩
theorem U1 {l : List qf} {x y : Int} : has (covS l x) y↔hasR l x y:=by
  unfold has hasR
  constructor
  · rintro ⟨t,ht,h1,h2⟩
    obtain ⟨r,hr,hc,rfl⟩:=qai.1 ht
    simp only [covR,Bool.and_eq_true,decide_eq_true_eq] at hc
    exact ⟨r,hr,hc.1,hc.2,h1,h2⟩
  · rintro ⟨r,hr,h1,h2,h3,h4⟩
    exact ⟨ysp r,qai.2 ⟨r,hr,by simp [covR,h1,h2],rfl⟩,h3,h4⟩
theorem q14 (l : List qf) (x : Int) : (covS l x).length≤l.length:=by
  unfold covS
  induction l with
  | nil=>simp
  | cons r l ih=>
    simp only [List.flatMap_cons,List.length_append,List.length_cons]
    have : (if covR x r = true then [ysp r] else []).length≤1:=by split <;> simp
    omega
theorem qnj {l : List qf} (h : ∀ r∈l,vR r) (x : Int) : ∀ t∈covS l x,vld t:=by
  intro t ht
  obtain ⟨r,hr,_,rfl⟩:=qai.1 ht
  obtain ⟨_,h2,_,_,_,_,h3,_,_,h4⟩:=h r hr
  exact ⟨h2,h3,h4⟩
def xsOf (l : List qf) : List Int:=l.flatMap fun r=>[r.X0,r.X1]
def ysOf (l : List qf) : List Int:=l.flatMap fun r=>[r.Y0,r.Y1]
theorem q11 (l : List qf) : (xsOf l).length = 2 * l.length:=by
  unfold xsOf;induction l with
  | nil=>rfl
  | cons r l ih=>simp only [List.flatMap_cons,List.length_append,List.length_cons,List.length_nil];omega
theorem q9h (l : List qf) : (ysOf l).length = 2 * l.length:=by
  unfold ysOf;induction l with
  | nil=>rfl
  | cons r l ih=>simp only [List.flatMap_cons,List.length_append,List.length_cons,List.length_nil];omega
theorem qge {l : List qf} {x y : Int} (h : y∈ends (covS l x)) : y∈ysOf l:=by
  obtain ⟨t,ht,h⟩:=q2p.1 h
  obtain ⟨r,hr,_,rfl⟩:=qai.1 ht
  unfold ysOf
  rw [List.mem_flatMap]
  exact ⟨r,hr,by rcases h with h | h <;> simp [h,ysp]⟩
noncomputable def Qj (l : List Int) : List Int:=(J0 l).getD []
theorem Jp {l : List Int} (hl : l.length≤1000000) : J0 l = some (Qj l)∧Y6 l (Qj l)∧(Qj l).length≤l.length:=by
  obtain ⟨t,h1,h2,h3⟩:=qkf l hl
  unfold Qj;rw [h1];exact ⟨rfl,h2,h3⟩
noncomputable def secJ (kind : Int) (p q : List qf) (x : Int) : List qj:=Jf kind (covS p x) (covS q x)
theorem qea (kind : Int) {p q : List qf} (h : p.length + q.length≤100000) (x : Int) : (secJ kind p q x).length≤2 * (p.length + q.length):=by
  have h1:=q14 p x
  have h2:=q14 q x
  have:=(q2m kind (covS p x) (covS q x) (by omega) (by omega)).2.len
  unfold secJ;omega
noncomputable def mrg (kind : Int) (p q : List qf) : Mg qj qf:=Ql putR Qi (Y3 (Qj (xsOf p ++ xsOf q)) (secJ kind p q))
noncomputable def mrgR (kind : Int) (p q : List qf) : List qf:=(mrg kind p q).flat putR
theorem q9x {p q : List qf} (h : p.length + q.length≤400) : J0 (xsOf p ++ xsOf q) = some (Qj (xsOf p ++ xsOf q))∧Y6 (xsOf p ++ xsOf q) (Qj (xsOf p ++ xsOf q))∧(Qj (xsOf p ++ xsOf q)).length≤2 * (p.length + q.length):=by
  have h1:=q11 p
  have h2:=q11 q
  obtain ⟨a,b,c⟩:=Jp (l:=xsOf p ++ xsOf q) (by simp;omega)
  exact ⟨a,b,by simp at c;omega⟩
theorem qcd {p q : List qf} (h : p.length + q.length≤400) : J0 (ysOf p ++ ysOf q) = some (Qj (ysOf p ++ ysOf q))∧Y6 (ysOf p ++ ysOf q) (Qj (ysOf p ++ ysOf q))∧(Qj (ysOf p ++ ysOf q)).length≤2 * (p.length + q.length):=by
  have h1:=q9h p
  have h2:=q9h q
  obtain ⟨a,b,c⟩:=Jp (l:=ysOf p ++ ysOf q) (by simp;omega)
  exact ⟨a,b,by simp at c;omega⟩
theorem qif (kind : Int) {p q : List qf} (h : p.length + q.length≤400) (i : Nat) :
    ((Ql putR Qi ((Y3 (Qj (xsOf p ++ xsOf q)) (secJ kind p q)).take i)).flat putR).length≤800 * 800:=by
  have h1:=qa3 putR (s0:=Qi) (M:=800) (steps:=(Y3 (Qj (xsOf p ++ xsOf q)) (secJ kind p q)).take i) (fun t ht=>by
    have:=qym (M:=2 * (p.length + q.length)) (fun x=>qea kind (by omega) x) t (List.mem_of_mem_take ht)
    omega)
  have h2 : ((Y3 (Qj (xsOf p ++ xsOf q)) (secJ kind p q)).take i).length≤800:=by
    have:=(q9x h).2.2
    rw [List.length_take,q97];omega
  have h3 : (Qi.flat putR : List qf).length = 0:=rfl
  have h4 : ((Y3 (Qj (xsOf p ++ xsOf q)) (secJ kind p q)).take i).length * 800≤800 * 800:=Nat.mul_le_mul_right _ h2
  omega
theorem qpr (l : List qf) (hl : l.length≤400) :
    (((idx [l] 0).bind fun v95=>(loop (q1u v95) (0,[])).bind fun x0=>some x0).bind fun b94=>(U9 b94).bind fun e127=>(Qm e127.length b94.length).bind fun u129=>(q1z e127).bind fun e132=>(Qm e132.2.length e127.length).bind fun u134=>(q26 e132.2.length e132.1).bind fun u137=>some ((e132.2.drop e132.1.1).take e132.1.2)) = some (Qj (xsOf l)):=by
  have e0 : idx [l] 0 = some l:=rfl
  have e1 : loop (q1u l) (0,[]) = some (xsOf l):=by
    have:=Zs l (by omega) (fun r=>[r.X0,r.X1]) [] (fun o=>o) (q1u l) (fun k hk o ho=>by
      have h8 : o.length = 2 * k:=by rw [ho,List.nil_append];have:=q11 (l.take k);rw [List.length_take,Nat.min_eq_left (by omega)] at this;exact this
      simp only [q1u,dlt hk,cond_true,Qf hk,Option.bind_some,w64s hk (by omega)]
      rw [Kf (by simp;omega)]
      rfl) (fun o=>by simp only [q1u,dnl,cond_false])
    rw [List.nil_append] at this
    exact this
  have hx:=q11 l
  obtain ⟨ys,s1,s2,s3⟩:=qkd (xsOf l) (by omega)
  have hys : ys.length = (xsOf l).length:=s2.length_eq
  obtain ⟨w,a,c1,c2,c3,c4⟩:=qg3 s3 (by omega)
  obtain ⟨_,d2,_⟩:=Jp (l:=xsOf l) (by omega)
  have huniq : a.take w = Qj (xsOf l):=by
    refine qke (l:=xsOf l) ⟨c4.1,fun x=>?_⟩ d2
    rw [c4.2 x];exact s2.mem_iff
  simp only [e0,Option.bind_some,e1,s1,Qm,hys,if_true,c1,c2,q26]
  rw [if_pos (by omega)]
  simp only [Option.bind_some,List.drop_zero,huniq]
theorem qpq (l : List qf) (hl : l.length≤400) (x : Int) : loop (q3g l x) (0,[]) = some (covS l x):=by
  have:=Zs l (by omega) (fun r=>if covR x r = true then [ysp r] else []) [] (fun o=>o) (q3g l x) (fun k hk o ho=>by
    have h8 : o.length≤k:=by rw [ho,List.nil_append];have:=q14 (l.take k) x;rw [List.length_take,Nat.min_eq_left (by omega)] at this;exact this
    simp only [q3g,dlt hk,cond_true,Qf hk,Option.bind_some,w64s hk (by omega)]
    by_cases h1 : l[k].X0≤x
    · by_cases h2 : x < l[k].X1
      · simp only [h1,h2,decide_true,cond_true,Option.bind_some,covR,Bool.and_self,if_true]
        rw [Kf (by simp;omega)]
        rfl
      · simp only [h1,h2,decide_true,decide_false,cond_true,cond_false,Option.bind_some,covR,Bool.and_false,if_false,Bool.false_eq_true,List.append_nil]
    · simp only [h1,decide_false,cond_false,Option.bind_some,covR,Bool.false_and,if_false,Bool.false_eq_true,List.append_nil]) (fun o=>by simp only [q3g,dnl,cond_false])
  rw [List.nil_append] at this
  exact this
theorem qi2 (l : List qf) (hl : l.length≤400) (hv : ∀ r∈l,vR r) : q57 l = some (if 400 < (mrgR 2 l []).length then ([],4) else (mrgR 2 l [],0)):=by
  unfold q57
  rw [qpr l hl]
  simp only [Option.bind_some]
  have hcut : Qj (xsOf l ++ xsOf []) = Qj (xsOf l):=by simp [xsOf]
  obtain ⟨_,hso,hlen⟩:=q9x (p:=l) (q:=[]) (by simpa using hl)
  have hml:=fun i=>qif 2 (p:=l) (q:=[]) (by simpa using hl) i
  rw [hcut] at hso hlen
  have hlen : (Qj (xsOf l)).length≤2 * l.length:=by simpa using hlen
  have hmain : loop (q1v (Qj (xsOf l)) l) (1,[],0,0,[]) = some ((mrg 2 l []).sec,((mrg 2 l []).done.length : Int),(mrg 2 l []).hi,mrgR 2 l []):=by
    unfold mrgR mrg
    rw [hcut] at hml ⊢
    generalize hst : Y3 (Qj (xsOf l)) (secJ 2 l []) = steps at hml ⊢
    have hsl : steps.length = (Qj (xsOf l)).length - 1:=by rw [← hst];exact q97 _ _
    have hfin : Ql putR Qi (steps.take steps.length) = Ql putR Qi steps:=by rw [List.take_length]
    have key:=Yp (f:=q1v (Qj (xsOf l)) l) (fun k=>(((k + 1 : Nat) : Int),(Ql putR Qi (steps.take k)).sec,((Ql putR Qi (steps.take k)).done.length : Int),(Ql putR Qi (steps.take k)).hi,(Ql putR Qi (steps.take k)).flat putR))
      steps.length ((Ql putR Qi steps).sec,((Ql putR Qi steps).done.length : Int),(Ql putR Qi steps).hi,(Ql putR Qi steps).flat putR) (fun k hk=>by
        have hk1 : k + 1 < (Qj (xsOf l)).length:=by omega
        have hg : steps[k] = ((Qj (xsOf l))[k],(Qj (xsOf l))[k + 1],secJ 2 l [] (Qj (xsOf l))[k]):=by
          subst hst;exact q96 hk hk1
        have i1 : idx (Qj (xsOf l)) (w64 (((k + 1 : Nat) : Int) - 1)) = some (Qj (xsOf l))[k]:=by rw [qz (by omega)];exact Uq (by omega) (by omega)
        have hcl:=q14 l (Qj (xsOf l))[k]
        have hmk : q24 (covS l (Qj (xsOf l))[k]) = some (secJ 2 l [] (Qj (xsOf l))[k],0):=by
          rw [qi3]
          unfold qah
          rw [if_neg (by omega),if_pos (qnj hv _)]
          rfl
        have hbl:=qea 2 (p:=l) (q:=[]) (by simp;omega) (Qj (xsOf l))[k]
        have hml':=hml k
        have hb:=qlu (Ql putR Qi (steps.take k)) (Qj (xsOf l))[k] (Qj (xsOf l))[k + 1] (secJ 2 l [] (Qj (xsOf l))[k]) (by simp at hbl;omega)
        rw [q2g putR hk,hg]
        simp only [q1v,dlt hk1,cond_true,i1,Qf hk1,Option.bind_some,show idx [l] 0 = some l from rfl,qpq l hl,hmk,hb,Bool.not_true,cond_false]
        rw [w64s hk1 (by omega)]) (by
        rw [hfin]
        by_cases h0 : (Qj (xsOf l)).length = 0
        · have : decide (((steps.length + 1 : Nat) : Int) < ((Qj (xsOf l)).length : Int)) = false:=decide_eq_false (by omega)
          simp only [q1v,this,cond_false]
        · have : decide (((steps.length + 1 : Nat) : Int) < ((Qj (xsOf l)).length : Int)) = false:=decide_eq_false (by omega)
          simp only [q1v,this,cond_false]) (Nat.zero_le _)
    exact key
  rw [hmain]
  simp only [Option.bind_some]
  by_cases h4 : 400 < (mrgR 2 l []).length
  · rw [decide_eq_true (by omega : ((mrgR 2 l []).length : Int) > 400),if_pos h4];rfl
  · rw [decide_eq_false (by omega : ¬ ((mrgR 2 l []).length : Int) > 400),if_neg h4];rfl
end Go.Sh
namespace Go.Sh
open Go Go.Am
theorem qru {p q : List qf} (h : p.length + q.length≤400) : q7i p q = some (Qj (xsOf p ++ xsOf q)):=by
  have e1 : loop (q33 p) (0,[]) = some (xsOf p):=by
    have:=Zs p (by omega) (fun r=>[r.X0,r.X1]) [] (fun o=>o) (q33 p) (fun k hk o ho=>by
      have h8 : o.length = 2 * k:=by rw [ho,List.nil_append];have:=q11 (p.take k);rw [List.length_take,Nat.min_eq_left (by omega)] at this;exact this
      simp only [q33,dlt hk,cond_true,Qf hk,Option.bind_some,w64s hk (by omega)]
      rw [Kf (by simp;omega)]
      rfl) (fun o=>by simp only [q33,dnl,cond_false])
    rw [List.nil_append] at this
    exact this
  have e2 : loop (q34 q) (0,xsOf p) = some (xsOf p ++ xsOf q):=by
    have hp:=q11 p
    exact Zs q (by omega) (fun r=>[r.X0,r.X1]) (xsOf p) (fun o=>o) (q34 q) (fun k hk o ho=>by
      have h8 : o.length = 2 * p.length + 2 * k:=by
        rw [ho,List.length_append,hp];have:=q11 (q.take k);rw [List.length_take,Nat.min_eq_left (by omega)] at this
        unfold xsOf at this;omega
      simp only [q34,dlt hk,cond_true,Qf hk,Option.bind_some,w64s hk (by omega)]
      rw [Kf (by simp;omega)]
      rfl) (fun o=>by simp only [q34,dnl,cond_false])
  unfold q7i
  simp only [e1,e2,Option.bind_some,(q9x h).1]
theorem qrw {p q : List qf} (h : p.length + q.length≤400) : q7j p q = some (Qj (ysOf p ++ ysOf q)):=by
  have e1 : loop (q35 p) (0,[]) = some (ysOf p):=by
    have:=Zs p (by omega) (fun r=>[r.Y0,r.Y1]) [] (fun o=>o) (q35 p) (fun k hk o ho=>by
      have h8 : o.length = 2 * k:=by rw [ho,List.nil_append];have:=q9h (p.take k);rw [List.length_take,Nat.min_eq_left (by omega)] at this;exact this
      simp only [q35,dlt hk,cond_true,Qf hk,Option.bind_some,w64s hk (by omega)]
      rw [Kf (by simp;omega)]
      rfl) (fun o=>by simp only [q35,dnl,cond_false])
    rw [List.nil_append] at this
    exact this
  have e2 : loop (q36 q) (0,ysOf p) = some (ysOf p ++ ysOf q):=by
    have hp:=q9h p
    exact Zs q (by omega) (fun r=>[r.Y0,r.Y1]) (ysOf p) (fun o=>o) (q36 q) (fun k hk o ho=>by
      have h8 : o.length = 2 * p.length + 2 * k:=by
        rw [ho,List.length_append,hp];have:=q9h (q.take k);rw [List.length_take,Nat.min_eq_left (by omega)] at this
        unfold ysOf at this;omega
      simp only [q36,dlt hk,cond_true,Qf hk,Option.bind_some,w64s hk (by omega)]
      rw [Kf (by simp;omega)]
      rfl) (fun o=>by simp only [q36,dnl,cond_false])
  unfold q7j
  simp only [e1,e2,Option.bind_some,(qcd h).1]
open Classical in
theorem qdt (l : List qf) (x y : Int) (hl : l.length≤1000000) : q30 l x y = some (decide (hasR l x y)):=by
  let c : qf→Bool:=fun r=>decide (r.X0≤x) && (decide (x < r.X1) && (decide (r.Y0≤y) && decide (y < r.Y1)))
  have hs : ∀ (k : Nat) (h : k < l.length),q1o l x y (k : Int) = some (if c l[k] = true then .inr (.inr true) else .inl ((k + 1 : Nat) : Int)):=by
    intro k h
    simp only [q1o,dlt h,cond_true,Qf h,Option.bind_some,w64s h hl,c]
    by_cases h1 : l[k].X0≤x <;> by_cases h2 : x < l[k].X1 <;> by_cases h3 : l[k].Y0≤y <;> by_cases h4 : y < l[k].Y1 <;> simp [h1,h2,h3,h4]
  have hd : q1o l x y (l.length : Int) = some (.inr (.inl ())):=by simp only [q1o,dnl,cond_false]
  unfold q30
  rcases q15 l c (fun _ _=>true) () (q1o l x y) hs hd with ⟨h1,h2⟩ | ⟨k,hk,hc,_,h2⟩
  · rw [h2]
    have : ¬ hasR l x y:=by
      rintro ⟨r,hr,a1,a2,a3,a4⟩
      have:=h1 r hr
      simp [c,a1,a2,a3,a4] at this
    simp [this]
  · rw [h2]
    have : hasR l x y:=by
      simp only [c,Bool.and_eq_true,decide_eq_true_eq] at hc
      exact ⟨l[k],List.getElem_mem hk,hc.1,hc.2.1,hc.2.2.1,hc.2.2.2⟩
    simp [this]
theorem qcu {kind : Int} {a b : Prop} (h : Kn kind a b) : a∨b:=by
  rcases h with ⟨_,h,_⟩ | ⟨_,h⟩ | ⟨_,_,h,_⟩
  · exact .inl h
  · exact h
  · exact .inl h
theorem qhm {kind : Int} {a b a' b' : Prop} (h1 : a↔a') (h2 : b↔b') : Kn kind a b↔Kn kind a' b':=by
  unfold Kn;rw [h1,h2]
open Classical in
theorem qm6 (kind : Int) {p q : List qf} (h : p.length + q.length≤400) (x : Int) :
    q2r (Qj (ysOf p ++ ysOf q)) ((Qj (ysOf p ++ ysOf q)).map fun y=>decide (Kn kind (hasR p x y) (hasR q x y))) = some (secJ kind p q x):=by
  obtain ⟨_,hso,hlen⟩:=qcd h
  generalize Qj (ysOf p ++ ysOf q) = ys at hso hlen ⊢
  obtain ⟨c,h1,h2⟩:=qfg ys (ys.map fun y=>decide (Kn kind (hasR p x y) (hasR q x y))) hso.1 (by omega) (by simp)
  rw [h1]
  have cp:=q14 p x
  have cq:=q14 q x
  have hj:=(q2m kind (covS p x) (covS q x) (by omega) (by omega)).2
  have mp : ∀ z∈ends (covS p x),z∈ys:=fun z hz=>(hso.2 z).2 (List.mem_append.2 (.inl (qge hz)))
  have mq : ∀ z∈ends (covS q x),z∈ys:=fun z hz=>(hso.2 z).2 (List.mem_append.2 (.inr (qge hz)))
  congr 1
  refine q48 h2.can hj.can fun z=>?_
  unfold secJ
  rw [h2.pts z,hj.pts z]
  constructor
  · rintro ⟨i,hi,hi',_,hin,a1,a2⟩
    simp only [List.getElem_map,decide_eq_true_eq] at hin
    refine (qhm ?_ ?_).2 hin
    · rw [q1y hso.1 mp hi a1 a2,U1]
    · rw [q1y hso.1 mq hi a1 a2,U1]
  · intro hh
    have : ∃ i,∃ (h : i + 1 < ys.length),ys[i]≤z∧z < ys[i + 1]:=by
      rcases qcu hh with h | h
      · exact qa9 hso.1 mp h
      · exact qa9 hso.1 mq h
    obtain ⟨i,hi,a1,a2⟩:=this
    refine ⟨i,hi,by simp;omega,by omega,?_,a1,a2⟩
    simp only [List.getElem_map,decide_eq_true_eq]
    refine (qhm ?_ ?_).1 hh
    · rw [q1y hso.1 mp hi a1 a2,U1]
    · rw [q1y hso.1 mq hi a1 a2,U1]
open Classical in
theorem qp9 (kind : Int) {p q : List qf} (h : p.length + q.length≤400) (ys xs : List Int) (hy : ys.length≤1000000) (i : Nat) (hi : i < xs.length) (a : List qj × Int × Int × List qf) (ha : a.2.2.1 = i) :
    loop (q31 ys xs a p q kind) (0,[]) = some (ys.map fun y=>decide (Kn kind (hasR p xs[i] y) (hasR q xs[i] y))):=by
  have:=q1m ys (fun y=>decide (Kn kind (hasR p xs[i] y) (hasR q xs[i] y))) [] (fun o=>o) (q31 ys xs a p q kind) (fun k hk o ho=>by
    simp only [q31,dlt hk,cond_true,ha,Qf hk,Qf hi,Option.bind_some,qdt p _ _ (by omega),qdt q _ _ (by omega),qhn,w64s hk hy]
    rw [Kf (by simp at ho ⊢;omega)]
    rfl) (fun o=>by simp only [q31,dnl,cond_false])
  rw [List.nil_append] at this
  exact this
theorem qpa (kind : Int) {p q : List qf} (h : p.length + q.length≤400) {xs : List Int} (hx : xs.length≤1000000) {i : Nat} (hi : i + 1 < xs.length) (s : Mg qj qf) (hl : (s.flat putR).length + (secJ kind p q xs[i]).length≤1000000)
    (h0 : i = 0→s.sec = []) (h1 : 0 < i→s.hi = xs[i]) :
    q1p xs (Qj (ysOf p ++ ysOf q)) p q kind (s.sec,(s.done.length : Int),(i : Int),s.flat putR) =
      some (.inl ((addM putR s xs[i] xs[i + 1] (secJ kind p q xs[i])).sec,((addM putR s xs[i] xs[i + 1] (secJ kind p q xs[i])).done.length : Int),((i + 1 : Nat) : Int),(addM putR s xs[i] xs[i + 1] (secJ kind p q xs[i])).flat putR)):=by
  have hi0 : i < xs.length:=by omega
  have hw : w64 ((i : Int) + 1) = ((i + 1 : Nat) : Int):=w64s hi0 hx
  have hy:=(qcd h).2.2
  have hfl : (s.flat putR).length = s.done.length + s.sec.length:=by simp [Mg.flat]
  have hins:=qp9 kind h (Qj (ysOf p ++ ysOf q)) xs (by omega) i hi0 (s.sec,(s.done.length : Int),(i : Int),s.flat putR) rfl
  unfold q1p
  simp only [hw,dlt hi,cond_true,hins,Option.bind_some,qm6 kind h]
  generalize hc : secJ kind p q xs[i] = c at hl ⊢
  by_cases hsame : 0 < i∧c = s.sec
  · obtain ⟨hpos,hcs⟩:=hsame
    have hb : decide ((i : Int) > 0) = true:=decide_eq_true (by omega)
    have hext:=q6z (fun v : qf=>({X0:=v.X0,Y0:=v.Y0,X1:=xs[i + 1],Y1:=v.Y1} : qf)) s.done (s.sec.map (putR s.lo s.hi)) (by simp;omega) (q32 xs (s.sec,(s.done.length : Int),(i : Int),s.flat putR)) (fun k o hk ho=>by
      have h5 : (s.done ++ s.sec.map (putR s.lo s.hi)).length = (s.flat putR).length:=rfl
      simp only [q32,dlt hk,cond_true,Qf hk,Qf hi,hw,Option.bind_some,w64s hk (by omega),Int.toNat_natCast]) (fun o=>by simp only [q32,dnl,cond_false])
    have hsp : q2x c s.sec = some true:=by rw [qe5 _ _ (by omega)];simp [hcs]
    have hext : loop (q32 xs (s.sec,(s.done.length : Int),(i : Int),s.flat putR)) ((s.done.length : Int),s.flat putR) = _:=hext
    simp only [hb,cond_true,hsp,Option.bind_some,hext]
    rcases Jm putR s xs[i] xs[i + 1] c with ⟨_,_,_,h4⟩ | ⟨h3,h4⟩
    · rw [h4]
      simp only [Mg.flat,List.map_map]
      rfl
    · have hnil : c = []:=Classical.byContradiction fun hn=>h3 ⟨hn,hcs,h1 hpos⟩
      rw [h4]
      simp [Mg.flat,← hcs,hnil]
  · have hcnd : (cond (decide ((i : Int) > 0)) ((q2x c s.sec).bind fun r721=>some r721) (some false)) = some false:=by
      by_cases hpos : 0 < i
      · have hb : decide ((i : Int) > 0) = true:=decide_eq_true (by omega)
        have hne : c≠s.sec:=fun h=>hsame ⟨hpos,h⟩
        rw [hb,cond_true,qe5 _ _ (by omega)]
        simp [hne]
      · have hb : decide ((i : Int) > 0) = false:=decide_eq_false (by omega)
        rw [hb,cond_false]
    have hap:=q1m c (putR xs[i] xs[i + 1]) (s.flat putR) (fun o=>(c,((s.flat putR).length : Int),o)) (q4p c xs (s.sec,(s.done.length : Int),(i : Int),s.flat putR)) (fun k hk o ho=>by
      simp only [q4p,dlt hk,cond_true,Qf hk,Qf hi0,Qf hi,hw,Option.bind_some,w64s hk (by omega)]
      rw [Kf (by simp;omega)]
      rfl) (fun o=>by simp only [q4p,dnl,cond_false])
    have h4 : addM putR s xs[i] xs[i + 1] c = ⟨s.flat putR,c,xs[i],xs[i + 1]⟩:=by
      rcases Jm putR s xs[i] xs[i + 1] c with ⟨g1,g2,_,_⟩ | ⟨_,h4⟩
      · refine absurd ?_ hsame
        refine ⟨Nat.pos_of_ne_zero fun h=>g1 ?_,g2⟩
        rw [g2,h0 h]
      · exact h4
    rw [h4]
    simp only [hcnd,Option.bind_some,cond_false,hap]
    simp [Mg.flat]
theorem q4q (kind : Int) {p q : List qf} (h : p.length + q.length≤400) : Zi kind p q = some (mrgR kind p q):=by
  unfold Zi
  rw [qru h,qrw h]
  simp only [Option.bind_some]
  obtain ⟨_,hso,hlen⟩:=q9x h
  have hml:=fun i=>qif kind h i
  unfold mrgR mrg
  generalize Qj (xsOf p ++ xsOf q) = xs at hso hlen hml ⊢
  generalize hst : Y3 xs (secJ kind p q) = steps at hml ⊢
  have hsl : steps.length = xs.length - 1:=by rw [← hst];exact q97 _ _
  have key:=Yp (f:=q1p xs (Qj (ysOf p ++ ysOf q)) p q kind) (fun k=>((Ql putR Qi (steps.take k)).sec,((Ql putR Qi (steps.take k)).done.length : Int),(k : Int),(Ql putR Qi (steps.take k)).flat putR))
    steps.length ((Ql putR Qi steps).flat putR) (fun k hk=>by
      have hk1 : k + 1 < xs.length:=by omega
      have hg : steps[k] = (xs[k],xs[k + 1],secJ kind p q xs[k]):=by subst hst;exact q96 hk hk1
      have hbl:=qea kind (p:=p) (q:=q) (by omega) xs[k]
      have hml':=hml k
      have:=qpa kind h (xs:=xs) (by omega) hk1 (Ql putR Qi (steps.take k)) (by omega) (fun h0=>by subst h0;rfl) (fun hpos=>by
        obtain ⟨m,rfl⟩ : ∃ m,k = m + 1:=⟨k - 1,by omega⟩
        rw [q2g putR (by omega),qf0]
        subst hst
        rw [q96 (by omega) (by omega)])
      rw [this,q2g putR hk,hg]) (by
      rw [List.take_length]
      have hb : decide (w64 ((steps.length : Int) + 1) < (xs.length : Int)) = false:=by
        rw [qz (by omega)];exact decide_eq_false (by omega)
      unfold q1p
      simp only [hb,cond_false]) (Nat.zero_le _)
  have key : loop (q1p xs (Qj (ysOf p ++ ysOf q)) p q kind) ([],0,0,[]) = some ((Ql putR Qi steps).flat putR):=key
  rw [key];rfl
end Go.Sh
namespace Go.Sh
open Go Go.Am
noncomputable def Yr (l : List qf) : Int:=if 400 < l.length then 4 else if ∀ r∈l,vR r then (if mrgR 2 l [] = l then 0 else 8) else 8
theorem qfn {l : List qf} (h : Yr l = 0) : l.length≤400∧(∀ r∈l,vR r)∧mrgR 2 l [] = l:=by
  unfold Yr at h
  split at h
  · omega
  · split at h
    · split at h
      · rename_i a b c;exact ⟨by omega,b,c⟩
      · omega
    · omega
theorem qst (l : List qf) (hl : l.length≤1000000) : q7y l (fun x0=>q1r x0) = some (decide (¬ ∀ r∈l,vR r)):=by
  have hs : ∀ (k : Nat) (h : k < l.length),q3k l (fun x0=>q1r x0) (k : Int) = some (if (fun r=>!decide (vR r)) l[k] = true then .inr (.inr (k : Int)) else .inl ((k + 1 : Nat) : Int)):=by
    intro k h
    simp only [q3k,dlt h,cond_true,Qf h,Option.bind_some,w64s h hl,q1r,ql0]
    by_cases hv : vR l[k] <;> simp [hv]
  have hd : q3k l (fun x0=>q1r x0) (l.length : Int) = some (.inr (.inl ())):=by simp only [q3k,dnl,cond_false]
  unfold q7y qb6
  rcases q15 l (fun r=>!decide (vR r)) (fun k _=>(k : Int)) () _ hs hd with ⟨h1,h2⟩ | ⟨k,hk,hc,_,h2⟩
  · rw [h2]
    have : ∀ r∈l,vR r:=fun r hr=>by simpa using h1 r hr
    simp []
    omega
  · rw [h2]
    have : ¬ ∀ r∈l,vR r:=fun h=>by simp [h _ (List.getElem_mem hk)] at hc
    simp only [Option.bind_some]
    rw [decide_eq_true this,decide_eq_true (by omega)]
theorem qj8 (l : List qf) : q54 l = some (Yr l):=by
  unfold q54 Yr
  by_cases h4 : 400 < l.length
  · rw [decide_eq_true (by omega : (l.length : Int) > 400),cond_true,if_pos h4]
  rw [decide_eq_false (by omega : ¬ (l.length : Int) > 400),cond_false,if_neg h4,qst l (by omega),Option.bind_some]
  by_cases hv : ∀ r∈l,vR r
  · rw [decide_eq_false (fun h=>h hv),cond_false,qi2 l (by omega) hv,if_pos hv,Option.bind_some]
    by_cases hm : 400 < (mrgR 2 l []).length
    · have hne : mrgR 2 l []≠l:=fun h=>by rw [h] at hm;exact h4 hm
      rw [if_pos hm,if_neg hne];rfl
    · rw [if_neg hm]
      simp only [q4c (mrgR 2 l []) l (by omega)]
      by_cases he : mrgR 2 l [] = l <;> simp [he]
  · rw [decide_eq_true hv,cond_true,if_neg hv]
def putB (a b : Int) (r : qf) : qg:={Lo:={X:=r.X0,Y:=r.Y0,Z:=a},Hi:={X:=r.X1,Y:=r.Y1,Z:=b}}
def Ja (z : Int) : Prop:=-1000000≤z∧z≤1000000
instance (z : Int) : Decidable (Ja z):=by unfold Ja;infer_instance
end Go.Sh
namespace Go.Sh
open Go Go.Am
def covB (z : Int) (b : qg) : Bool:=decide (b.Lo.Z≤z) && decide (z < b.Hi.Z)
def Yc (b : qg) : qf:={X0:=b.Lo.X,Y0:=b.Lo.Y,X1:=b.Hi.X,Y1:=b.Hi.Y}
def atB (l : List qg) (z : Int) : List qf:=l.flatMap fun b=>if covB z b = true then [Yc b] else []
theorem Jn (l : List qg) (x : Int) : (atB l x).length≤l.length:=by
  unfold atB
  induction l with
  | nil=>simp
  | cons r l ih=>
    simp only [List.flatMap_cons,List.length_append,List.length_cons]
    have : (if covB x r = true then [Yc r] else []).length≤1:=by split <;> simp
    omega
theorem qat (l : List qg) (hl : l.length≤1000000) (z : Int) : J1 l z = some (atB l z):=by
  have:=Zs l hl (fun b=>if covB z b = true then [Yc b] else []) [] (fun o=>o) (q4t l z) (fun k hk o ho=>by
    have h8 : o.length≤k:=by rw [ho,List.nil_append];have:=Jn (l.take k) z;rw [List.length_take,Nat.min_eq_left (by omega)] at this;exact this
    simp only [q4t,dlt hk,cond_true,Qf hk,Option.bind_some,w64s hk hl]
    by_cases h1 : l[k].Lo.Z≤z
    · by_cases h2 : z < l[k].Hi.Z
      · simp only [h1,h2,decide_true,cond_true,Option.bind_some,covB,Bool.and_self,if_true]
        rw [Kf (by simp;omega)]
        rfl
      · simp only [h1,h2,decide_true,decide_false,cond_true,cond_false,Option.bind_some,covB,Bool.and_false,if_false,Bool.false_eq_true,List.append_nil]
    · simp only [h1,decide_false,cond_false,Option.bind_some,covB,Bool.false_and,if_false,Bool.false_eq_true,List.append_nil]) (fun o=>by simp only [q4t,dnl,cond_false])
  rw [List.nil_append] at this
  unfold J1
  rw [this];rfl
def zsOf (l : List qg) : List Int:=l.flatMap fun b=>[b.Lo.Z,b.Hi.Z]
theorem Zm (l : List qg) : (zsOf l).length = 2 * l.length:=by
  unfold zsOf;induction l with
  | nil=>rfl
  | cons r l ih=>simp only [List.flatMap_cons,List.length_append,List.length_cons,List.length_nil];omega
theorem qs1 {p q : List qg} (h : p.length + q.length≤100000) : q7l p q = some (Qj (zsOf p ++ zsOf q)):=by
  have e1 : loop (q37 p) (0,[]) = some (zsOf p):=by
    have:=Zs p (by omega) (fun r=>[r.Lo.Z,r.Hi.Z]) [] (fun o=>o) (q37 p) (fun k hk o ho=>by
      have h8 : o.length = 2 * k:=by rw [ho,List.nil_append];have:=Zm (p.take k);rw [List.length_take,Nat.min_eq_left (by omega)] at this;exact this
      simp only [q37,dlt hk,cond_true,Qf hk,Option.bind_some,w64s hk (by omega)]
      rw [Kf (by simp;omega)]
      rfl) (fun o=>by simp only [q37,dnl,cond_false])
    rw [List.nil_append] at this
    exact this
  have e2 : loop (q38 q) (0,zsOf p) = some (zsOf p ++ zsOf q):=by
    have hp:=Zm p
    exact Zs q (by omega) (fun r=>[r.Lo.Z,r.Hi.Z]) (zsOf p) (fun o=>o) (q38 q) (fun k hk o ho=>by
      have h8 : o.length = 2 * p.length + 2 * k:=by
        rw [ho,List.length_append,hp];have:=Zm (q.take k);rw [List.length_take,Nat.min_eq_left (by omega)] at this
        unfold zsOf at this;omega
      simp only [q38,dlt hk,cond_true,Qf hk,Option.bind_some,w64s hk (by omega)]
      rw [Kf (by simp;omega)]
      rfl) (fun o=>by simp only [q38,dnl,cond_false])
  have h1:=Zm p
  have h2:=Zm q
  unfold q7l
  simp only [e1,e2,Option.bind_some,(Jp (l:=zsOf p ++ zsOf q) (by simp;omega)).1]
structure qez (kind : Int) (p q : List qg) (z : Int) : Prop where
  n : (atB p z).length + (atB q z).length≤400
  m : (mrgR kind (atB p z) (atB q z)).length≤400
  mp : (mrgR 2 (atB p z) []).length≤400
  mq : (mrgR 2 (atB q z) []).length≤400
noncomputable def secB (kind : Int) (p q : List qg) (z : Int) : List qf:=mrgR kind (atB p z) (atB q z)
theorem qp8 (kind : Int) {p q : List qg} (h : p.length + q.length≤100000) {xs : List Int} (hx : xs.length≤1000000) {i : Nat} (hi : i + 1 < xs.length) (hok : qez kind p q xs[i]) (s : Mg qf qg) (hl : (s.flat putB).length + 400≤1000000)
    (h0 : i = 0→s.sec = []) (h1 : 0 < i→s.hi = xs[i]) :
    Us xs p q kind (s.sec,(s.done.length : Int),(i : Int),s.flat putB) =
      some (.inl ((addM putB s xs[i] xs[i + 1] (secB kind p q xs[i])).sec,((addM putB s xs[i] xs[i + 1] (secB kind p q xs[i])).done.length : Int),((i + 1 : Nat) : Int),(addM putB s xs[i] xs[i + 1] (secB kind p q xs[i])).flat putB)):=by
  have hi0 : i < xs.length:=by omega
  have hw : w64 ((i : Int) + 1) = ((i + 1 : Nat) : Int):=w64s hi0 hx
  have hfl : (s.flat putB).length = s.done.length + s.sec.length:=by simp [Mg.flat]
  obtain ⟨hn,hm,hmp,hmq⟩:=hok
  have ap : J1 p xs[i] = some (atB p xs[i]):=qat p (by omega) _
  have aq : J1 q xs[i] = some (atB q xs[i]):=qat q (by omega) _
  have jj : Zi kind (atB p xs[i]) (atB q xs[i]) = some (secB kind p q xs[i]):=q4q kind hn
  have jp : Zi 2 (atB p xs[i]) [] = some (mrgR 2 (atB p xs[i]) []):=q4q 2 (by simp;omega)
  have jq : Zi 2 (atB q xs[i]) [] = some (mrgR 2 (atB q xs[i]) []):=q4q 2 (by simp;omega)
  have hm : (secB kind p q xs[i]).length≤400:=hm
  have d1 : decide (((secB kind p q xs[i]).length : Int) > 400) = false:=decide_eq_false (by omega)
  have d2 : decide (((mrgR 2 (atB p xs[i]) []).length : Int) > 400) = false:=decide_eq_false (by omega)
  have d3 : decide (((mrgR 2 (atB q xs[i]) []).length : Int) > 400) = false:=decide_eq_false (by omega)
  unfold Us
  simp only [hw,dlt hi,cond_true,Qf hi0,ap,aq,jj,jp,jq,d1,d2,d3,cond_false,Option.bind_some]
  generalize hc : secB kind p q xs[i] = c at hm ⊢
  by_cases hsame : 0 < i∧c = s.sec
  · obtain ⟨hpos,hcs⟩:=hsame
    have hb : decide ((i : Int) > 0) = true:=decide_eq_true (by omega)
    have hext:=q6z (fun v : qg=>({Lo:=v.Lo,Hi:=({X:=v.Hi.X,Y:=v.Hi.Y,Z:=xs[i + 1]} : qi)} : qg)) s.done (s.sec.map (putB s.lo s.hi)) (by simp;omega) (q3a xs (s.sec,(s.done.length : Int),(i : Int),s.flat putB)) (fun k o hk ho=>by
      have h5 : (s.done ++ s.sec.map (putB s.lo s.hi)).length = (s.flat putB).length:=rfl
      simp only [q3a,dlt hk,cond_true,Qf hk,Qf hi,hw,Option.bind_some,w64s hk (by omega),Int.toNat_natCast]) (fun o=>by simp only [q3a,dnl,cond_false])
    have hsp : q4r c s.sec = some true:=by rw [qjo _ _ (by omega)];simp [hcs]
    have hext : loop (q3a xs (s.sec,(s.done.length : Int),(i : Int),s.flat putB)) ((s.done.length : Int),s.flat putB) = _:=hext
    simp only [hb,cond_true,hsp,Option.bind_some,hext]
    rcases Jm putB s xs[i] xs[i + 1] c with ⟨_,_,_,h4⟩ | ⟨h3,h4⟩
    · rw [h4]
      simp only [Mg.flat,List.map_map]
      rfl
    · have hnil : c = []:=Classical.byContradiction fun hn=>h3 ⟨hn,hcs,h1 hpos⟩
      rw [h4]
      simp [Mg.flat,← hcs,hnil]
  · have hcnd : (cond (decide ((i : Int) > 0)) ((q4r c s.sec).bind fun r721=>some r721) (some false)) = some false:=by
      by_cases hpos : 0 < i
      · have hb : decide ((i : Int) > 0) = true:=decide_eq_true (by omega)
        have hne : c≠s.sec:=fun h=>hsame ⟨hpos,h⟩
        rw [hb,cond_true,qjo _ _ (by omega)]
        simp [hne]
      · have hb : decide ((i : Int) > 0) = false:=decide_eq_false (by omega)
        rw [hb,cond_false]
    have hap:=q1m c (putB xs[i] xs[i + 1]) (s.flat putB) (fun o=>(c,((s.flat putB).length : Int),o)) (q4v c xs (s.sec,(s.done.length : Int),(i : Int),s.flat putB)) (fun k hk o ho=>by
      simp only [q4v,dlt hk,cond_true,Qf hk,Qf hi0,Qf hi,hw,Option.bind_some,w64s hk (by omega)]
      rw [Kf (by simp;omega)]
      rfl) (fun o=>by simp only [q4v,dnl,cond_false])
    have h4 : addM putB s xs[i] xs[i + 1] c = ⟨s.flat putB,c,xs[i],xs[i + 1]⟩:=by
      rcases Jm putB s xs[i] xs[i + 1] c with ⟨g1,g2,_,_⟩ | ⟨_,h4⟩
      · refine absurd ?_ hsame
        refine ⟨Nat.pos_of_ne_zero fun h=>g1 ?_,g2⟩
        rw [g2,h0 h]
      · exact h4
    rw [h4]
    simp only [hcnd,Option.bind_some,cond_false,hap]
    simp [Mg.flat]
noncomputable def mrgB (kind : Int) (p q : List qg) : List qg:=(Ql putB Qi (Y3 (Qj (zsOf p ++ zsOf q)) (secB kind p q))).flat putB
section
variable {σ β : Type} (put : Int→Int→σ→β)
def Alike (s t : Mg σ β) : Prop:=s = t∨(s.flat put = t.flat put∧s.sec = []∧t.sec = [])
theorem Alike.flat {s t : Mg σ β} (h : Alike put s t) : s.flat put = t.flat put:=by
  rcases h with rfl | h
  · rfl
  · exact h.1
end
section
variable {σ β : Type} [DecidableEq σ] (put : Int→Int→σ→β)
def runM (sec : Int→List σ) : Mg σ β→List Int→Mg σ β
  | s,a::b::r=>runM sec (addM put s a b (sec a)) (b::r)
  | s,_=>s
theorem qgt (sec : Int→List σ) : ∀ (cuts : List Int) (s : Mg σ β),Ql put s (Y3 cuts sec) = runM put sec s cuts
  | [],s=>rfl
  | [a],s=>rfl
  | a::b::r,s=>by
    have:=qgt sec (b::r) (addM put s a b (sec a))
    simp only [runM,← this]
    rfl
theorem Alike.add {s t : Mg σ β} (h : Alike put s t) (a b : Int) (c : List σ) : Alike put (addM put s a b c) (addM put t a b c):=by
  rcases h with rfl | ⟨h1,h2,h3⟩
  · exact .inl rfl
  · refine .inl ?_
    rcases Jm put s a b c with ⟨g1,g2,_,_⟩ | ⟨_,g4⟩
    · exact absurd (g2.trans h2) g1
    · rcases Jm put t a b c with ⟨e1,e2,_,_⟩ | ⟨_,e4⟩
      · exact absurd (e2.trans h3) e1
      · rw [g4,e4,h1]
end
end Go.Sh
