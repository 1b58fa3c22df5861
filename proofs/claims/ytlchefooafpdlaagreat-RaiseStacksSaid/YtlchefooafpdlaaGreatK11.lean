/- Po1 Pt1 Pt2 Pt3 Pt4 Pt5 Pt6 Pt7 -/
import Derived.Test.YtlchefooafpdlaaGreatK10
set_option maxHeartbeats 4000000
namespace Go.Sh
open Go Go.Am
def sg (a b : Int) : Int:=if a < b then -1 else 0
theorem Zb {a b : Int} : decide (sg a b < 0) = decide (a < b):=by
  unfold sg;by_cases h : a < b <;> simp [h]
def qO (a b : Int) : Option Int:=some (sg a b)
theorem Zk (a b : Int) : qO a b = some (sg a b):=rfl
theorem Zi (a b : Int) : Yh a b = some (decide (a < b)):=by
  unfold Yh q6d
  have : (a != a) = false:=by simp
  simp []
theorem qx2 : qbd = q4a:=rfl
theorem qv5 : (fun p0=>q1o p0) = (fun p0=>q2o p0):=by
  funext p0
  simp only [q1o,q2o,qx2]
  all_goals repeat' first | with_reducible rfl | (refine funext fun (m : Sum _ _)=>?_;cases m <;> (first | with_reducible rfl | rfl)) | (congr 1) | funext _
  done
theorem qv6  : ∀ p0,q1o p0 = q2o p0:=fun p0=>(congrFun qv5 p0)
theorem qv4 : (fun p0=>Jy p0) = (fun p0=>Ug p0):=by
  funext p0
  simp only [Jy,Ug,qv6]
  all_goals repeat' first | with_reducible rfl | (refine funext fun (m : Sum _ _)=>?_;cases m <;> (first | with_reducible rfl | rfl)) | (congr 1) | funext _
  done
theorem qjz  : ∀ p0,Jy p0 = Ug p0:=fun p0=>(congrFun qv4 p0)
theorem qvp : (fun p1=>q5e p1) = (fun p1=>J8 p1 qO):=by
  funext p1 a443
  simp only [q5e,J8,Zi,Zk,Option.bind_some,Zb]
  all_goals repeat' first | with_reducible rfl | (refine funext fun (m : Sum _ _)=>?_;cases m <;> (first | with_reducible rfl | rfl)) | (congr 1) | funext _
  done
theorem qvq  : ∀ p1,q5e p1 = J8 p1 qO:=fun p1=>(congrFun qvp p1)
theorem qvn : (fun p2 p1=>q5d p2 p1) = (fun p2 p1=>Uk p2 p1 qO):=by
  funext p2 p1 a270
  simp only [q5d,Uk,qvq]
  all_goals repeat' first | with_reducible rfl | (refine funext fun (m : Sum _ _)=>?_;cases m <;> (first | with_reducible rfl | rfl)) | (congr 1) | funext _
  done
theorem qvo  : ∀ p2 p1,q5d p2 p1 = Uk p2 p1 qO:=fun p2 p1=>(congrFun (congrFun qvn p2) p1)
theorem qvl : (fun p0 p1 p2=>q5c p0 p1 p2) = (fun p0 p1 p2=>q1e qO p0 p1 p2):=by
  funext p0 p1 p2
  simp only [q5c,q1e,qvo]
  all_goals repeat' first | with_reducible rfl | (refine funext fun (m : Sum _ _)=>?_;cases m <;> (first | with_reducible rfl | rfl)) | (congr 1) | funext _
  done
theorem qvm  : ∀ p0 p1 p2,q5c p0 p1 p2 = q1e qO p0 p1 p2:=fun p0 p1 p2=>(congrFun (congrFun (congrFun qvl p0) p1) p2)
theorem qx0 : (fun p2 p3=>q60 p2 p3) = (fun p2 p3=>Jb p2 p3 qO):=by
  funext p2 p3 a193
  simp only [q60,Jb,Zi,Zk,Option.bind_some,Zb]
  all_goals repeat' first | with_reducible rfl | (refine funext fun (m : Sum _ _)=>?_;cases m <;> (first | with_reducible rfl | rfl)) | (congr 1) | funext _
  done
theorem qx1  : ∀ p2 p3,q60 p2 p3 = Jb p2 p3 qO:=fun p2 p3=>(congrFun (congrFun qx0 p2) p3)
theorem qwz : (fun p0 p1 p2 p3=>q3p p0 p1 p2 p3) = (fun p0 p1 p2 p3=>Ju qO p0 p1 p2 p3):=by
  funext p0 p1 p2 p3
  simp only [q3p,Ju,qx1]
  all_goals repeat' first | with_reducible rfl | (refine funext fun (m : Sum _ _)=>?_;cases m <;> (first | with_reducible rfl | rfl)) | (congr 1) | funext _
  done
theorem qk1  : ∀ p0 p1 p2 p3,q3p p0 p1 p2 p3 = Ju qO p0 p1 p2 p3:=fun p0 p1 p2 p3=>(congrFun (congrFun (congrFun (congrFun qwz p0) p1) p2) p3)
theorem qvh : (fun p2 p1=>q5a p2 p1) = (fun p2 p1=>Ui qO p2 p1):=by
  funext p2 p1 a123
  simp only [q5a,Ui,qk1]
  all_goals repeat' first | with_reducible rfl | (refine funext fun (m : Sum _ _)=>?_;cases m <;> (first | with_reducible rfl | rfl)) | (congr 1) | funext _
  done
theorem qvi  : ∀ p2 p1,q5a p2 p1 = Ui qO p2 p1:=fun p2 p1=>(congrFun (congrFun qvh p2) p1)
theorem qvj : (fun p1=>q5b p1) = (fun p1=>Uj p1 qO):=by
  funext p1 a191
  simp only [q5b,Uj,qk1]
  all_goals repeat' first | with_reducible rfl | (refine funext fun (m : Sum _ _)=>?_;cases m <;> (first | with_reducible rfl | rfl)) | (congr 1) | funext _
  done
theorem qvk  : ∀ p1,q5b p1 = Uj p1 qO:=fun p1=>(congrFun qvj p1)
theorem qvf : (fun p0 p1 p2=>q59 p0 p1 p2) = (fun p0 p1 p2=>q1d qO p0 p1 p2):=by
  funext p0 p1 p2
  simp only [q59,q1d,qvi,qvk]
  all_goals repeat' first | with_reducible rfl | (refine funext fun (m : Sum _ _)=>?_;cases m <;> (first | with_reducible rfl | rfl)) | (congr 1) | funext _
  done
theorem qvg  : ∀ p0 p1 p2,q59 p0 p1 p2 = q1d qO p0 p1 p2:=fun p0 p1 p2=>(congrFun (congrFun (congrFun qvf p0) p1) p2)
theorem qvu : (fun p0=>Ux p0) = (fun p0=>q1f p0):=by
  funext p0
  simp only [Ux,q1f,qjz]
  all_goals repeat' first | with_reducible rfl | (refine funext fun (m : Sum _ _)=>?_;cases m <;> (first | with_reducible rfl | rfl)) | (congr 1) | funext _
  done
theorem qvv  : ∀ p0,Ux p0 = q1f p0:=fun p0=>(congrFun qvu p0)
theorem qx3 : (fun p0=>Uy p0) = (fun p0=>q1j p0):=by
  funext p0
  simp only [Uy,q1j]
  all_goals repeat' first | with_reducible rfl | (refine funext fun (m : Sum _ _)=>?_;cases m <;> (first | with_reducible rfl | rfl)) | (congr 1) | funext _
  done
theorem qx4  : ∀ p0,Uy p0 = q1j p0:=fun p0=>(congrFun qx3 p0)
theorem qvb : (fun p1 p2 r101=>q57 p1 p2 r101) = (fun p1 p2 r101=>Jl p1 p2 r101):=by
  funext p1 p2 r101 a153
  simp only [q57,Jl,qx4]
  all_goals repeat' first | with_reducible rfl | (refine funext fun (m : Sum _ _)=>?_;cases m <;> (first | with_reducible rfl | rfl)) | (congr 1) | funext _
  done
theorem qvc  : ∀ p1 p2 r101,q57 p1 p2 r101 = Jl p1 p2 r101:=fun p1 p2 r101=>(congrFun (congrFun (congrFun qvb p1) p2) r101)
theorem qv9 : (fun p0 p1 p2=>q56 p0 p1 p2) = (fun p0 p1 p2=>Uh qO p0 p1 p2):=by
  funext p0 p1 p2
  simp only [q56,Uh,qvv,qvc]
  all_goals repeat' first | with_reducible rfl | (refine funext fun (m : Sum _ _)=>?_;cases m <;> (first | with_reducible rfl | rfl)) | (congr 1) | funext _
  done
theorem qva  : ∀ p0 p1 p2,q56 p0 p1 p2 = Uh qO p0 p1 p2:=fun p0 p1 p2=>(congrFun (congrFun (congrFun qv9 p0) p1) p2)
theorem qvw : (fun p0 p1 p2 p3=>q25 p0 p1 p2 p3) = (fun p0 p1 p2 p3=>Jn qO p0 p1 p2 p3):=by
  funext p0 p1 p2 p3
  simp only [q25,Jn,Zi,Zk,Option.bind_some,Zb]
  all_goals repeat' first | with_reducible rfl | (refine funext fun (m : Sum _ _)=>?_;cases m <;> (first | with_reducible rfl | rfl)) | (congr 1) | funext _
  done
theorem qvx  : ∀ p0 p1 p2 p3,q25 p0 p1 p2 p3 = Jn qO p0 p1 p2 p3:=fun p0 p1 p2 p3=>(congrFun (congrFun (congrFun (congrFun qvw p0) p1) p2) p3)
theorem qvr : (fun p0 p1 p2 p3 p4=>q3j p0 p1 p2 p3 p4) = (fun p0 p1 p2 p3 p4=>Jm qO p0 p1 p2 p3 p4):=by
  funext p0 p1 p2 p3 p4
  simp only [q3j,Jm,qvx]
  all_goals repeat' first | with_reducible rfl | (refine funext fun (m : Sum _ _)=>?_;cases m <;> (first | with_reducible rfl | rfl)) | (congr 1) | funext _
  done
theorem qk0  : ∀ p0 p1 p2 p3 p4,q3j p0 p1 p2 p3 p4 = Jm qO p0 p1 p2 p3 p4:=fun p0 p1 p2 p3 p4=>(congrFun (congrFun (congrFun (congrFun (congrFun qvr p0) p1) p2) p3) p4)
theorem qvs : (fun p0 p1 p2=>q24 p0 p1 p2) = (fun p0 p1 p2=>J9 qO p0 p1 p2):=by
  funext p0 p1 p2
  simp only [q24,J9,qk0]
  all_goals repeat' first | with_reducible rfl | (refine funext fun (m : Sum _ _)=>?_;cases m <;> (first | with_reducible rfl | rfl)) | (congr 1) | funext _
  done
theorem qvt  : ∀ p0 p1 p2,q24 p0 p1 p2 = J9 qO p0 p1 p2:=fun p0 p1 p2=>(congrFun (congrFun (congrFun qvs p0) p1) p2)
theorem qvd : (fun p0 p1 p2=>q58 p0 p1 p2) = (fun p0 p1 p2=>q1c p0 p1 p2 qO):=by
  funext p0 p1 p2
  simp only [q58,q1c,qk0,qvt]
  all_goals repeat' first | with_reducible rfl | (refine funext fun (m : Sum _ _)=>?_;cases m <;> (first | with_reducible rfl | rfl)) | (congr 1) | funext _
  done
theorem qve  : ∀ p0 p1 p2,q58 p0 p1 p2 = q1c p0 p1 p2 qO:=fun p0 p1 p2=>(congrFun (congrFun (congrFun qvd p0) p1) p2)
theorem qwy : q8l = q1i:=by
  funext a119
  simp only [q8l,q1i]
  all_goals repeat' first | with_reducible rfl | (refine funext fun (m : Sum _ _)=>?_;cases m <;> (first | with_reducible rfl | rfl)) | (congr 1) | funext _
  done
theorem qww : (fun p0 p1 p2=>q5y p0 p1 p2) = (fun p0 p1 p2=>Up qO p0 p1 p2):=by
  funext p0 p1 p2
  simp only [q5y,Up,qwy]
  all_goals repeat' first | with_reducible rfl | (refine funext fun (m : Sum _ _)=>?_;cases m <;> (first | with_reducible rfl | rfl)) | (congr 1) | funext _
  done
theorem qwx  : ∀ p0 p1 p2,q5y p0 p1 p2 = Up qO p0 p1 p2:=fun p0 p1 p2=>(congrFun (congrFun (congrFun qww p0) p1) p2)
theorem qw2 : (fun p2 a432=>q5i p2 a432) = (fun p2 a432=>Jo p2 a432 qO):=by
  funext p2 a432 a667
  simp only [q5i,Jo,Zi,Zk,Option.bind_some,Zb]
  all_goals repeat' first | with_reducible rfl | (refine funext fun (m : Sum _ _)=>?_;cases m <;> (first | with_reducible rfl | rfl)) | (congr 1) | funext _
  done
theorem qw3  : ∀ p2 a432,q5i p2 a432 = Jo p2 a432 qO:=fun p2 a432=>(congrFun (congrFun qw2 p2) a432)
theorem qw4 : q88 = Jp qO:=by
  funext a822
  simp only [q88,Jp,Zi,Zk,Option.bind_some,Zb]
  all_goals repeat' first | with_reducible rfl | (refine funext fun (m : Sum _ _)=>?_;cases m <;> (first | with_reducible rfl | rfl)) | (congr 1) | funext _
  done
theorem qw5 : (fun p2 b670=>q5j p2 b670) = (fun p2 b670=>Jq p2 qO b670):=by
  funext p2 b670 a912
  simp only [q5j,Jq,Zi,Zk,Option.bind_some,Zb]
  all_goals repeat' first | with_reducible rfl | (refine funext fun (m : Sum _ _)=>?_;cases m <;> (first | with_reducible rfl | rfl)) | (congr 1) | funext _
  done
theorem qw6  : ∀ p2 b670,q5j p2 b670 = Jq p2 qO b670:=fun p2 b670=>(congrFun (congrFun qw5 p2) b670)
theorem qw0 : (fun p2 p1=>q3m p2 p1) = (fun p2 p1=>Z8 p2 qO p1):=by
  funext p2 p1 a432
  have mm : @q3m.match_1.{1} = @Z8.match_1.{1} Int:=by funext motive m f g;cases m <;> rfl
  unfold q3m Z8;rw [mm]
  simp only [qw3,qw4,qw6]
  all_goals repeat' first | with_reducible rfl | (congr 1) | funext _
  done
theorem qw1  : ∀ p2 p1,q3m p2 p1 = Z8 p2 qO p1:=fun p2 p1=>(congrFun (congrFun qw0 p2) p1)
theorem qvy : (fun p0 p1 p2=>q3l p0 p1 p2) = (fun p0 p1 p2=>Ja qO p0 p1 p2):=by
  funext p0 p1 p2
  have mm : @q3l.match_1.{1} = @Ja.match_1.{1} Int:=by funext motive m f g;cases m <;> rfl
  unfold q3l Ja;rw [mm]
  simp only [qw1]
  all_goals repeat' first | with_reducible rfl | (congr 1) | funext _
  done
theorem qvz  : ∀ p0 p1 p2,q3l p0 p1 p2 = Ja qO p0 p1 p2:=fun p0 p1 p2=>(congrFun (congrFun (congrFun qvy p0) p1) p2)
theorem qwc : (fun a304 p1=>q5m a304 p1) = (fun a304 p1=>Jr a304 p1 qO):=by
  funext a304 p1 a360
  simp only [q5m,Jr,Zi,Zk,Option.bind_some,Zb]
  all_goals repeat' first | with_reducible rfl | (refine funext fun (m : Sum _ _)=>?_;cases m <;> (first | with_reducible rfl | rfl)) | (congr 1) | funext _
  done
theorem qwd  : ∀ a304 p1,q5m a304 p1 = Jr a304 p1 qO:=fun a304 p1=>(congrFun (congrFun qwc a304) p1)
theorem qwe : (fun b363 a304 p1=>q5n b363 a304 p1) = (fun b363 a304 p1=>Js b363 a304 p1 qO):=by
  funext b363 a304 p1 a439
  simp only [q5n,Js,Zi,Zk,Option.bind_some,Zb]
  all_goals repeat' first | with_reducible rfl | (refine funext fun (m : Sum _ _)=>?_;cases m <;> (first | with_reducible rfl | rfl)) | (congr 1) | funext _
  done
theorem qwf  : ∀ b363 a304 p1,q5n b363 a304 p1 = Js b363 a304 p1 qO:=fun b363 a304 p1=>(congrFun (congrFun (congrFun qwe b363) a304) p1)
theorem qwa : (fun p1=>q5l p1) = (fun p1=>Un p1 qO):=by
  funext p1 a304
  simp only [q5l,Un,qwd,qwf]
  all_goals repeat' first | with_reducible rfl | (refine funext fun (m : Sum _ _)=>?_;cases m <;> (first | with_reducible rfl | rfl)) | (congr 1) | funext _
  done
theorem qwb  : ∀ p1,q5l p1 = Un p1 qO:=fun p1=>(congrFun qwa p1)
theorem qw8 : (fun p0 p1 p2 p3=>q5k p0 p1 p2 p3) = (fun p0 p1 p2 p3=>Um qO p0 p1 p2 p3):=by
  funext p0 p1 p2 p3
  simp only [q5k,Um,qwb]
  all_goals repeat' first | with_reducible rfl | (refine funext fun (m : Sum _ _)=>?_;cases m <;> (first | with_reducible rfl | rfl)) | (congr 1) | funext _
  done
theorem qw9  : ∀ p0 p1 p2 p3,q5k p0 p1 p2 p3 = Um qO p0 p1 p2 p3:=fun p0 p1 p2 p3=>(congrFun (congrFun (congrFun (congrFun qw8 p0) p1) p2) p3)
theorem qwh : (fun p2 p0 p1 v101 p3 v103=>q5p p2 p0 p1 v101 p3 v103) = (fun p2 p0 p1 v101 p3 v103=>q1g p2 p0 p1 v101 p3 v103 qO):=by
  funext p2 p0 p1 v101 p3 v103 a159
  simp only [q5p,q1g,Zi,Zk,Option.bind_some,Zb]
  all_goals repeat' first | with_reducible rfl | (refine funext fun (m : Sum _ _)=>?_;cases m <;> (first | with_reducible rfl | rfl)) | (congr 1) | funext _
  done
theorem qwi  : ∀ p2 p0 p1 v101 p3 v103,q5p p2 p0 p1 v101 p3 v103 = q1g p2 p0 p1 v101 p3 v103 qO:=fun p2 p0 p1 v101 p3 v103=>(congrFun (congrFun (congrFun (congrFun (congrFun (congrFun qwh p2) p0) p1) v101) p3) v103)
theorem qwj : (fun b162 p0 p1 v101 p3 v103=>q5q b162 p0 p1 v101 p3 v103) = (fun b162 p0 p1 v101 p3 v103=>q1h b162 p0 p1 v101 p3 v103 qO):=by
  funext b162 p0 p1 v101 p3 v103 a239
  simp only [q5q,q1h,Zi,Zk,Option.bind_some,Zb]
  all_goals repeat' first | with_reducible rfl | (refine funext fun (m : Sum _ _)=>?_;cases m <;> (first | with_reducible rfl | rfl)) | (congr 1) | funext _
  done
theorem qwk  : ∀ b162 p0 p1 v101 p3 v103,q5q b162 p0 p1 v101 p3 v103 = q1h b162 p0 p1 v101 p3 v103 qO:=fun b162 p0 p1 v101 p3 v103=>(congrFun (congrFun (congrFun (congrFun (congrFun (congrFun qwj b162) p0) p1) v101) p3) v103)
theorem qwn : (fun a488 p1=>q5s a488 p1) = (fun a488 p1=>Zg a488 p1 qO):=by
  funext a488 p1 a542
  simp only [q5s,Zg,Zi,Zk,Option.bind_some,Zb]
  all_goals repeat' first | with_reducible rfl | (refine funext fun (m : Sum _ _)=>?_;cases m <;> (first | with_reducible rfl | rfl)) | (congr 1) | funext _
  done
theorem qwo  : ∀ a488 p1,q5s a488 p1 = Zg a488 p1 qO:=fun a488 p1=>(congrFun (congrFun qwn a488) p1)
theorem qwp : (fun b545 a488 p1=>q5t b545 a488 p1) = (fun b545 a488 p1=>Zh b545 a488 p1 qO):=by
  funext b545 a488 p1 a622
  simp only [q5t,Zh,Zi,Zk,Option.bind_some,Zb]
  all_goals repeat' first | with_reducible rfl | (refine funext fun (m : Sum _ _)=>?_;cases m <;> (first | with_reducible rfl | rfl)) | (congr 1) | funext _
  done
theorem qwq  : ∀ b545 a488 p1,q5t b545 a488 p1 = Zh b545 a488 p1 qO:=fun b545 a488 p1=>(congrFun (congrFun (congrFun qwp b545) a488) p1)
theorem qwl : (fun p1=>q5r p1) = (fun p1=>Uo p1 qO):=by
  funext p1 a488
  simp only [q5r,Uo,qwo,qwq]
  all_goals repeat' first | with_reducible rfl | (refine funext fun (m : Sum _ _)=>?_;cases m <;> (first | with_reducible rfl | rfl)) | (congr 1) | funext _
  done
theorem qwm  : ∀ p1,q5r p1 = Uo p1 qO:=fun p1=>(congrFun qwl p1)
theorem qw7 : (fun p0 p1 p2 p3=>q5o p0 p1 p2 p3) = (fun p0 p1 p2 p3=>Ul qO p0 p1 p2 p3):=by
  funext p0 p1 p2 p3
  simp only [q5o,Ul,qwi,qwk,qwm]
  all_goals repeat' first | with_reducible rfl | (refine funext fun (m : Sum _ _)=>?_;cases m <;> (first | with_reducible rfl | rfl)) | (congr 1) | funext _
  done
theorem qwg  : ∀ p0 p1 p2 p3,q5o p0 p1 p2 p3 = Ul qO p0 p1 p2 p3:=fun p0 p1 p2 p3=>(congrFun (congrFun (congrFun (congrFun qw7 p0) p1) p2) p3)
theorem qws : (fun rec=>q3n rec) = (fun rec=>Yq qO rec):=by
  funext rec a305
  have mm : @q3n.match_1.{1} = @Yq.match_1.{1} Int:=by funext motive m f g;cases m <;> rfl
  unfold q3n Yq;rw [mm]
  simp only [qvm,qvg,qva,qve,qwx,qvz,qw9,qwg,Zi,Zk,Option.bind_some,Zb]
  all_goals repeat' first | with_reducible rfl | (congr 1) | funext _
  done
theorem qwt  : ∀ rec,q3n rec = Yq qO rec:=fun rec=>(congrFun qws rec)
theorem qwu : (fun rec p0 p1 p2 p3=>q3o rec p0 p1 p2 p3) = (fun rec p0 p1 p2 p3=>Jt rec qO p0 p1 p2 p3):=by
  funext rec p0 p1 p2 p3
  simp only [q3o,Jt,qwt]
  all_goals repeat' first | with_reducible rfl | (refine funext fun (m : Sum _ _)=>?_;cases m <;> (first | with_reducible rfl | rfl)) | (congr 1) | funext _
  done
theorem qwv  : ∀ rec p0 p1 p2 p3,q3o rec p0 p1 p2 p3 = Jt rec qO p0 p1 p2 p3:=fun rec p0 p1 p2 p3=>(congrFun (congrFun (congrFun (congrFun (congrFun qwu rec) p0) p1) p2) p3)
theorem qwr : ∀ N,q5x N = Yl N qO:=by
  intro N
  induction N with
  | zero=>rfl
  | succ N ih=>
    funext a b c d
    show q3o (q5x N) a b c d = Jt (Yl N qO) qO a b c d
    rw [ih,qwv]
theorem qv7 : (fun p0=>U4 p0) = (fun p0=>q1b qO p0):=by
  funext p0
  simp only [U4,q1b,qjz,qwr]
  all_goals repeat' first | with_reducible rfl | (refine funext fun (m : Sum _ _)=>?_;cases m <;> (first | with_reducible rfl | rfl)) | (congr 1) | funext _
  done
theorem qv8  : ∀ p0,U4 p0 = q1b qO p0:=fun p0=>(congrFun qv7 p0)
end Go.Sh
namespace Go.Sh
open Go Go.Am
theorem Z9 {α β : Type} {f : α→Option (α ⊕ β)} (st : Nat→α) (n : Nat) (b : β) (hs : ∀ k,k < n→f (st k) = some (.inl (st (k + 1)))) (hd : f (st n) = some (.inr b)) : ∀ {k : Nat},k≤n→loop f (st k) = some b:=by
  have key : ∀ m k,n - k = m→k≤n→loop f (st k) = some b:=by
    intro m
    induction m with
    | zero => intro k hm hk; obtain rfl : k = n := by omega
              exact K0 hd
    | succ m ih=>intro k hm hk;rw [K2 (hs k (by omega))];exact ih (k + 1) (by omega) (by omega)
  intro k hk
  exact key _ k rfl hk
theorem w64s {k : Nat} {n : Nat} (h : k < n) (hn : n≤1000000) : w64 ((k : Int) + 1) = ((k + 1 : Nat) : Int):=by rw [qz (by omega)];omega
theorem dlt {k n : Nat} (h : k < n) : decide ((k : Int) < (n : Int)) = true:=decide_eq_true (by omega)
theorem dnl {n : Nat} : decide ((n : Int) < (n : Int)) = false:=decide_eq_false (by omega)
theorem U8 {α β γ : Type} (src : List α) (hl : src.length≤1000000) (h : α→List γ) (out : List γ) (fin : List γ→β) (f : Int × List γ→Option ((Int × List γ) ⊕ β))
    (hs : ∀ (k : Nat) (hk : k < src.length) (o : List γ),o = out ++ (src.take k).flatMap h→f ((k : Int),o) = some (.inl (((k + 1 : Nat) : Int),o ++ h src[k])))
    (hd : ∀ o,f ((src.length : Int),o) = some (.inr (fin o))) : loop f (0,out) = some (fin (out ++ src.flatMap h)):=by
  have e : ∀ k (hk : k < src.length),(src.take (k + 1)).flatMap h = (src.take k).flatMap h ++ h src[k]:=fun k hk=>by
    rw [List.take_succ_eq_append_getElem hk,List.flatMap_append,List.flatMap_cons,List.flatMap_nil,List.append_nil]
  have:=Z9 (f:=f) (fun k=>((k : Int),out ++ (src.take k).flatMap h)) src.length (fin (out ++ src.flatMap h)) (fun k hk=>by
    rw [hs k hk _ rfl,e k hk,List.append_assoc]) (by simp only [List.take_length];exact hd _) (Nat.zero_le _)
  simpa using this
theorem q2s {α β γ : Type} (src : List α) (h : α→γ) (out : List γ) (fin : List γ→β) (f : Int × List γ→Option ((Int × List γ) ⊕ β))
    (hs : ∀ (k : Nat) (hk : k < src.length) (o : List γ),o.length = out.length + k→f ((k : Int),o) = some (.inl (((k + 1 : Nat) : Int),o ++ [h src[k]])))
    (hd : ∀ o,f ((src.length : Int),o) = some (.inr (fin o))) : loop f (0,out) = some (fin (out ++ src.map h)):=by
  have e : ∀ k (hk : k < src.length),(src.take (k + 1)).map h = (src.take k).map h ++ [h src[k]]:=fun k hk=>by
    rw [List.take_succ_eq_append_getElem hk,List.map_append,List.map_cons,List.map_nil]
  have:=Z9 (f:=f) (fun k=>((k : Int),out ++ (src.take k).map h)) src.length (fin (out ++ src.map h)) (fun k hk=>by
    rw [hs k hk _ (by simp;omega),e k hk,List.append_assoc]) (by simp only [List.take_length];exact hd _) (Nat.zero_le _)
  simpa using this
theorem q9q {γ : Type} (g : γ→γ) (a b : List γ) (hl : (a ++ b).length≤1000000) (f : Int × List γ→Option ((Int × List γ) ⊕ (List γ)))
    (hs : ∀ (k : Nat) (o : List γ) (hk : k < o.length),o.length = (a ++ b).length→f ((k : Int),o) = some (.inl (((k + 1 : Nat) : Int),o.set k (g o[k]))))
    (hd : ∀ o : List γ,f ((o.length : Int),o) = some (.inr o)) : loop f ((a.length : Int),a ++ b) = some (a ++ b.map g):=by
  have hl' : a.length + b.length≤1000000:=by simpa using hl
  have key:=Z9 (f:=f) (fun k=>(((a.length + k : Nat) : Int),a ++ ((b.take k).map g ++ b.drop k))) b.length (a ++ b.map g) (fun k hk=>by
    have hlen : (a ++ ((b.take k).map g ++ b.drop k)).length = (a ++ b).length:=by simp;omega
    have hk' : a.length + k < (a ++ ((b.take k).map g ++ b.drop k)).length:=by rw [hlen];simp;omega
    rw [hs (a.length + k) _ hk' hlen]
    have hm : ((b.take k).map g).length = k:=by simp;omega
    have e : (a ++ ((b.take k).map g ++ b.drop k))[a.length + k]'hk' = b[k]:=by
      rw [List.getElem_append_right (by omega)]
      rw [List.getElem_append_right (by rw [hm];omega)]
      simp [List.length_take,Nat.min_eq_left (Nat.le_of_lt hk)]
    rw [e]
    congr 4
    rw [List.set_append,if_neg (by omega),List.set_append,if_neg (by rw [hm];omega),hm]
    have z : a.length + k - a.length - k = 0:=by omega
    rw [z,List.take_succ_eq_append_getElem hk,List.drop_eq_getElem_cons hk,List.set_cons_zero,List.map_append,List.map_cons,List.map_nil,List.append_assoc]
    rfl) (by
    simp only [List.take_length,List.drop_length,List.append_nil]
    have:=hd (a ++ b.map g)
    simpa using this) (Nat.zero_le _)
  simpa using key
theorem Ue {α γ υ : Type} (l : List α) (c : α→Bool) (res : (k : Nat)→k < l.length→γ) (u : υ) (f : Int→Option (Int ⊕ (υ ⊕ γ)))
    (hs : ∀ (k : Nat) (h : k < l.length),f (k : Int) = some (if c l[k] = true then .inr (.inr (res k h)) else .inl ((k + 1 : Nat) : Int))) (hd : f (l.length : Int) = some (.inr (.inl u))) :
    ((∀ v∈l,c v = false)∧loop f 0 = some (.inl u))∨∃ k,∃ h : k < l.length,c l[k] = true∧(∀ j (hj : j < k),c (l[j]'(by omega)) = false)∧loop f 0 = some (.inr (res k h)):=by
  by_cases hh : ∀ v∈l,c v = false
  · refine .inl ⟨hh,?_⟩
    exact Z9 (f:=f) (fun k=>(k : Int)) l.length _ (fun k hk=>by rw [hs k hk,hh _ (List.getElem_mem hk)];rfl) hd (Nat.zero_le _)
  · refine .inr ?_
    have : ∃ k,∃ h : k < l.length,c l[k] = true:=by
      refine Classical.byContradiction fun hn=>hh fun v hv=>?_
      obtain ⟨k,hk,rfl⟩:=List.getElem_of_mem hv
      cases hc : c l[k]
      · rfl
      · exact absurd ⟨k,hk,hc⟩ hn
    have h2 : ∃ k,(∃ h : k < l.length,c l[k] = true)∧∀ j,j < k→¬ ∃ h : j < l.length,c l[j] = true:=by
      obtain ⟨k,hk⟩:=this
      induction k using Nat.strongRecOn with
      | _ k ih=>
        by_cases hj : ∃ j,j < k∧∃ h : j < l.length,c l[j] = true
        · obtain ⟨j,h1,h2⟩:=hj;exact ih j h1 h2
        · exact ⟨k,hk,fun j h1 h2=>hj ⟨j,h1,h2⟩⟩
    obtain ⟨k,⟨hk,hc⟩,hmin⟩:=h2
    have hmin' : ∀ j (hj : j < k),c (l[j]'(by omega)) = false:=fun j hj=>by
      cases h : c (l[j]'(by omega))
      · rfl
      · exact absurd ⟨by omega,h⟩ (hmin j hj)
    refine ⟨k,hk,hc,hmin',?_⟩
    exact Z9 (f:=f) (fun k=>(k : Int)) k _ (fun j hj=>by rw [hs j (by omega),hmin' j hj];rfl) (by rw [hs k hk,if_pos hc]) (Nat.zero_le _)
theorem qk5 : ∀ {l a b : List Int},Y9 l a→Y9 l b→a = b:=by
  have key : ∀ (a b : List Int),a.Pairwise (· < ·)→b.Pairwise (· < ·)→(∀ x,x∈a↔x∈b)→a = b:=by
    intro a
    induction a with
    | nil=>intro b _ _ h;cases b with
      | nil=>rfl
      | cons y b=>exact absurd ((h y).2 (by simp)) (by simp)
    | cons x a ih=>
      intro b ha hb h
      cases b with
      | nil=>exact absurd ((h x).1 (by simp)) (by simp)
      | cons y b=>
        rw [List.pairwise_cons] at ha hb
        have hxy : x = y:=by
          rcases List.mem_cons.1 ((h x).1 (by simp)) with h1 | h1
          · exact h1
          · rcases List.mem_cons.1 ((h y).2 (by simp)) with h2 | h2
            · exact h2.symm
            · have:=hb.1 _ h1;have:=ha.1 _ h2;omega
        subst hxy
        rw [ih b ha.2 hb.2 fun z=>?_]
        constructor
        · intro hz
          rcases List.mem_cons.1 ((h z).1 (by simp [hz])) with h1 | h1
          · have:=ha.1 _ hz;omega
          · exact h1
        · intro hz
          rcases List.mem_cons.1 ((h z).2 (by simp [hz])) with h1 | h1
          · have:=hb.1 _ hz;omega
          · exact h1
  intro l a b ha hb
  exact key a b ha.1 hb.1 fun x=>(ha.2 x).trans (hb.2 x).symm
def ltI (a b : Int) : Bool:=decide (a < b)
theorem swoI : Sort.SWO ltI where
  irrefl:=by intro x;simp [ltI]
  trans:=by intro x y z;simp only [ltI,decide_eq_true_eq];omega
  ntrans:=by intro x y z;simp only [ltI,decide_eq_false_iff_not];omega
theorem cmpI : K7 qO ltI (fun _=>True):=by
  intro x y _ _
  refine ⟨sg x y,rfl,?_⟩
  rw [Zb];rfl
theorem qk4 (l : List Int) (hl : l.length≤1000000) : ∃ ys,U4 l = some ys∧ys.Perm l∧ys.Pairwise (·≤·):=by
  obtain ⟨ys,h1,h2,h3⟩:=qk3 cmpI swoI l hl (fun _ _=>trivial)
  refine ⟨ys,by rw [qv8];exact h1,h2,h3.imp ?_⟩
  intro a b h
  simp only [ltI,decide_eq_false_iff_not] at h
  omega
end Go.Sh
namespace Go.Sh
open Go Go.Am
structure CInv (p : List Int) (k k2 i : Nat) (a : List Int) : Prop where
  len : a.length = p.length
  hi : i≤k + k2 - 1
  same : ∀ j (h : j < p.length),k + k2 - 1≤j→a[j]? = some p[j]
  so : Y9 (p.take (k + k2)) (a.take i)
theorem qn7 {p : List Int} (hp : p.Pairwise (·≤·)) (hl : p.length≤1000000) {k k2 i : Nat} {a : List Int} (hk : 0 < k) (h2 : 0 < k2) (hn : k + k2 < p.length) (h : CInv p k k2 i a) :
    ∃ (i' : Nat) (a' : List Int),Uw ((i : Int),(k,p.length - k),(k2 : Int),a) = some (.inl ((i' : Int),(k,p.length - k),((k2 + 1 : Nat) : Int),a'))∧CInv p k (k2 + 1) i' a':=by
  obtain ⟨h1,h3,h4,h5,h6⟩:=h
  have hb : decide ((k2 : Int) < ((p.length - k : Nat) : Int)) = true:=dlt (by omega)
  have r1 : idxW a (k,p.length - k) (k2 : Int) = some (p[k + k2]):=by
    unfold idxW;rw [if_pos ⟨by omega,by omega⟩]
    simp only [Int.toNat_natCast]
    exact h4 (k + k2) hn (by omega)
  have r2 : idxW a (k,p.length - k) (w64 ((k2 : Int) - 1)) = some (p[k + k2 - 1]):=by
    rw [qz (by omega)]
    have e : (k2 : Int) - 1 = ((k2 - 1 : Nat) : Int):=by omega
    rw [e];unfold idxW;rw [if_pos ⟨by omega,by omega⟩]
    simp only [Int.toNat_natCast]
    have:=h4 (k + k2 - 1) (by omega) (by omega)
    rw [show k + (k2 - 1) = k + k2 - 1 by omega];exact this
  have hle : p[k + k2 - 1]≤p[k + k2]:=List.pairwise_iff_getElem.1 hp _ _ (by omega) hn (by omega)
  have hmem : p[k + k2 - 1]∈p.take (k + k2):=by
    rw [List.mem_take_iff_getElem];exact ⟨k + k2 - 1,by omega,rfl⟩
  have htk : p.take (k + (k2 + 1)) = p.take (k + k2) ++ [p[k + k2]]:=by rw [← Nat.add_assoc,List.take_succ_eq_append_getElem hn]
  have hw : w64 ((k2 : Int) + 1) = ((k2 + 1 : Nat) : Int):=w64s (n:=p.length) (by omega) hl
  by_cases he : p[k + k2] = p[k + k2 - 1]
  · refine ⟨i,a,?_,h1,by omega,fun j hj hge=>h4 j hj (by omega),?_⟩
    · have hne : (p[k + k2] != p[k + k2 - 1]) = false:=by rw [he];simp
      simp only [Uw,hb,cond_true,r1,r2,Option.bind_some,hne,cond_false,hw]
    · rw [htk]
      refine ⟨h5,fun x=>?_⟩
      rw [h6 x]
      constructor
      · intro hx;exact List.mem_append.2 (.inl hx)
      · intro hx
        rcases List.mem_append.1 hx with h | h
        · exact h
        · simp only [List.mem_singleton] at h;rw [h,he];exact hmem
  · have hne : (p[k + k2] != p[k + k2 - 1]) = true:=by simpa using he
    have hia : i < a.length:=by omega
    have r3 : idx a (i : Int) = some a[i]:=Qj hia
    have hw' : w64 ((i : Int) + 1) = ((i + 1 : Nat) : Int):=w64s (n:=p.length) (by omega) hl
    refine ⟨i + 1,a.set i p[k + k2],?_,by simpa using h1,by omega,fun j hj hge=>?_,?_⟩
    · simp only [Uw,hb,cond_true,r1,r2,Option.bind_some,hne,r3,hw,hw',Int.toNat_natCast]
    · rw [List.getElem?_set_ne (by omega)];exact h4 j hj (by omega)
    · have e : (a.set i p[k + k2]).take (i + 1) = a.take i ++ [p[k + k2]]:=by
        rw [List.take_succ_eq_append_getElem (by simpa using hia)]
        simp [List.take_set_of_le]
      rw [e,htk]
      refine ⟨?_,fun x=>?_⟩
      · rw [List.pairwise_append]
        refine ⟨h5,by simp,fun x hx y hy=>?_⟩
        simp only [List.mem_singleton] at hy;subst hy
        have hx':=(h6 x).1 hx
        rw [List.mem_take_iff_getElem] at hx'
        obtain ⟨j,hj,rfl⟩:=hx'
        have : p[j]≤p[k + k2 - 1]:=by
          by_cases hjj : j = k + k2 - 1
          · subst hjj;exact Int.le_refl _
          · exact List.pairwise_iff_getElem.1 hp _ _ (by omega) (by omega) (by omega)
        omega
      · rw [List.mem_append,List.mem_append,h6 x]
theorem qn6 {p : List Int} (hp : p.Pairwise (·≤·)) (hl : p.length≤1000000) {k : Nat} (hk : 0 < k) (hkn : k < p.length) (h0 : Y9 (p.take (k + 1)) (p.take k)) :
    ∃ i : Nat,∃ a : List Int,loop Uw ((k : Int),(k,p.length - k),1,p) = some ((i : Int),a)∧a.length = p.length∧i≤p.length∧Y9 p (a.take i):=by
  have h:=Za (f:=Uw) (mk:=fun k2 (c : Nat × List Int)=>((c.1 : Int),(k,p.length - k),((k2 : Nat) : Int),c.2)) (p.length - k) (fun k2 c=>0 < k2∧CInv p k k2 c.1 c.2)
    (fun b=>∃ i : Nat,∃ a : List Int,b = ((i : Int),a)∧a.length = p.length∧i≤p.length∧Y9 p (a.take i))
    (fun k2 c hk2 hI=>by
      obtain ⟨i',a',e1,e2⟩:=qn7 hp hl hk hI.1 (by omega) hI.2
      exact .inl ⟨(i',a'),e1,by omega,e2⟩)
    (fun c hI=>by
      obtain ⟨hpos,h1,h3,h4,h5⟩:=hI
      refine ⟨((c.1 : Int),c.2),?_,c.1,c.2,rfl,h1,by omega,?_⟩
      · simp only [Uw,dnl,cond_false]
      · rwa [List.take_of_length_le (by omega)] at h5)
    (k0:=1) (c0:=(k,p)) (by omega) ⟨by omega,rfl,by simp,fun j hj _=>by simp [hj],h0⟩
  obtain ⟨b,hb,i,a,rfl,h2⟩:=h
  exact ⟨i,a,hb,h2⟩
theorem qfn {p : List Int} (hp : p.Pairwise (·≤·)) (hl : p.length≤1000000) :
    ∃ w a,q22 p = some ((0,w),a)∧a.length = p.length∧w≤p.length∧Y9 p (a.take w):=by
  unfold q22
  by_cases hs : p.length < 2
  · rw [decide_eq_true (by omega : (p.length : Int) < 2),cond_true]
    refine ⟨p.length,p,rfl,rfl,Nat.le_refl _,?_⟩
    rw [List.take_length]
    refine ⟨?_,fun x=>Iff.rfl⟩
    match p,hs with
    | [],_=>simp
    | [x],_=>simp
  rw [decide_eq_false (by omega : ¬ (p.length : Int) < 2),cond_false]
  have hsort : ∀ k,k≤p.length→(∀ j (hj : j < k),0 < j→∀ h : j < p.length,p[j]≠p[j - 1])→Y9 (p.take k) (p.take k):=by
    intro k hk hne
    refine ⟨?_,fun x=>Iff.rfl⟩
    rw [List.pairwise_iff_getElem]
    intro i j hi hj hij
    simp only [List.length_take] at hi hj
    simp only [List.getElem_take]
    have h1 : p[j - 1]≤p[j]:=List.pairwise_iff_getElem.1 hp _ _ (by omega) (by omega) (by omega)
    have h2:=hne j (by omega) (by omega) (by omega)
    have h3 : p[i]≤p[j - 1]:=by
      by_cases e : i = j - 1
      · subst e;exact Int.le_refl _
      · exact List.pairwise_iff_getElem.1 hp _ _ (by omega) (by omega) (by omega)
    omega
  have hstep : ∀ k,0 < k→∀ h : k < p.length,p[k]≠p[k - 1]→Zl p (k : Int) = some (.inl ((k + 1 : Nat) : Int)):=by
    intro k h0 h hne
    have r2 : idx p (w64 ((k : Int) - 1)) = some (p[k - 1]):=by rw [qz (by omega)];exact Ur (by omega) (by omega)
    have hb : (p[k] == p[k - 1]) = false:=by simpa using hne
    simp only [Zl,dlt h,cond_true,Qj h,r2,Option.bind_some,hb,cond_false,w64s h hl]
  by_cases hh : ∀ j,0 < j→∀ h : j < p.length,p[j]≠p[j - 1]
  · have h1 : loop (Zl p) 1 = some (.inl ()):=by
      exact Z9 (f:=Zl p) (fun k=>((k + 1 : Nat) : Int)) (p.length - 1) _ (fun k hk=>by
        exact hstep (k + 1) (by omega) (by omega) (hh (k + 1) (by omega) (by omega))) (by
        show Zl p (((p.length - 1) + 1 : Nat) : Int) = _
        rw [show p.length - 1 + 1 = p.length by omega]
        simp only [Zl,dnl,cond_false]) (Nat.zero_le _)
    rw [h1]
    refine ⟨p.length,p,rfl,rfl,Nat.le_refl _,?_⟩
    have:=hsort p.length (Nat.le_refl _) fun j _ h0 h=>hh j h0 h
    rw [List.take_length] at this ⊢;exact this
  · have h2 : ∃ k,(0 < k∧∃ h : k < p.length,p[k] = p[k - 1])∧∀ j,j < k→¬ (0 < j∧∃ h : j < p.length,p[j] = p[j - 1]):=by
      have : ∃ k,0 < k∧∃ h : k < p.length,p[k] = p[k - 1]:=by
        refine Classical.byContradiction fun hn=>hh fun j h0 h he=>hn ⟨j,h0,h,he⟩
      obtain ⟨k,hk⟩:=this
      induction k using Nat.strongRecOn with
      | _ k ih=>
        by_cases hj : ∃ j,j < k∧(0 < j∧∃ h : j < p.length,p[j] = p[j - 1])
        · obtain ⟨j,h1,h2⟩:=hj;exact ih j h1 h2
        · exact ⟨k,hk,fun j h1 h2=>hj ⟨j,h1,h2⟩⟩
    obtain ⟨k,⟨h0,hk,he⟩,hmin⟩:=h2
    have hso : Y9 (p.take k) (p.take k):=hsort k (by omega) fun j hj h0 h he=>hmin j hj ⟨h0,h,he⟩
    have hso' : Y9 (p.take (k + 1)) (p.take k):=by
      refine ⟨hso.1,fun x=>?_⟩
      rw [List.take_succ_eq_append_getElem hk,List.mem_append]
      refine ⟨.inl,fun h=>h.elim id fun h=>?_⟩
      simp only [List.mem_singleton] at h
      rw [h,he,List.mem_take_iff_getElem]
      exact ⟨k - 1,by omega,rfl⟩
    obtain ⟨i,a,e1,e2,e3,e4⟩:=qn6 hp hl h0 hk hso'
    have s1 : sub2 p.length (k : Int) (p.length : Int) = some (k,p.length - k):=by unfold sub2;rw [if_pos ⟨by omega,by omega,by omega⟩];simp
    have s2 : sub2 a.length (i : Int) (a.length : Int) = some (i,a.length - i):=by unfold sub2;rw [if_pos ⟨by omega,by omega,by omega⟩];simp
    have s3 : sub2 a.length 0 (i : Int) = some (0,i):=by unfold sub2;rw [if_pos ⟨by omega,by omega,by omega⟩];simp
    have r2 : idx p (w64 ((k : Int) - 1)) = some (p[k - 1]):=by rw [qz (by omega)];exact Ur (by omega) (by omega)
    have h1 : loop (Zl p) 1 = some (.inr ((0,i),clrw a (i,a.length - i) 0)):=by
      exact Z9 (f:=Zl p) (fun k=>((k + 1 : Nat) : Int)) (k - 1) _ (fun j hj=>by
        exact hstep (j + 1) (by omega) (by omega) fun he=>hmin (j + 1) (by omega) ⟨by omega,by omega,he⟩) (by
        show Zl p (((k - 1) + 1 : Nat) : Int) = _
        rw [show k - 1 + 1 = k by omega]
        have hb : (p[k] == p[k - 1]) = true:=by simpa using he
        simp only [Zl,dlt hk,cond_true,Qj hk,r2,Option.bind_some,hb,s1,e1,s2,s3]) (Nat.zero_le _)
    rw [h1]
    refine ⟨i,clrw a (i,a.length - i) 0,rfl,by rw [qfc (by simp;omega)];exact e2,e3,?_⟩
    have : (clrw a (i,a.length - i) 0).take i = a.take i:=by
      unfold clrw splice
      rw [List.append_assoc,List.take_append_of_le_length (by simp;omega)]
      simp [List.take_take]
    rw [this];exact e4
end Go.Sh
namespace Go.Sh
open Go Go.Am
theorem q6l {α : Type} [DecidableEq α] (e : α→α→Bool) (he : ∀ v w,e v w = decide (v = w)) (p q : List α) (hl : p.length≤1000000) (f : Int→Option (Int ⊕ (Unit ⊕ Bool)))
    (hf : ∀ k,f k = cond (decide (k < (p.length : Int))) ((idx p k).bind fun v=>(idx q k).bind fun w=>cond (!(e v w)) (some (.inr (.inr false))) (some (.inl (w64 (k + 1))))) (some (.inr (.inl ())))) :
    cond ((p.length : Int) != (q.length : Int)) (some false) ((loop f 0).bind fun m=>(match m with | .inl _=>some true | .inr x=>some x)) = some (decide (p = q)):=by
  by_cases hn : p.length = q.length
  · have : ((p.length : Int) != (q.length : Int)) = false:=by rw [hn];simp
    rw [this,cond_false]
    let c : Nat→Bool:=fun k=>if h : k < p.length then !(e p[k] (q[k]'(by omega))) else false
    have hs : ∀ (k : Nat) (h : k < (List.range p.length).length),f (k : Int) = some (if c (List.range p.length)[k] = true then .inr (.inr false) else .inl ((k + 1 : Nat) : Int)):=by
      intro k h
      have h : k < p.length:=by simpa using h
      rw [hf]
      simp only [dlt h,cond_true,Qj h,Qj (xs:=q) (k:=k) (by omega),Option.bind_some,List.getElem_range,c,dif_pos h,w64s h hl]
      cases e p[k] (q[k]'(by omega)) <;> simp
    have hd : f ((List.range p.length).length : Int) = some (.inr (.inl ())):=by rw [hf];simp []
    rcases Ue (List.range p.length) c (fun _ _=>false) () f hs hd with ⟨h1,h2⟩ | ⟨k,hk,hc,_,h2⟩
    · rw [h2]
      have : p = q:=by
        refine List.ext_getElem hn fun k h3 h4=>?_
        have:=h1 k (by simpa using h3)
        simp only [c,dif_pos h3,he,Bool.not_eq_false',decide_eq_true_eq] at this
        exact this
      simp [this]
    · rw [h2]
      have hk' : k < p.length:=by simpa using hk
      have : p≠q:=by
        intro h
        simp only [List.getElem_range,c,he,h] at hc
        simp at hc
      simp [this]
  · have : ((p.length : Int) != (q.length : Int)) = true:=by simpa using (fun h : (p.length : Int) = q.length=>hn (by omega))
    rw [this,cond_true]
    have : p≠q:=fun h=>hn (by rw [h])
    simp [this]
theorem qg0 (p q : List qi) (hl : p.length≤1000000) : q7t p q = some (decide (p = q)):=
  q6l (fun v w=>((v.Lo == w.Lo) && ((v.Hi == w.Hi) && true))) (fun v w=>by cases v;cases w;rw [Bool.eq_iff_iff];simp) p q hl (qaw p q) (fun _=>rfl)
theorem qe0 (p q : List qi) (hl : p.length≤1000000) : q2w p q = some (decide (p = q)):=
  q6l (fun v w=>((v.Lo == w.Lo) && ((v.Hi == w.Hi) && true))) (fun v w=>by cases v;cases w;rw [Bool.eq_iff_iff];simp) p q hl (qaj p q) (fun _=>rfl)
theorem q46 (p q : List qf) (hl : p.length≤1000000) : U2 p q = some (decide (p = q)):=
  q6l (fun v w=>((v.X0 == w.X0) && ((v.Y0 == w.Y0) && ((v.X1 == w.X1) && ((v.Y1 == w.Y1) && true))))) (fun v w=>by cases v;cases w;rw [Bool.eq_iff_iff];simp) p q hl (qat p q) (fun _=>rfl)
theorem qjg (p q : List qf) (hl : p.length≤1000000) : q4n p q = some (decide (p = q)):=
  q6l (fun v w=>((v.X0 == w.X0) && ((v.Y0 == w.Y0) && ((v.X1 == w.X1) && ((v.Y1 == w.Y1) && true))))) (fun v w=>by cases v;cases w;rw [Bool.eq_iff_iff];simp) p q hl (qal p q) (fun _=>rfl)
theorem sameBox (p q : List qj) (hl : p.length≤1000000) : qru p q = some (decide (p = q)):=
  q6l (fun v w=>((v.Lo.X == w.Lo.X) && ((v.Lo.Y == w.Lo.Y) && ((v.Lo.Z == w.Lo.Z) && ((v.Hi.X == w.Hi.X) && ((v.Hi.Y == w.Hi.Y) && ((v.Hi.Z == w.Hi.Z) && true))))))) (fun v w=>by rcases v with ⟨⟨_,_,_⟩,⟨_,_,_⟩⟩;rcases w with ⟨⟨_,_,_⟩,⟨_,_,_⟩⟩;rw [Bool.eq_iff_iff];simp [and_assoc]) p q hl (qiw p q) (fun _=>rfl)
structure Mg (σ β : Type) where
  done : List β
  sec : List σ
  lo : Int
  hi : Int
section
variable {σ β : Type} [DecidableEq σ] (put : Int→Int→σ→β)
def Mg.flat (s : Mg σ β) : List β:=s.done ++ s.sec.map (put s.lo s.hi)
def addM (s : Mg σ β) (a b : Int) (c : List σ) : Mg σ β:=if c≠[]∧c = s.sec∧s.hi = a then ⟨s.done,s.sec,s.lo,b⟩ else ⟨s.flat put,c,a,b⟩
def Qn : Mg σ β:=⟨[],[],0,0⟩
def Qo (s0 : Mg σ β) (steps : List (Int × Int × List σ)) : Mg σ β:=steps.foldl (fun s t=>addM put s t.1 t.2.1 t.2.2) s0
theorem q6p {s0 : Mg σ β} {steps : List (Int × Int × List σ)} {i : Nat} (h : i < steps.length) : Qo put s0 (steps.take (i + 1)) = addM put (Qo put s0 (steps.take i)) steps[i].1 steps[i].2.1 steps[i].2.2:=by
  unfold Qo
  rw [List.take_succ_eq_append_getElem h,List.foldl_append];rfl
theorem qld (s : Mg σ β) (a b : Int) (c : List σ) : (addM put s a b c).hi = b:=by unfold addM;split <;> rfl
theorem qle (s : Mg σ β) (a b : Int) (c : List σ) : ((addM put s a b c).flat put).length≤(s.flat put).length + c.length:=by
  unfold addM;split
  · simp [Mg.flat]
  · simp [Mg.flat];omega
theorem q9t {s0 : Mg σ β} {M : Nat} : ∀ {steps : List (Int × Int × List σ)},(∀ t∈steps,t.2.2.length≤M)→((Qo put s0 steps).flat put).length≤(s0.flat put).length + steps.length * M:=by
  intro steps
  induction steps generalizing s0 with
  | nil=>intro _;simp [Qo]
  | cons t r ih=>
    intro h
    have h1:=ih (s0:=addM put s0 t.1 t.2.1 t.2.2) fun u hu=>h u (by simp [hu])
    have h2:=qle put s0 t.1 t.2.1 t.2.2
    have h3:=h t (by simp)
    have h4 : Qo put s0 (t::r) = Qo put (addM put s0 t.1 t.2.1 t.2.2) r:=rfl
    rw [h4]
    simp only [List.length_cons,Nat.succ_mul]
    omega
end
section
variable {σ : Type}
def Kt (cuts : List Int) (sec : Int→List σ) : List (Int × Int × List σ):=(cuts.zip cuts.tail).map fun c=>(c.1,c.2,sec c.1)
theorem qba (cuts : List Int) (sec : Int→List σ) : (Kt cuts sec).length = cuts.length - 1:=by simp [Kt]
theorem qb9 {cuts : List Int} {sec : Int→List σ} {i : Nat} (h : i < (Kt cuts sec).length) (h1 : i + 1 < cuts.length) : (Kt cuts sec)[i] = (cuts[i],cuts[i + 1],sec cuts[i]):=by
  simp [Kt]
theorem qya {cuts : List Int} {sec : Int→List σ} {M : Nat} (h : ∀ x,(sec x).length≤M) : ∀ t∈Kt cuts sec,t.2.2.length≤M:=by
  intro t ht
  simp only [Kt,List.mem_map] at ht
  obtain ⟨c,_,rfl⟩:=ht
  exact h _
end
theorem U9 {σ β : Type} [DecidableEq σ] (put : Int→Int→σ→β) (s : Mg σ β) (a b : Int) (c : List σ) : (c≠[]∧c = s.sec∧s.hi = a∧addM put s a b c = ⟨s.done,s.sec,s.lo,b⟩)∨(¬ (c≠[]∧c = s.sec∧s.hi = a)∧addM put s a b c = ⟨s.flat put,c,a,b⟩):=by
  unfold addM
  split
  · rename_i h;exact .inl ⟨h.1,h.2.1,h.2.2,rfl⟩
  · rename_i h;exact .inr ⟨h,rfl⟩
def putR (a b : Int) (t : qi) : qf:={X0:=a,Y0:=t.Lo,X1:=b,Y1:=t.Hi}
theorem qlw (s : Mg qi qf) (a b : Int) (c : List qi) (hl : (s.flat putR).length + c.length≤1000000) :
    q7l (s.flat putR) s.sec (s.done.length : Int) s.hi a b c = some ((addM putR s a b c).sec,((addM putR s a b c).done.length : Int),(addM putR s a b c).hi,(addM putR s a b c).flat putR):=by
  have hsec : s.sec.length≤1000000:=by have : (s.flat putR).length = s.done.length + s.sec.length:=(by simp [Mg.flat]);omega
  unfold q7l
  rcases U9 putR s a b c with ⟨h1,h2,h3,h4⟩ | ⟨h1,h4⟩
  · have hb : decide ((c.length : Int) > 0) = true:=decide_eq_true (by have:=List.length_pos_iff.2 h1;omega)
    have he : (s.hi == a) = true:=by simpa using h3
    rw [h2] at hb
    rw [h4,h2]
    simp only [hb,cond_true,he,Option.bind_some,qg0 _ _ hsec,decide_true]
    have:=q9q (fun v : qf=>({X0:=v.X0,Y0:=v.Y0,X1:=b,Y1:=v.Y1} : qf)) s.done (s.sec.map (putR s.lo s.hi)) (by have : (s.done ++ s.sec.map (putR s.lo s.hi)).length = (s.flat putR).length:=rfl;omega) (q4x b) (fun k o hk ho=>by
      have h5 : (s.done ++ s.sec.map (putR s.lo s.hi)).length = (s.flat putR).length:=rfl
      simp only [q4x,dlt hk,cond_true,Qj hk,Option.bind_some,w64s hk (by omega),Int.toNat_natCast]) (fun o=>by simp only [q4x,dnl,cond_false])
    rw [show s.flat putR = s.done ++ s.sec.map (putR s.lo s.hi) from rfl,this]
    simp only [Option.bind_some,Mg.flat,List.map_map]
    rfl
  · rw [h4]
    have hc : ((cond (decide ((c.length : Int) > 0)) (some (s.hi == a)) (some false)).bind fun c101=>(cond c101 ((q7t s.sec c).bind fun r121=>some r121) (some false))) = some false:=by
      by_cases h5 : c = []
      · subst h5;simp
      · have hb : decide ((c.length : Int) > 0) = true:=decide_eq_true (by have:=List.length_pos_iff.2 h5;omega)
        simp only [hb,cond_true,Option.bind_some,qg0 _ _ hsec]
        by_cases h6 : s.hi = a
        · have h7 : s.sec≠c:=fun h=>h1 ⟨h5,h.symm,h6⟩
          simp [h6,h7]
        · have : (s.hi == a) = false:=by simpa using h6
          simp [this]
    have hap:=q2s c (putR a b) (s.flat putR) (fun o=>(c,((s.flat putR).length : Int),b,o)) (q4y c a b (s.flat putR)) (fun k hk o ho=>by
      simp only [q4y,dlt hk,cond_true,Qj hk,Option.bind_some,w64s hk (by omega)]
      rw [Ku (by simp;omega)]
      rfl) (fun o=>by simp only [q4y,dnl,cond_false])
    rw [← Option.bind_assoc,hc]
    simp only [Option.bind_some,cond_false,hap]
    simp [Mg.flat]
end Go.Sh
namespace Go.Sh
open Go Go.Am
def vR (r : qf) : Prop:=r.X0 < r.X1∧r.Y0 < r.Y1∧-1000000≤r.X0∧r.X0≤1000000∧-1000000≤r.X1∧r.X1≤1000000∧-1000000≤r.Y0∧r.Y0≤1000000∧-1000000≤r.Y1∧r.Y1≤1000000
instance (r : qf) : Decidable (vR r):=by unfold vR;infer_instance
theorem qga (x : Int) : q1w x = some (decide (-1000000≤x∧x≤1000000)):=by
  unfold q1w
  by_cases h : x ≥ -1000000 <;> by_cases h' : x≤1000000 <;> simp [h,h'] <;> omega
theorem qed (r : qf) : q50 r = some (decide (vR r)):=by
  unfold q50
  simp only [qga,qn8,Option.bind_some,vR]
  by_cases h1 : r.X0 < r.X1 <;> by_cases h2 : r.Y0 < r.Y1 <;> by_cases h3 : -1000000≤r.X0∧r.X0≤1000000 <;> by_cases h4 : -1000000≤r.X1∧r.X1≤1000000 <;> by_cases h5 : -1000000≤r.Y0∧r.Y0≤1000000 <;> by_cases h6 : -1000000≤r.Y1∧r.Y1≤1000000 <;> simp [h1,h2,h3,h4,h5,h6] <;> omega
theorem qrn (r : qf) : qam r = some (decide (vR r)):=qed r
def covR (x : Int) (r : qf) : Bool:=decide (r.X0≤x) && decide (x < r.X1)
def ysp (r : qf) : qi:={Lo:=r.Y0,Hi:=r.Y1}
def covS (l : List qf) (x : Int) : List qi:=l.flatMap fun r=>if covR x r = true then [ysp r] else []
def hasR (l : List qf) (x y : Int) : Prop:=∃ r∈l,r.X0≤x∧x < r.X1∧r.Y0≤y∧y < r.Y1
theorem qa7 {l : List qf} {x : Int} {t : qi} : t∈covS l x↔∃ r∈l,covR x r = true∧t = ysp r:=by
  unfold covS
  rw [List.mem_flatMap]
  constructor
  · rintro ⟨r,hr,h⟩
    split at h
    · rename_i hc;simp only [List.mem_singleton] at h;exact ⟨r,hr,hc,h⟩
    · cases h
  · rintro ⟨r,hr,hc,rfl⟩;exact ⟨r,hr,by simp [hc]⟩
theorem Jv {l : List qf} {x y : Int} : has (covS l x) y↔hasR l x y:=by
  unfold has hasR
  constructor
  · rintro ⟨t,ht,h1,h2⟩
    obtain ⟨r,hr,hc,rfl⟩:=qa7.1 ht
    simp only [covR,Bool.and_eq_true,decide_eq_true_eq] at hc
    exact ⟨r,hr,hc.1,hc.2,h1,h2⟩
  · rintro ⟨r,hr,h1,h2,h3,h4⟩
    exact ⟨ysp r,qa7.2 ⟨r,hr,by simp [covR,h1,h2],rfl⟩,h3,h4⟩
theorem q16 (l : List qf) (x : Int) : (covS l x).length≤l.length:=by
  unfold covS
  induction l with
  | nil=>simp
  | cons r l ih=>
    simp only [List.flatMap_cons,List.length_append,List.length_cons]
    have : (if covR x r = true then [ysp r] else []).length≤1:=by split <;> simp
    omega
theorem qnh {l : List qf} (h : ∀ r∈l,vR r) (x : Int) : ∀ t∈covS l x,vld t:=by
  intro t ht
  obtain ⟨r,hr,_,rfl⟩:=qa7.1 ht
  obtain ⟨_,h2,_,_,_,_,h3,_,_,h4⟩:=h r hr
  exact ⟨h2,h3,h4⟩
def xsOf (l : List qf) : List Int:=l.flatMap fun r=>[r.X0,r.X1]
def ysOf (l : List qf) : List Int:=l.flatMap fun r=>[r.Y0,r.Y1]
theorem q11 (l : List qf) : (xsOf l).length = 2 * l.length:=by
  unfold xsOf;induction l with
  | nil=>rfl
  | cons r l ih=>simp only [List.flatMap_cons,List.length_append,List.length_cons,List.length_nil];omega
theorem q98 (l : List qf) : (ysOf l).length = 2 * l.length:=by
  unfold ysOf;induction l with
  | nil=>rfl
  | cons r l ih=>simp only [List.flatMap_cons,List.length_append,List.length_cons,List.length_nil];omega
theorem qfy {l : List qf} {x y : Int} (h : y∈ends (covS l x)) : y∈ysOf l:=by
  obtain ⟨t,ht,h⟩:=q70.1 h
  obtain ⟨r,hr,_,rfl⟩:=qa7.1 ht
  unfold ysOf
  rw [List.mem_flatMap]
  exact ⟨r,hr,by rcases h with h | h <;> simp [h,ysp]⟩
noncomputable def Qg (l : List Int) : List Int:=(Jg l).getD []
theorem q17 {l : List Int} (hl : l.length≤1000000) : Jg l = some (Qg l)∧Y9 l (Qg l)∧(Qg l).length≤l.length:=by
  obtain ⟨t,h1,h2,h3⟩:=qk6 l hl
  unfold Qg;rw [h1];exact ⟨rfl,h2,h3⟩
noncomputable def secJ (kind : Int) (p q : List qf) (x : Int) : List qi:=Jw kind (covS p x) (covS q x)
theorem qe4 (kind : Int) {p q : List qf} (h : p.length + q.length≤100000) (x : Int) : (secJ kind p q x).length≤2 * (p.length + q.length):=by
  have h1:=q16 p x
  have h2:=q16 q x
  have:=(q4e kind (covS p x) (covS q x) (by omega) (by omega)).2.len
  unfold secJ;omega
noncomputable def mrg (kind : Int) (p q : List qf) : Mg qi qf:=Qo putR Qn (Kt (Qg (xsOf p ++ xsOf q)) (secJ kind p q))
noncomputable def mrgR (kind : Int) (p q : List qf) : List qf:=(mrg kind p q).flat putR
theorem q9m {p q : List qf} (h : p.length + q.length≤400) : Jg (xsOf p ++ xsOf q) = some (Qg (xsOf p ++ xsOf q))∧Y9 (xsOf p ++ xsOf q) (Qg (xsOf p ++ xsOf q))∧(Qg (xsOf p ++ xsOf q)).length≤2 * (p.length + q.length):=by
  have h1:=q11 p
  have h2:=q11 q
  obtain ⟨a,b,c⟩:=q17 (l:=xsOf p ++ xsOf q) (by simp;omega)
  exact ⟨a,b,by simp at c;omega⟩
theorem qca {p q : List qf} (h : p.length + q.length≤400) : Jg (ysOf p ++ ysOf q) = some (Qg (ysOf p ++ ysOf q))∧Y9 (ysOf p ++ ysOf q) (Qg (ysOf p ++ ysOf q))∧(Qg (ysOf p ++ ysOf q)).length≤2 * (p.length + q.length):=by
  have h1:=q98 p
  have h2:=q98 q
  obtain ⟨a,b,c⟩:=q17 (l:=ysOf p ++ ysOf q) (by simp;omega)
  exact ⟨a,b,by simp at c;omega⟩
theorem qd8 (kind : Int) {p q : List qf} (h : p.length + q.length≤400) (i : Nat) :
    ((Qo putR Qn ((Kt (Qg (xsOf p ++ xsOf q)) (secJ kind p q)).take i)).flat putR).length≤800 * 800:=by
  have h1:=q9t putR (s0:=Qn) (M:=800) (steps:=(Kt (Qg (xsOf p ++ xsOf q)) (secJ kind p q)).take i) (fun t ht=>by
    have:=qya (M:=2 * (p.length + q.length)) (fun x=>qe4 kind (by omega) x) t (List.mem_of_mem_take ht)
    omega)
  have h2 : ((Kt (Qg (xsOf p ++ xsOf q)) (secJ kind p q)).take i).length≤800:=by
    have:=(q9m h).2.2
    rw [List.length_take,qba];omega
  have h3 : (Qn.flat putR : List qf).length = 0:=rfl
  have h4 : ((Kt (Qg (xsOf p ++ xsOf q)) (secJ kind p q)).take i).length * 800≤800 * 800:=Nat.mul_le_mul_right _ h2
  omega
theorem qpl (l : List qf) (hl : l.length≤400) :
    (((idx [l] 0).bind fun v95=>(loop (q1x v95) (0,[])).bind fun x0=>some x0).bind fun b94=>(U4 b94).bind fun e127=>(Ql e127.length b94.length).bind fun u129=>(q22 e127).bind fun e132=>(Ql e132.2.length e127.length).bind fun u134=>(q2c e132.2.length e132.1).bind fun u137=>some ((e132.2.drop e132.1.1).take e132.1.2)) = some (Qg (xsOf l)):=by
  have e0 : idx [l] 0 = some l:=rfl
  have e1 : loop (q1x l) (0,[]) = some (xsOf l):=by
    have:=U8 l (by omega) (fun r=>[r.X0,r.X1]) [] (fun o=>o) (q1x l) (fun k hk o ho=>by
      have h8 : o.length = 2 * k:=by rw [ho,List.nil_append];have:=q11 (l.take k);rw [List.length_take,Nat.min_eq_left (by omega)] at this;exact this
      simp only [q1x,dlt hk,cond_true,Qj hk,Option.bind_some,w64s hk (by omega)]
      rw [Ku (by simp;omega)]
      rfl) (fun o=>by simp only [q1x,dnl,cond_false])
    rw [List.nil_append] at this
    exact this
  have hx:=q11 l
  obtain ⟨ys,s1,s2,s3⟩:=qk4 (xsOf l) (by omega)
  have hys : ys.length = (xsOf l).length:=s2.length_eq
  obtain ⟨w,a,c1,c2,c3,c4⟩:=qfn s3 (by omega)
  obtain ⟨_,d2,_⟩:=q17 (l:=xsOf l) (by omega)
  have huniq : a.take w = Qg (xsOf l):=by
    refine qk5 (l:=xsOf l) ⟨c4.1,fun x=>?_⟩ d2
    rw [c4.2 x];exact s2.mem_iff
  simp only [e0,Option.bind_some,e1,s1,Ql,hys,if_true,c1,c2,q2c]
  rw [if_pos (by omega)]
  simp only [Option.bind_some,List.drop_zero,huniq]
theorem qpk (l : List qf) (hl : l.length≤400) (x : Int) : loop (q3c l x) (0,[]) = some (covS l x):=by
  have:=U8 l (by omega) (fun r=>if covR x r = true then [ysp r] else []) [] (fun o=>o) (q3c l x) (fun k hk o ho=>by
    have h8 : o.length≤k:=by rw [ho,List.nil_append];have:=q16 (l.take k) x;rw [List.length_take,Nat.min_eq_left (by omega)] at this;exact this
    simp only [q3c,dlt hk,cond_true,Qj hk,Option.bind_some,w64s hk (by omega)]
    by_cases h1 : l[k].X0≤x
    · by_cases h2 : x < l[k].X1
      · simp only [h1,h2,decide_true,cond_true,Option.bind_some,covR,Bool.and_self,if_true]
        rw [Ku (by simp;omega)]
        rfl
      · simp only [h1,h2,decide_true,decide_false,cond_true,cond_false,Option.bind_some,covR,Bool.and_false,if_false,Bool.false_eq_true,List.append_nil]
    · simp only [h1,decide_false,cond_false,Option.bind_some,covR,Bool.false_and,if_false,Bool.false_eq_true,List.append_nil]) (fun o=>by simp only [q3c,dnl,cond_false])
  rw [List.nil_append] at this
  exact this
theorem qhi (l : List qf) (hl : l.length≤400) (hv : ∀ r∈l,vR r) : q4z l = some (if 400 < (mrgR 2 l []).length then ([],4) else (mrgR 2 l [],0)):=by
  unfold q4z
  rw [qpl l hl]
  simp only [Option.bind_some]
  have hcut : Qg (xsOf l ++ xsOf []) = Qg (xsOf l):=by simp [xsOf]
  obtain ⟨_,hso,hlen⟩:=q9m (p:=l) (q:=[]) (by simpa using hl)
  have hml:=fun i=>qd8 2 (p:=l) (q:=[]) (by simpa using hl) i
  rw [hcut] at hso hlen
  have hlen : (Qg (xsOf l)).length≤2 * l.length:=by simpa using hlen
  have hmain : loop (q1y (Qg (xsOf l)) l) (1,[],0,0,[]) = some ((mrg 2 l []).sec,((mrg 2 l []).done.length : Int),(mrg 2 l []).hi,mrgR 2 l []):=by
    unfold mrgR mrg
    rw [hcut] at hml ⊢
    generalize hst : Kt (Qg (xsOf l)) (secJ 2 l []) = steps at hml ⊢
    have hsl : steps.length = (Qg (xsOf l)).length - 1:=by rw [← hst];exact qba _ _
    have hfin : Qo putR Qn (steps.take steps.length) = Qo putR Qn steps:=by rw [List.take_length]
    have key:=Z9 (f:=q1y (Qg (xsOf l)) l) (fun k=>(((k + 1 : Nat) : Int),(Qo putR Qn (steps.take k)).sec,((Qo putR Qn (steps.take k)).done.length : Int),(Qo putR Qn (steps.take k)).hi,(Qo putR Qn (steps.take k)).flat putR))
      steps.length ((Qo putR Qn steps).sec,((Qo putR Qn steps).done.length : Int),(Qo putR Qn steps).hi,(Qo putR Qn steps).flat putR) (fun k hk=>by
        have hk1 : k + 1 < (Qg (xsOf l)).length:=by omega
        have hg : steps[k] = ((Qg (xsOf l))[k],(Qg (xsOf l))[k + 1],secJ 2 l [] (Qg (xsOf l))[k]):=by
          subst hst;exact qb9 hk hk1
        have i1 : idx (Qg (xsOf l)) (w64 (((k + 1 : Nat) : Int) - 1)) = some (Qg (xsOf l))[k]:=by rw [qz (by omega)];exact Ur (by omega) (by omega)
        have hcl:=q16 l (Qg (xsOf l))[k]
        have hmk : q2a (covS l (Qg (xsOf l))[k]) = some (secJ 2 l [] (Qg (xsOf l))[k],0):=by
          rw [qhj]
          unfold qa6
          rw [if_neg (by omega),if_pos (qnh hv _)]
          rfl
        have hbl:=qe4 2 (p:=l) (q:=[]) (by simp;omega) (Qg (xsOf l))[k]
        have hml':=hml k
        have hb:=qlw (Qo putR Qn (steps.take k)) (Qg (xsOf l))[k] (Qg (xsOf l))[k + 1] (secJ 2 l [] (Qg (xsOf l))[k]) (by simp at hbl;omega)
        rw [q6p putR hk,hg]
        simp only [q1y,dlt hk1,cond_true,i1,Qj hk1,Option.bind_some,show idx [l] 0 = some l from rfl,qpk l hl,hmk,hb,Bool.not_true,cond_false]
        rw [w64s hk1 (by omega)]) (by
        rw [hfin]
        by_cases h0 : (Qg (xsOf l)).length = 0
        · have : decide (((steps.length + 1 : Nat) : Int) < ((Qg (xsOf l)).length : Int)) = false:=decide_eq_false (by omega)
          simp only [q1y,this,cond_false]
        · have : decide (((steps.length + 1 : Nat) : Int) < ((Qg (xsOf l)).length : Int)) = false:=decide_eq_false (by omega)
          simp only [q1y,this,cond_false]) (Nat.zero_le _)
    exact key
  rw [hmain]
  simp only [Option.bind_some]
  by_cases h4 : 400 < (mrgR 2 l []).length
  · rw [decide_eq_true (by omega : ((mrgR 2 l []).length : Int) > 400),if_pos h4];rfl
  · rw [decide_eq_false (by omega : ¬ ((mrgR 2 l []).length : Int) > 400),if_neg h4];rfl
end Go.Sh
namespace Go.Sh
open Go Go.Am
theorem qrp {p q : List qf} (h : p.length + q.length≤400) : q7b p q = some (Qg (xsOf p ++ xsOf q)):=by
  have e1 : loop (q33 p) (0,[]) = some (xsOf p):=by
    have:=U8 p (by omega) (fun r=>[r.X0,r.X1]) [] (fun o=>o) (q33 p) (fun k hk o ho=>by
      have h8 : o.length = 2 * k:=by rw [ho,List.nil_append];have:=q11 (p.take k);rw [List.length_take,Nat.min_eq_left (by omega)] at this;exact this
      simp only [q33,dlt hk,cond_true,Qj hk,Option.bind_some,w64s hk (by omega)]
      rw [Ku (by simp;omega)]
      rfl) (fun o=>by simp only [q33,dnl,cond_false])
    rw [List.nil_append] at this
    exact this
  have e2 : loop (q34 q) (0,xsOf p) = some (xsOf p ++ xsOf q):=by
    have hp:=q11 p
    exact U8 q (by omega) (fun r=>[r.X0,r.X1]) (xsOf p) (fun o=>o) (q34 q) (fun k hk o ho=>by
      have h8 : o.length = 2 * p.length + 2 * k:=by
        rw [ho,List.length_append,hp];have:=q11 (q.take k);rw [List.length_take,Nat.min_eq_left (by omega)] at this
        unfold xsOf at this;omega
      simp only [q34,dlt hk,cond_true,Qj hk,Option.bind_some,w64s hk (by omega)]
      rw [Ku (by simp;omega)]
      rfl) (fun o=>by simp only [q34,dnl,cond_false])
  unfold q7b
  simp only [e1,e2,Option.bind_some,(q9m h).1]
theorem qrr {p q : List qf} (h : p.length + q.length≤400) : q7c p q = some (Qg (ysOf p ++ ysOf q)):=by
  have e1 : loop (q35 p) (0,[]) = some (ysOf p):=by
    have:=U8 p (by omega) (fun r=>[r.Y0,r.Y1]) [] (fun o=>o) (q35 p) (fun k hk o ho=>by
      have h8 : o.length = 2 * k:=by rw [ho,List.nil_append];have:=q98 (p.take k);rw [List.length_take,Nat.min_eq_left (by omega)] at this;exact this
      simp only [q35,dlt hk,cond_true,Qj hk,Option.bind_some,w64s hk (by omega)]
      rw [Ku (by simp;omega)]
      rfl) (fun o=>by simp only [q35,dnl,cond_false])
    rw [List.nil_append] at this
    exact this
  have e2 : loop (q36 q) (0,ysOf p) = some (ysOf p ++ ysOf q):=by
    have hp:=q98 p
    exact U8 q (by omega) (fun r=>[r.Y0,r.Y1]) (ysOf p) (fun o=>o) (q36 q) (fun k hk o ho=>by
      have h8 : o.length = 2 * p.length + 2 * k:=by
        rw [ho,List.length_append,hp];have:=q98 (q.take k);rw [List.length_take,Nat.min_eq_left (by omega)] at this
        unfold ysOf at this;omega
      simp only [q36,dlt hk,cond_true,Qj hk,Option.bind_some,w64s hk (by omega)]
      rw [Ku (by simp;omega)]
      rfl) (fun o=>by simp only [q36,dnl,cond_false])
  unfold q7c
  simp only [e1,e2,Option.bind_some,(qca h).1]
open Classical in
theorem qdo (l : List qf) (x y : Int) (hl : l.length≤1000000) : q30 l x y = some (decide (hasR l x y)):=by
  let c : qf→Bool:=fun r=>decide (r.X0≤x) && (decide (x < r.X1) && (decide (r.Y0≤y) && decide (y < r.Y1)))
  have hs : ∀ (k : Nat) (h : k < l.length),q1p l x y (k : Int) = some (if c l[k] = true then .inr (.inr true) else .inl ((k + 1 : Nat) : Int)):=by
    intro k h
    simp only [q1p,dlt h,cond_true,Qj h,Option.bind_some,w64s h hl,c]
    by_cases h1 : l[k].X0≤x <;> by_cases h2 : x < l[k].X1 <;> by_cases h3 : l[k].Y0≤y <;> by_cases h4 : y < l[k].Y1 <;> simp [h1,h2,h3,h4]
  have hd : q1p l x y (l.length : Int) = some (.inr (.inl ())):=by simp only [q1p,dnl,cond_false]
  unfold q30
  rcases Ue l c (fun _ _=>true) () (q1p l x y) hs hd with ⟨h1,h2⟩ | ⟨k,hk,hc,_,h2⟩
  · rw [h2]
    have : ¬ hasR l x y:=by
      rintro ⟨r,hr,a1,a2,a3,a4⟩
      have:=h1 r hr
      simp [c,a1,a2,a3,a4] at this
    simp [this]
  · rw [h2]
    have : hasR l x y:=by
      simp only [c,Bool.and_eq_true,decide_eq_true_eq] at hc
      exact ⟨l[k],List.getElem_mem hk,hc.1,hc.2.1,hc.2.2.1,hc.2.2.2⟩
    simp [this]
theorem qcs {kind : Int} {a b : Prop} (h : Kn kind a b) : a∨b:=by
  rcases h with ⟨_,h,_⟩ | ⟨_,h⟩ | ⟨_,_,h,_⟩
  · exact .inl h
  · exact h
  · exact .inl h
theorem qh2 {kind : Int} {a b a' b' : Prop} (h1 : a↔a') (h2 : b↔b') : Kn kind a b↔Kn kind a' b':=by
  unfold Kn;rw [h1,h2]
open Classical in
theorem qm9 (kind : Int) {p q : List qf} (h : p.length + q.length≤400) (x : Int) :
    q2u (Qg (ysOf p ++ ysOf q)) ((Qg (ysOf p ++ ysOf q)).map fun y=>decide (Kn kind (hasR p x y) (hasR q x y))) = some (secJ kind p q x):=by
  obtain ⟨_,hso,hlen⟩:=qca h
  generalize Qg (ysOf p ++ ysOf q) = ys at hso hlen ⊢
  obtain ⟨c,h1,h2⟩:=qf3 ys (ys.map fun y=>decide (Kn kind (hasR p x y) (hasR q x y))) hso.1 (by omega) (by simp)
  rw [h1]
  have cp:=q16 p x
  have cq:=q16 q x
  have hj:=(q4e kind (covS p x) (covS q x) (by omega) (by omega)).2
  have mp : ∀ z∈ends (covS p x),z∈ys:=fun z hz=>(hso.2 z).2 (List.mem_append.2 (.inl (qfy hz)))
  have mq : ∀ z∈ends (covS q x),z∈ys:=fun z hz=>(hso.2 z).2 (List.mem_append.2 (.inr (qfy hz)))
  congr 1
  refine q42 h2.can hj.can fun z=>?_
  unfold secJ
  rw [h2.pts z,hj.pts z]
  constructor
  · rintro ⟨i,hi,hi',_,hin,a1,a2⟩
    simp only [List.getElem_map,decide_eq_true_eq] at hin
    refine (qh2 ?_ ?_).2 hin
    · rw [q21 hso.1 mp hi a1 a2,Jv]
    · rw [q21 hso.1 mq hi a1 a2,Jv]
  · intro hh
    have : ∃ i,∃ (h : i + 1 < ys.length),ys[i]≤z∧z < ys[i + 1]:=by
      rcases qcs hh with h | h
      · exact q9z hso.1 mp h
      · exact q9z hso.1 mq h
    obtain ⟨i,hi,a1,a2⟩:=this
    refine ⟨i,hi,by simp;omega,by omega,?_,a1,a2⟩
    simp only [List.getElem_map,decide_eq_true_eq]
    refine (qh2 ?_ ?_).1 hh
    · rw [q21 hso.1 mp hi a1 a2,Jv]
    · rw [q21 hso.1 mq hi a1 a2,Jv]
open Classical in
theorem qp6 (kind : Int) {p q : List qf} (h : p.length + q.length≤400) (ys xs : List Int) (hy : ys.length≤1000000) (i : Nat) (hi : i < xs.length) (a : List qi × Int × Int × List qf) (ha : a.2.2.1 = i) :
    loop (q31 ys xs a p q kind) (0,[]) = some (ys.map fun y=>decide (Kn kind (hasR p xs[i] y) (hasR q xs[i] y))):=by
  have:=q2s ys (fun y=>decide (Kn kind (hasR p xs[i] y) (hasR q xs[i] y))) [] (fun o=>o) (q31 ys xs a p q kind) (fun k hk o ho=>by
    simp only [q31,dlt hk,cond_true,ha,Qj hk,Qj hi,Option.bind_some,qdo p _ _ (by omega),qdo q _ _ (by omega),qh3,w64s hk hy]
    rw [Ku (by simp at ho ⊢;omega)]
    rfl) (fun o=>by simp only [q31,dnl,cond_false])
  rw [List.nil_append] at this
  exact this
theorem qp7 (kind : Int) {p q : List qf} (h : p.length + q.length≤400) {xs : List Int} (hx : xs.length≤1000000) {i : Nat} (hi : i + 1 < xs.length) (s : Mg qi qf) (hl : (s.flat putR).length + (secJ kind p q xs[i]).length≤1000000)
    (h0 : i = 0→s.sec = []) (h1 : 0 < i→s.hi = xs[i]) :
    q1q xs (Qg (ysOf p ++ ysOf q)) p q kind (s.sec,(s.done.length : Int),(i : Int),s.flat putR) =
      some (.inl ((addM putR s xs[i] xs[i + 1] (secJ kind p q xs[i])).sec,((addM putR s xs[i] xs[i + 1] (secJ kind p q xs[i])).done.length : Int),((i + 1 : Nat) : Int),(addM putR s xs[i] xs[i + 1] (secJ kind p q xs[i])).flat putR)):=by
  have hi0 : i < xs.length:=by omega
  have hw : w64 ((i : Int) + 1) = ((i + 1 : Nat) : Int):=w64s hi0 hx
  have hy:=(qca h).2.2
  have hfl : (s.flat putR).length = s.done.length + s.sec.length:=by simp [Mg.flat]
  have hins:=qp6 kind h (Qg (ysOf p ++ ysOf q)) xs (by omega) i hi0 (s.sec,(s.done.length : Int),(i : Int),s.flat putR) rfl
  unfold q1q
  simp only [hw,dlt hi,cond_true,hins,Option.bind_some,qm9 kind h]
  generalize hc : secJ kind p q xs[i] = c at hl ⊢
  by_cases hsame : 0 < i∧c = s.sec
  · obtain ⟨hpos,hcs⟩:=hsame
    have hb : decide ((i : Int) > 0) = true:=decide_eq_true (by omega)
    have hext:=q9q (fun v : qf=>({X0:=v.X0,Y0:=v.Y0,X1:=xs[i + 1],Y1:=v.Y1} : qf)) s.done (s.sec.map (putR s.lo s.hi)) (by simp;omega) (q32 xs (s.sec,(s.done.length : Int),(i : Int),s.flat putR)) (fun k o hk ho=>by
      have h5 : (s.done ++ s.sec.map (putR s.lo s.hi)).length = (s.flat putR).length:=rfl
      simp only [q32,dlt hk,cond_true,Qj hk,Qj hi,hw,Option.bind_some,w64s hk (by omega),Int.toNat_natCast]) (fun o=>by simp only [q32,dnl,cond_false])
    have hsp : q2w c s.sec = some true:=by rw [qe0 _ _ (by omega)];simp [hcs]
    have hext : loop (q32 xs (s.sec,(s.done.length : Int),(i : Int),s.flat putR)) ((s.done.length : Int),s.flat putR) = _:=hext
    simp only [hb,cond_true,hsp,Option.bind_some,hext]
    rcases U9 putR s xs[i] xs[i + 1] c with ⟨_,_,_,h4⟩ | ⟨h3,h4⟩
    · rw [h4]
      simp only [Mg.flat,List.map_map]
      rfl
    · have hnil : c = []:=Classical.byContradiction fun hn=>h3 ⟨hn,hcs,h1 hpos⟩
      rw [h4]
      simp [Mg.flat,← hcs,hnil]
  · have hcnd : (cond (decide ((i : Int) > 0)) ((q2w c s.sec).bind fun r721=>some r721) (some false)) = some false:=by
      by_cases hpos : 0 < i
      · have hb : decide ((i : Int) > 0) = true:=decide_eq_true (by omega)
        have hne : c≠s.sec:=fun h=>hsame ⟨hpos,h⟩
        rw [hb,cond_true,qe0 _ _ (by omega)]
        simp [hne]
      · have hb : decide ((i : Int) > 0) = false:=decide_eq_false (by omega)
        rw [hb,cond_false]
    have hap:=q2s c (putR xs[i] xs[i + 1]) (s.flat putR) (fun o=>(c,((s.flat putR).length : Int),o)) (q4m c xs (s.sec,(s.done.length : Int),(i : Int),s.flat putR)) (fun k hk o ho=>by
      simp only [q4m,dlt hk,cond_true,Qj hk,Qj hi0,Qj hi,hw,Option.bind_some,w64s hk (by omega)]
      rw [Ku (by simp;omega)]
      rfl) (fun o=>by simp only [q4m,dnl,cond_false])
    have h4 : addM putR s xs[i] xs[i + 1] c = ⟨s.flat putR,c,xs[i],xs[i + 1]⟩:=by
      rcases U9 putR s xs[i] xs[i + 1] c with ⟨g1,g2,_,_⟩ | ⟨_,h4⟩
      · refine absurd ?_ hsame
        refine ⟨Nat.pos_of_ne_zero fun h=>g1 ?_,g2⟩
        rw [g2,h0 h]
      · exact h4
    rw [h4]
    simp only [hcnd,Option.bind_some,cond_false,hap]
    simp [Mg.flat]
theorem qrl (kind : Int) {p q : List qf} (h : p.length + q.length≤400) : q7a kind p q = some (mrgR kind p q):=by
  unfold q7a
  rw [qrp h,qrr h]
  simp only [Option.bind_some]
  obtain ⟨_,hso,hlen⟩:=q9m h
  have hml:=fun i=>qd8 kind h i
  unfold mrgR mrg
  generalize Qg (xsOf p ++ xsOf q) = xs at hso hlen hml ⊢
  generalize hst : Kt xs (secJ kind p q) = steps at hml ⊢
  have hsl : steps.length = xs.length - 1:=by rw [← hst];exact qba _ _
  have key:=Z9 (f:=q1q xs (Qg (ysOf p ++ ysOf q)) p q kind) (fun k=>((Qo putR Qn (steps.take k)).sec,((Qo putR Qn (steps.take k)).done.length : Int),(k : Int),(Qo putR Qn (steps.take k)).flat putR))
    steps.length ((Qo putR Qn steps).flat putR) (fun k hk=>by
      have hk1 : k + 1 < xs.length:=by omega
      have hg : steps[k] = (xs[k],xs[k + 1],secJ kind p q xs[k]):=by subst hst;exact qb9 hk hk1
      have hbl:=qe4 kind (p:=p) (q:=q) (by omega) xs[k]
      have hml':=hml k
      have:=qp7 kind h (xs:=xs) (by omega) hk1 (Qo putR Qn (steps.take k)) (by omega) (fun h0=>by subst h0;rfl) (fun hpos=>by
        obtain ⟨m,rfl⟩ : ∃ m,k = m + 1:=⟨k - 1,by omega⟩
        rw [q6p putR (by omega),qld]
        subst hst
        rw [qb9 (by omega) (by omega)])
      rw [this,q6p putR hk,hg]) (by
      rw [List.take_length]
      have hb : decide (w64 ((steps.length : Int) + 1) < (xs.length : Int)) = false:=by
        rw [qz (by omega)];exact decide_eq_false (by omega)
      unfold q1q
      simp only [hb,cond_false]) (Nat.zero_le _)
  have key : loop (q1q xs (Qg (ysOf p ++ ysOf q)) p q kind) ([],0,0,[]) = some ((Qo putR Qn steps).flat putR):=key
  rw [key];rfl
end Go.Sh
namespace Go.Sh
open Go Go.Am
noncomputable def K1 (l : List qf) : Int:=if 400 < l.length then 4 else if ∀ r∈l,vR r then (if mrgR 2 l [] = l then 0 else 8) else 8
theorem qf9 {l : List qf} (h : K1 l = 0) : l.length≤400∧(∀ r∈l,vR r)∧mrgR 2 l [] = l:=by
  unfold K1 at h
  split at h
  · omega
  · split at h
    · split at h
      · rename_i a b c;exact ⟨by omega,b,c⟩
      · omega
    · omega
theorem qse (l : List qf) (hl : l.length≤1000000) : q7q l (fun x0=>q1u x0) = some (decide (¬ ∀ r∈l,vR r)):=by
  have hs : ∀ (k : Nat) (h : k < l.length),q3g l (fun x0=>q1u x0) (k : Int) = some (if (fun r=>!decide (vR r)) l[k] = true then .inr (.inr (k : Int)) else .inl ((k + 1 : Nat) : Int)):=by
    intro k h
    simp only [q3g,dlt h,cond_true,Qj h,Option.bind_some,w64s h hl,q1u,qed]
    by_cases hv : vR l[k] <;> simp [hv]
  have hd : q3g l (fun x0=>q1u x0) (l.length : Int) = some (.inr (.inl ())):=by simp only [q3g,dnl,cond_false]
  unfold q7q qay
  rcases Ue l (fun r=>!decide (vR r)) (fun k _=>(k : Int)) () _ hs hd with ⟨h1,h2⟩ | ⟨k,hk,hc,_,h2⟩
  · rw [h2]
    have : ∀ r∈l,vR r:=fun r hr=>by simpa using h1 r hr
    simp []
    omega
  · rw [h2]
    have : ¬ ∀ r∈l,vR r:=fun h=>by simp [h _ (List.getElem_mem hk)] at hc
    simp only [Option.bind_some]
    rw [decide_eq_true this,decide_eq_true (by omega)]
theorem qdt (l : List qf) : q3a l = some (K1 l):=by
  unfold q3a K1
  by_cases h4 : 400 < l.length
  · rw [decide_eq_true (by omega : (l.length : Int) > 400),cond_true,if_pos h4]
  rw [decide_eq_false (by omega : ¬ (l.length : Int) > 400),cond_false,if_neg h4,qse l (by omega),Option.bind_some]
  by_cases hv : ∀ r∈l,vR r
  · rw [decide_eq_false (fun h=>h hv),cond_false,qhi l (by omega) hv,if_pos hv,Option.bind_some]
    by_cases hm : 400 < (mrgR 2 l []).length
    · have hne : mrgR 2 l []≠l:=fun h=>by rw [h] at hm;exact h4 hm
      rw [if_pos hm,if_neg hne];rfl
    · rw [if_neg hm]
      simp only [q46 (mrgR 2 l []) l (by omega)]
      by_cases he : mrgR 2 l [] = l <;> simp [he]
  · rw [decide_eq_true hv,cond_true,if_neg hv]
theorem q79 (l : List qf) : q4k l = some (K1 l):=by
  unfold q4k K1
  by_cases h4 : 400 < l.length
  · rw [decide_eq_true (by omega : (l.length : Int) > 400),cond_true,if_pos h4]
  rw [decide_eq_false (by omega : ¬ (l.length : Int) > 400),cond_false,if_neg h4]
  have hl : l.length≤1000000:=by omega
  have hs : ∀ (k : Nat) (h : k < l.length),q2z l (k : Int) = some (if (fun r=>!decide (vR r)) l[k] = true then .inr (.inr (8 : Int)) else .inl ((k + 1 : Nat) : Int)):=by
    intro k h
    simp only [q2z,dlt h,cond_true,Qj h,Option.bind_some,w64s h hl,qrn]
    by_cases hv : vR l[k] <;> simp [hv]
  have hd : q2z l (l.length : Int) = some (.inr (.inl ())):=by simp only [q2z,dnl,cond_false]
  rcases Ue l (fun r=>!decide (vR r)) (fun k _=>(8 : Int)) () _ hs hd with ⟨h1,h2⟩ | ⟨k,hk,hc,_,h2⟩
  · rw [h2]
    have : ∀ r∈l,vR r:=fun r hr=>by simpa using h1 r hr
    rw [if_pos this]
    have hml : (mrgR 2 l []).length≤1000000:=by
      have:=qd8 2 (p:=l) (q:=[]) (by simp;omega) (Kt (Qg (xsOf l ++ xsOf [])) (secJ 2 l [])).length
      rw [List.take_length] at this
      unfold mrgR mrg;omega
    simp only [Option.bind_some,qrl 2 (p:=l) (q:=[]) (by simp;omega),qjg _ l hml]
    by_cases he : mrgR 2 l [] = l <;> simp [he]
  · rw [h2]
    have : ¬ ∀ r∈l,vR r:=fun h=>by simp [h _ (List.getElem_mem hk)] at hc
    rw [if_neg this];rfl
def putB (a b : Int) (r : qf) : qj:={Lo:={X:=r.X0,Y:=r.Y0,Z:=a},Hi:={X:=r.X1,Y:=r.Y1,Z:=b}}
def Kp (z : Int) : Prop:=-1000000≤z∧z≤1000000
instance (z : Int) : Decidable (Kp z):=by unfold Kp;infer_instance
end Go.Sh
namespace Go.Sh
open Go Go.Am
def covB (z : Int) (b : qj) : Bool:=decide (b.Lo.Z≤z) && decide (z < b.Hi.Z)
def Yx (b : qj) : qf:={X0:=b.Lo.X,Y0:=b.Lo.Y,X1:=b.Hi.X,Y1:=b.Hi.Y}
def atB (l : List qj) (z : Int) : List qf:=l.flatMap fun b=>if covB z b = true then [Yx b] else []
theorem q6a (l : List qj) (x : Int) : (atB l x).length≤l.length:=by
  unfold atB
  induction l with
  | nil=>simp
  | cons r l ih=>
    simp only [List.flatMap_cons,List.length_append,List.length_cons]
    have : (if covB x r = true then [Yx r] else []).length≤1:=by split <;> simp
    omega
def zsOf (l : List qj) : List Int:=l.flatMap fun b=>[b.Lo.Z,b.Hi.Z]
theorem q68 (l : List qj) : (zsOf l).length = 2 * l.length:=by
  unfold zsOf;induction l with
  | nil=>rfl
  | cons r l ih=>simp only [List.flatMap_cons,List.length_append,List.length_cons,List.length_nil];omega
structure qzi (kind : Int) (p q : List qj) (z : Int) : Prop where
  n : (atB p z).length + (atB q z).length≤400
  m : (mrgR kind (atB p z) (atB q z)).length≤400
  mp : (mrgR 2 (atB p z) []).length≤400
  mq : (mrgR 2 (atB q z) []).length≤400
noncomputable def secB (kind : Int) (p q : List qj) (z : Int) : List qf:=mrgR kind (atB p z) (atB q z)
noncomputable def mrgB (kind : Int) (p q : List qj) : List qj:=(Qo putB Qn (Kt (Qg (zsOf p ++ zsOf q)) (secB kind p q))).flat putB
section
variable {σ β : Type} (put : Int→Int→σ→β)
def Alike (s t : Mg σ β) : Prop:=s = t∨(s.flat put = t.flat put∧s.sec = []∧t.sec = [])
theorem Alike.flat {s t : Mg σ β} (h : Alike put s t) : s.flat put = t.flat put:=by
  rcases h with rfl | h
  · rfl
  · exact h.1
end
section
variable {σ β : Type} [DecidableEq σ] (put : Int→Int→σ→β)
def runM (sec : Int→List σ) : Mg σ β→List Int→Mg σ β
  | s,a::b::r=>runM sec (addM put s a b (sec a)) (b::r)
  | s,_=>s
theorem qge (sec : Int→List σ) : ∀ (cuts : List Int) (s : Mg σ β),Qo put s (Kt cuts sec) = runM put sec s cuts
  | [],s=>rfl
  | [a],s=>rfl
  | a::b::r,s=>by
    have:=qge sec (b::r) (addM put s a b (sec a))
    simp only [runM,← this]
    rfl
theorem Alike.add {s t : Mg σ β} (h : Alike put s t) (a b : Int) (c : List σ) : Alike put (addM put s a b c) (addM put t a b c):=by
  rcases h with rfl | ⟨h1,h2,h3⟩
  · exact .inl rfl
  · refine .inl ?_
    rcases U9 put s a b c with ⟨g1,g2,_,_⟩ | ⟨_,g4⟩
    · exact absurd (g2.trans h2) g1
    · rcases U9 put t a b c with ⟨e1,e2,_,_⟩ | ⟨_,e4⟩
      · exact absurd (e2.trans h3) e1
      · rw [g4,e4,h1]
end
end Go.Sh
