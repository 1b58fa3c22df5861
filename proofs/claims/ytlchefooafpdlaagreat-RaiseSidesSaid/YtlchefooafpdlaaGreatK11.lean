/- Po1 Pt1 Pt2 Pt3 Pt4 Pt5 Pt6 Pt7 Qa1 Qa2 Qa3 -/
import Derived.Test.YtlchefooafpdlaaGreatK10
set_option maxHeartbeats 4000000
namespace Go.Sh
open Go Go.Am
def sg (a b : Int) : Int:=if a < b then -1 else 0
theorem Zs {a b : Int} : decide (sg a b < 0) = decide (a < b):=by
  unfold sg;by_cases h : a < b <;> simp [h]
def qO (a b : Int) : Option Int:=some (sg a b)
theorem J5 (a b : Int) : qO a b = some (sg a b):=rfl
theorem J3 (a b : Int) : Yv a b = some (decide (a < b)):=by
  unfold Yv q74
  have : (a != a) = false:=by simp
  simp []
theorem qyq : qc8 = q4m:=rfl
theorem qwt : (fun p0=>q2h p0) = (fun p0=>q3b p0):=by
  funext p0
  simp only [q2h,q3b,qyq]
  all_goals exact Qp
theorem qwu  : ∀ p0,q2h p0 = q3b p0:=fun p0=>(congrFun qwt p0)
theorem qws : (fun p0=>Uk p0) = (fun p0=>q13 p0):=by
  funext p0
  simp only [Uk,q13,qwu]
  all_goals exact Qp
theorem qlq  : ∀ p0,Uk p0 = q13 p0:=fun p0=>(congrFun qws p0)
theorem qxd : (fun p1=>q5x p1) = (fun p1=>Jz p1 qO):=by
  funext p1 a443
  simp only [q5x,Jz,J3,J5,Option.bind_some,Zs]
  all_goals exact Qp
theorem qxe  : ∀ p1,q5x p1 = Jz p1 qO:=fun p1=>(congrFun qxd p1)
theorem qxb : (fun p2 p1=>q5w p2 p1) = (fun p2 p1=>q17 p2 p1 qO):=by
  funext p2 p1 a270
  simp only [q5w,q17,qxe]
  all_goals exact Qp
theorem qxc  : ∀ p2 p1,q5w p2 p1 = q17 p2 p1 qO:=fun p2 p1=>(congrFun (congrFun qxb p2) p1)
theorem qx9 : (fun p0 p1 p2=>q5v p0 p1 p2) = (fun p0 p1 p2=>q26 qO p0 p1 p2):=by
  funext p0 p1 p2
  simp only [q5v,q26,qxc]
  all_goals exact Qp
theorem qxa  : ∀ p0 p1 p2,q5v p0 p1 p2 = q26 qO p0 p1 p2:=fun p0 p1 p2=>(congrFun (congrFun (congrFun qx9 p0) p1) p2)
theorem qyo : (fun p2 p3=>q6j p2 p3) = (fun p2 p3=>U2 p2 p3 qO):=by
  funext p2 p3 a193
  simp only [q6j,U2,J3,J5,Option.bind_some,Zs]
  all_goals exact Qp
theorem qyp  : ∀ p2 p3,q6j p2 p3 = U2 p2 p3 qO:=fun p2 p3=>(congrFun (congrFun qyo p2) p3)
theorem qyn : (fun p0 p1 p2 p3=>q3y p0 p1 p2 p3) = (fun p0 p1 p2 p3=>Uj qO p0 p1 p2 p3):=by
  funext p0 p1 p2 p3
  simp only [q3y,Uj,qyp]
  all_goals exact Qp
theorem qls  : ∀ p0 p1 p2 p3,q3y p0 p1 p2 p3 = Uj qO p0 p1 p2 p3:=fun p0 p1 p2 p3=>(congrFun (congrFun (congrFun (congrFun qyn p0) p1) p2) p3)
theorem qx5 : (fun p2 p1=>q5t p2 p1) = (fun p2 p1=>q15 qO p2 p1):=by
  funext p2 p1 a123
  simp only [q5t,q15,qls]
  all_goals exact Qp
theorem qx6  : ∀ p2 p1,q5t p2 p1 = q15 qO p2 p1:=fun p2 p1=>(congrFun (congrFun qx5 p2) p1)
theorem qx7 : (fun p1=>q5u p1) = (fun p1=>q16 p1 qO):=by
  funext p1 a191
  simp only [q5u,q16,qls]
  all_goals exact Qp
theorem qx8  : ∀ p1,q5u p1 = q16 p1 qO:=fun p1=>(congrFun qx7 p1)
theorem qx3 : (fun p0 p1 p2=>q5s p0 p1 p2) = (fun p0 p1 p2=>q25 qO p0 p1 p2):=by
  funext p0 p1 p2
  simp only [q5s,q25,qx6,qx8]
  all_goals exact Qp
theorem qx4  : ∀ p0 p1 p2,q5s p0 p1 p2 = q25 qO p0 p1 p2:=fun p0 p1 p2=>(congrFun (congrFun (congrFun qx3 p0) p1) p2)
theorem qxi : (fun p0=>q1k p0) = (fun p0=>q27 p0):=by
  funext p0
  simp only [q1k,q27,qlq]
  all_goals exact Qp
theorem qxj  : ∀ p0,q1k p0 = q27 p0:=fun p0=>(congrFun qxi p0)
theorem qyr : (fun p0=>q1l p0) = (fun p0=>q2b p0):=by
  funext p0
  simp only [q1l,q2b]
  all_goals exact Qp
theorem qys  : ∀ p0,q1l p0 = q2b p0:=fun p0=>(congrFun qyr p0)
theorem qwz : (fun p1 p2 r101=>q5q p1 p2 r101) = (fun p1 p2 r101=>Ua p1 p2 r101):=by
  funext p1 p2 r101 a153
  simp only [q5q,Ua,qys]
  all_goals exact Qp
theorem qx0  : ∀ p1 p2 r101,q5q p1 p2 r101 = Ua p1 p2 r101:=fun p1 p2 r101=>(congrFun (congrFun (congrFun qwz p1) p2) r101)
theorem qwx : (fun p0 p1 p2=>q5p p0 p1 p2) = (fun p0 p1 p2=>q14 qO p0 p1 p2):=by
  funext p0 p1 p2
  simp only [q5p,q14,qxj,qx0]
  all_goals exact Qp
theorem qwy  : ∀ p0 p1 p2,q5p p0 p1 p2 = q14 qO p0 p1 p2:=fun p0 p1 p2=>(congrFun (congrFun (congrFun qwx p0) p1) p2)
theorem qxk : (fun p0 p1 p2 p3=>q2t p0 p1 p2 p3) = (fun p0 p1 p2 p3=>Uc qO p0 p1 p2 p3):=by
  funext p0 p1 p2 p3
  simp only [q2t,Uc,J3,J5,Option.bind_some,Zs]
  all_goals exact Qp
theorem qxl  : ∀ p0 p1 p2 p3,q2t p0 p1 p2 p3 = Uc qO p0 p1 p2 p3:=fun p0 p1 p2 p3=>(congrFun (congrFun (congrFun (congrFun qxk p0) p1) p2) p3)
theorem qxf : (fun p0 p1 p2 p3 p4=>q3s p0 p1 p2 p3 p4) = (fun p0 p1 p2 p3 p4=>Ub qO p0 p1 p2 p3 p4):=by
  funext p0 p1 p2 p3 p4
  simp only [q3s,Ub,qxl]
  all_goals exact Qp
theorem qlr  : ∀ p0 p1 p2 p3 p4,q3s p0 p1 p2 p3 p4 = Ub qO p0 p1 p2 p3 p4:=fun p0 p1 p2 p3 p4=>(congrFun (congrFun (congrFun (congrFun (congrFun qxf p0) p1) p2) p3) p4)
theorem qxg : (fun p0 p1 p2=>q2s p0 p1 p2) = (fun p0 p1 p2=>U0 qO p0 p1 p2):=by
  funext p0 p1 p2
  simp only [q2s,U0,qlr]
  all_goals exact Qp
theorem qxh  : ∀ p0 p1 p2,q2s p0 p1 p2 = U0 qO p0 p1 p2:=fun p0 p1 p2=>(congrFun (congrFun (congrFun qxg p0) p1) p2)
theorem qx1 : (fun p0 p1 p2=>q5r p0 p1 p2) = (fun p0 p1 p2=>q24 p0 p1 p2 qO):=by
  funext p0 p1 p2
  simp only [q5r,q24,qlr,qxh]
  all_goals exact Qp
theorem qx2  : ∀ p0 p1 p2,q5r p0 p1 p2 = q24 p0 p1 p2 qO:=fun p0 p1 p2=>(congrFun (congrFun (congrFun qx1 p0) p1) p2)
theorem qym : q99 = q2a:=by
  funext a119
  simp only [q99,q2a]
  all_goals exact Qp
theorem qyk : (fun p0 p1 p2=>q6h p0 p1 p2) = (fun p0 p1 p2=>q1c qO p0 p1 p2):=by
  funext p0 p1 p2
  simp only [q6h,q1c,qym]
  all_goals exact Qp
theorem qyl  : ∀ p0 p1 p2,q6h p0 p1 p2 = q1c qO p0 p1 p2:=fun p0 p1 p2=>(congrFun (congrFun (congrFun qyk p0) p1) p2)
theorem qxq : (fun p2 a432=>q61 p2 a432) = (fun p2 a432=>Ud p2 a432 qO):=by
  funext p2 a432 a667
  simp only [q61,Ud,J3,J5,Option.bind_some,Zs]
  all_goals exact Qp
theorem qxr  : ∀ p2 a432,q61 p2 a432 = Ud p2 a432 qO:=fun p2 a432=>(congrFun (congrFun qxq p2) a432)
theorem qxs : q8w = Ue qO:=by
  funext a822
  simp only [q8w,Ue,J3,J5,Option.bind_some,Zs]
  all_goals exact Qp
theorem qxt : (fun p2 b670=>q62 p2 b670) = (fun p2 b670=>Uf p2 qO b670):=by
  funext p2 b670 a912
  simp only [q62,Uf,J3,J5,Option.bind_some,Zs]
  all_goals exact Qp
theorem qxu  : ∀ p2 b670,q62 p2 b670 = Uf p2 qO b670:=fun p2 b670=>(congrFun (congrFun qxt p2) b670)
theorem qxo : (fun p2 p1=>q3v p2 p1) = (fun p2 p1=>Zo p2 qO p1):=by
  funext p2 p1 a432
  have mm : @q3v.match_1.{1} = @Zo.match_1.{1} Int:=by funext motive m f g;cases m <;> rfl
  unfold q3v Zo;rw [mm]
  simp only [qxr,qxs,qxu]
  all_goals repeat' first | with_reducible rfl | (congr 1) | funext _
  done
theorem qxp  : ∀ p2 p1,q3v p2 p1 = Zo p2 qO p1:=fun p2 p1=>(congrFun (congrFun qxo p2) p1)
theorem qxm : (fun p0 p1 p2=>q3u p0 p1 p2) = (fun p0 p1 p2=>U1 qO p0 p1 p2):=by
  funext p0 p1 p2
  have mm : @q3u.match_1.{1} = @U1.match_1.{1} Int:=by funext motive m f g;cases m <;> rfl
  unfold q3u U1;rw [mm]
  simp only [qxp]
  all_goals repeat' first | with_reducible rfl | (congr 1) | funext _
  done
theorem qxn  : ∀ p0 p1 p2,q3u p0 p1 p2 = U1 qO p0 p1 p2:=fun p0 p1 p2=>(congrFun (congrFun (congrFun qxm p0) p1) p2)
theorem qy0 : (fun a304 p1=>q65 a304 p1) = (fun a304 p1=>Ug a304 p1 qO):=by
  funext a304 p1 a360
  simp only [q65,Ug,J3,J5,Option.bind_some,Zs]
  all_goals exact Qp
theorem qy1  : ∀ a304 p1,q65 a304 p1 = Ug a304 p1 qO:=fun a304 p1=>(congrFun (congrFun qy0 a304) p1)
theorem qy2 : (fun b363 a304 p1=>q66 b363 a304 p1) = (fun b363 a304 p1=>Uh b363 a304 p1 qO):=by
  funext b363 a304 p1 a439
  simp only [q66,Uh,J3,J5,Option.bind_some,Zs]
  all_goals exact Qp
theorem qy3  : ∀ b363 a304 p1,q66 b363 a304 p1 = Uh b363 a304 p1 qO:=fun b363 a304 p1=>(congrFun (congrFun (congrFun qy2 b363) a304) p1)
theorem qxy : (fun p1=>q64 p1) = (fun p1=>q1a p1 qO):=by
  funext p1 a304
  simp only [q64,q1a,qy1,qy3]
  all_goals exact Qp
theorem qxz  : ∀ p1,q64 p1 = q1a p1 qO:=fun p1=>(congrFun qxy p1)
theorem qxw : (fun p0 p1 p2 p3=>q63 p0 p1 p2 p3) = (fun p0 p1 p2 p3=>q19 qO p0 p1 p2 p3):=by
  funext p0 p1 p2 p3
  simp only [q63,q19,qxz]
  all_goals exact Qp
theorem qxx  : ∀ p0 p1 p2 p3,q63 p0 p1 p2 p3 = q19 qO p0 p1 p2 p3:=fun p0 p1 p2 p3=>(congrFun (congrFun (congrFun (congrFun qxw p0) p1) p2) p3)
theorem qy5 : (fun p2 p0 p1 v101 p3 v103=>q68 p2 p0 p1 v101 p3 v103) = (fun p2 p0 p1 v101 p3 v103=>q28 p2 p0 p1 v101 p3 v103 qO):=by
  funext p2 p0 p1 v101 p3 v103 a159
  simp only [q68,q28,J3,J5,Option.bind_some,Zs]
  all_goals exact Qp
theorem qy6  : ∀ p2 p0 p1 v101 p3 v103,q68 p2 p0 p1 v101 p3 v103 = q28 p2 p0 p1 v101 p3 v103 qO:=fun p2 p0 p1 v101 p3 v103=>(congrFun (congrFun (congrFun (congrFun (congrFun (congrFun qy5 p2) p0) p1) v101) p3) v103)
theorem qy7 : (fun b162 p0 p1 v101 p3 v103=>q69 b162 p0 p1 v101 p3 v103) = (fun b162 p0 p1 v101 p3 v103=>q29 b162 p0 p1 v101 p3 v103 qO):=by
  funext b162 p0 p1 v101 p3 v103 a239
  simp only [q69,q29,J3,J5,Option.bind_some,Zs]
  all_goals exact Qp
theorem qy8  : ∀ b162 p0 p1 v101 p3 v103,q69 b162 p0 p1 v101 p3 v103 = q29 b162 p0 p1 v101 p3 v103 qO:=fun b162 p0 p1 v101 p3 v103=>(congrFun (congrFun (congrFun (congrFun (congrFun (congrFun qy7 b162) p0) p1) v101) p3) v103)
theorem qyb : (fun a488 p1=>q6b a488 p1) = (fun a488 p1=>J0 a488 p1 qO):=by
  funext a488 p1 a542
  simp only [q6b,J0,J3,J5,Option.bind_some,Zs]
  all_goals exact Qp
theorem qyc  : ∀ a488 p1,q6b a488 p1 = J0 a488 p1 qO:=fun a488 p1=>(congrFun (congrFun qyb a488) p1)
theorem qyd : (fun b545 a488 p1=>q6c b545 a488 p1) = (fun b545 a488 p1=>J1 b545 a488 p1 qO):=by
  funext b545 a488 p1 a622
  simp only [q6c,J1,J3,J5,Option.bind_some,Zs]
  all_goals exact Qp
theorem qye  : ∀ b545 a488 p1,q6c b545 a488 p1 = J1 b545 a488 p1 qO:=fun b545 a488 p1=>(congrFun (congrFun (congrFun qyd b545) a488) p1)
theorem qy9 : (fun p1=>q6a p1) = (fun p1=>q1b p1 qO):=by
  funext p1 a488
  simp only [q6a,q1b,qyc,qye]
  all_goals exact Qp
theorem qya  : ∀ p1,q6a p1 = q1b p1 qO:=fun p1=>(congrFun qy9 p1)
theorem qxv : (fun p0 p1 p2 p3=>q67 p0 p1 p2 p3) = (fun p0 p1 p2 p3=>q18 qO p0 p1 p2 p3):=by
  funext p0 p1 p2 p3
  simp only [q67,q18,qy6,qy8,qya]
  all_goals exact Qp
theorem qy4  : ∀ p0 p1 p2 p3,q67 p0 p1 p2 p3 = q18 qO p0 p1 p2 p3:=fun p0 p1 p2 p3=>(congrFun (congrFun (congrFun (congrFun qxv p0) p1) p2) p3)
theorem qyg : (fun rec=>q3w rec) = (fun rec=>Zd qO rec):=by
  funext rec a305
  have mm : @q3w.match_1.{1} = @Zd.match_1.{1} Int:=by funext motive m f g;cases m <;> rfl
  unfold q3w Zd;rw [mm]
  simp only [qxa,qx4,qwy,qx2,qyl,qxn,qxx,qy4,J3,J5,Option.bind_some,Zs]
  all_goals repeat' first | with_reducible rfl | (congr 1) | funext _
  done
theorem qyh  : ∀ rec,q3w rec = Zd qO rec:=fun rec=>(congrFun qyg rec)
theorem qyi : (fun rec p0 p1 p2 p3=>q3x rec p0 p1 p2 p3) = (fun rec p0 p1 p2 p3=>Ui rec qO p0 p1 p2 p3):=by
  funext rec p0 p1 p2 p3
  simp only [q3x,Ui,qyh]
  all_goals exact Qp
theorem qyj  : ∀ rec p0 p1 p2 p3,q3x rec p0 p1 p2 p3 = Ui rec qO p0 p1 p2 p3:=fun rec p0 p1 p2 p3=>(congrFun (congrFun (congrFun (congrFun (congrFun qyi rec) p0) p1) p2) p3)
theorem qyf : ∀ N,q6g N = Yz N qO:=by
  intro N
  induction N with
  | zero=>rfl
  | succ N ih=>
    funext a b c d
    show q3x (q6g N) a b c d = Ui (Yz N qO) qO a b c d
    rw [ih,qyj]
theorem qwv : (fun p0=>Jr p0) = (fun p0=>q23 qO p0):=by
  funext p0
  simp only [Jr,q23,qlq,qyf]
  all_goals exact Qp
theorem qww  : ∀ p0,Jr p0 = q23 qO p0:=fun p0=>(congrFun qwv p0)
end Go.Sh
namespace Go.Sh
open Go Go.Am
theorem Zp {α β : Type} {f : α→Option (α ⊕ β)} (st : Nat→α) (n : Nat) (b : β) (hs : ∀ k,k < n→f (st k) = some (.inl (st (k + 1)))) (hd : f (st n) = some (.inr b)) : ∀ {k : Nat},k≤n→loop f (st k) = some b:=by
  have key : ∀ m k,n - k = m→k≤n→loop f (st k) = some b:=by
    intro m
    induction m with
    | zero => intro k hm hk; obtain rfl : k = n := by omega
              exact K8 hd
    | succ m ih=>intro k hm hk;rw [Qv (hs k q7)];exact ih (k + 1) q7 q7
  intro k hk
  exact key _ k rfl hk
theorem w64s {k : Nat} {n : Nat} (h : k < n) (hn : n≤1000000) : w64 ((k : Int) + 1) = ((k + 1 : Nat) : Int):=by rw [Q0 q7];omega
theorem dlt {k n : Nat} (h : k < n) : decide ((k : Int) < (n : Int)) = true:=decide_eq_true q7
theorem dnl {n : Nat} : decide ((n : Int) < (n : Int)) = false:=decide_eq_false q7
theorem q47 {α β γ : Type} (src : List α) (hl : src.length≤1000000) (h : α→List γ) (out : List γ) (fin : List γ→β) (f : Int × List γ→Option ((Int × List γ) ⊕ β))
    (hs : ∀ (k : Nat) (hk : k < src.length) (o : List γ),o = out ++ (src.take k).flatMap h→f ((k : Int),o) = some (.inl (((k + 1 : Nat) : Int),o ++ h src[k])))
    (hd : ∀ o,f ((src.length : Int),o) = some (.inr (fin o))) : loop f (0,out) = some (fin (out ++ src.flatMap h)):=by
  have e : ∀ k (hk : k < src.length),(src.take (k + 1)).flatMap h = (src.take k).flatMap h ++ h src[k]:=fun k hk=>by
    rw [List.take_succ_eq_append_getElem hk,List.flatMap_append,List.flatMap_cons,List.flatMap_nil,List.append_nil]
  have:=Zp (f:=f) (fun k=>((k : Int),out ++ (src.take k).flatMap h)) src.length (fin (out ++ src.flatMap h)) (fun k hk=>by
    rw [hs k hk _ rfl,e k hk,List.append_assoc]) (by simp only [List.take_length];exact hd _) (Nat.zero_le _)
  simpa using this
theorem qax {α β γ : Type} (src : List α) (h : α→γ) (out : List γ) (fin : List γ→β) (f : Int × List γ→Option ((Int × List γ) ⊕ β))
    (hs : ∀ (k : Nat) (hk : k < src.length) (o : List γ),o.length = out.length + k→f ((k : Int),o) = some (.inl (((k + 1 : Nat) : Int),o ++ [h src[k]])))
    (hd : ∀ o,f ((src.length : Int),o) = some (.inr (fin o))) : loop f (0,out) = some (fin (out ++ src.map h)):=by
  have e : ∀ k (hk : k < src.length),(src.take (k + 1)).map h = (src.take k).map h ++ [h src[k]]:=fun k hk=>by
    rw [List.take_succ_eq_append_getElem hk,List.map_append,List.map_cons,List.map_nil]
  have:=Zp (f:=f) (fun k=>((k : Int),out ++ (src.take k).map h)) src.length (fin (out ++ src.map h)) (fun k hk=>by
    rw [hs k hk _ (by simp;omega),e k hk,List.append_assoc]) (by simp only [List.take_length];exact hd _) (Nat.zero_le _)
  simpa using this
theorem qdh {γ : Type} (g : γ→γ) (a b : List γ) (hl : (a ++ b).length≤1000000) (f : Int × List γ→Option ((Int × List γ) ⊕ (List γ)))
    (hs : ∀ (k : Nat) (o : List γ) (hk : k < o.length),o.length = (a ++ b).length→f ((k : Int),o) = some (.inl (((k + 1 : Nat) : Int),o.set k (g o[k]))))
    (hd : ∀ o : List γ,f ((o.length : Int),o) = some (.inr o)) : loop f ((a.length : Int),a ++ b) = some (a ++ b.map g):=by
  have hl' : a.length + b.length≤1000000:=by simpa using hl
  have key:=Zp (f:=f) (fun k=>(((a.length + k : Nat) : Int),a ++ ((b.take k).map g ++ b.drop k))) b.length (a ++ b.map g) (fun k hk=>by
    have hlen : (a ++ ((b.take k).map g ++ b.drop k)).length = (a ++ b).length:=by simp;omega
    have hk' : a.length + k < (a ++ ((b.take k).map g ++ b.drop k)).length:=by rw [hlen];simp;omega
    rw [hs (a.length + k) _ hk' hlen]
    have hm : ((b.take k).map g).length = k:=by simp;omega
    have e : (a ++ ((b.take k).map g ++ b.drop k))[a.length + k]'hk' = b[k]:=by
      rw [List.getElem_append_right q7]
      rw [List.getElem_append_right (by rw [hm];omega)]
      simp [List.length_take,Nat.min_eq_left (Nat.le_of_lt hk)]
    rw [e]
    congr 4
    rw [List.set_append,if_neg q7,List.set_append,if_neg (by rw [hm];omega),hm]
    have z : a.length + k - a.length - k = 0:=by omega
    rw [z,List.take_succ_eq_append_getElem hk,List.drop_eq_getElem_cons hk,List.set_cons_zero,List.map_append,List.map_cons,List.map_nil,List.append_assoc]
    rfl) (by
    simp only [List.take_length,List.drop_length,List.append_nil]
    have:=hd (a ++ b.map g)
    simpa using this) (Nat.zero_le _)
  simpa using key
theorem q7g {α γ υ : Type} (l : List α) (c : α→Bool) (res : (k : Nat)→k < l.length→γ) (u : υ) (f : Int→Option (Int ⊕ (υ ⊕ γ)))
    (hs : ∀ (k : Nat) (h : k < l.length),f (k : Int) = some (if c l[k] = true then .inr (.inr (res k h)) else .inl ((k + 1 : Nat) : Int))) (hd : f (l.length : Int) = some (.inr (.inl u))) :
    ((∀ v∈l,c v = false)∧loop f 0 = some (.inl u))∨∃ k,∃ h : k < l.length,c l[k] = true∧(∀ j (hj : j < k),c (l[j]'(q7)) = false)∧loop f 0 = some (.inr (res k h)):=by
  by_cases hh : ∀ v∈l,c v = false
  · refine .inl ⟨hh,?_⟩
    exact Zp (f:=f) (fun k=>(k : Int)) l.length _ (fun k hk=>by rw [hs k hk,hh _ (List.getElem_mem hk)];rfl) hd (Nat.zero_le _)
  · refine .inr ?_
    have : ∃ k,∃ h : k < l.length,c l[k] = true:=by
      refine Classical.byContradiction fun hn=>hh fun v hv=>?_
      obtain ⟨k,hk,rfl⟩:=List.getElem_of_mem hv
      cases hc : c l[k]
      · rfl
      · exact absurd ⟨k,hk,hc⟩ hn
    have h2 : ∃ k,(∃ h : k < l.length,c l[k] = true)∧∀ j,j < k→¬ ∃ h : j < l.length,c l[j] = true:=by
      obtain ⟨k,hk⟩:=this
      induction k using Nat.strongRecOn with
      | _ k ih=>
        by_cases hj : ∃ j,j < k∧∃ h : j < l.length,c l[j] = true
        · obtain ⟨j,h1,h2⟩:=hj;exact ih j h1 h2
        · exact ⟨k,hk,fun j h1 h2=>hj ⟨j,h1,h2⟩⟩
    obtain ⟨k,⟨hk,hc⟩,hmin⟩:=h2
    have hmin' : ∀ j (hj : j < k),c (l[j]'(q7)) = false:=fun j hj=>by
      cases h : c (l[j]'(q7))
      · rfl
      · exact absurd ⟨q7,h⟩ (hmin j hj)
    refine ⟨k,hk,hc,hmin',?_⟩
    exact Zp (f:=f) (fun k=>(k : Int)) k _ (fun j hj=>by rw [hs j q7,hmin' j hj];rfl) (by rw [hs k hk,if_pos hc]) (Nat.zero_le _)
theorem qm1 : ∀ {l a b : List Int},Yu l a→Yu l b→a = b:=by
  have key : ∀ (a b : List Int),a.Pairwise (· < ·)→b.Pairwise (· < ·)→(∀ x,x∈a↔x∈b)→a = b:=by
    intro a
    induction a with
    | nil=>intro b _ _ h;cases b with
      | nil=>rfl
      | cons y b=>exact absurd ((h y).2 qf) qf
    | cons x a ih=>
      intro b ha hb h
      cases b with
      | nil=>exact absurd ((h x).1 qf) qf
      | cons y b=>
        rw [List.pairwise_cons] at ha hb
        have hxy : x = y:=by
          rcases List.mem_cons.1 ((h x).1 qf) with h1 | h1
          · exact h1
          · rcases List.mem_cons.1 ((h y).2 qf) with h2 | h2
            · exact h2.symm
            · have:=hb.1 _ h1;have:=ha.1 _ h2;omega
        subst hxy
        rw [ih b ha.2 hb.2 fun z=>?_]
        constructor
        · intro hz
          rcases List.mem_cons.1 ((h z).1 (by simp [hz])) with h1 | h1
          · have:=ha.1 _ hz;omega
          · exact h1
        · intro hz
          rcases List.mem_cons.1 ((h z).2 (by simp [hz])) with h1 | h1
          · have:=hb.1 _ hz;omega
          · exact h1
  intro l a b ha hb
  exact key a b ha.1 hb.1 fun x=>(ha.2 x).trans (hb.2 x).symm
def ltI (a b : Int) : Bool:=decide (a < b)
theorem swoI : Sort.SWO ltI where
  irrefl:=by intro x;simp [ltI]
  trans:=by intro x y z;simp only [ltI,decide_eq_true_eq];omega
  ntrans:=by intro x y z;simp only [ltI,decide_eq_false_iff_not];omega
theorem cmpI : Kk qO ltI (fun _=>True):=by
  intro x y _ _
  refine ⟨sg x y,rfl,?_⟩
  rw [Zs];rfl
theorem qm0 (l : List Int) (hl : l.length≤1000000) : ∃ ys,Jr l = some ys∧ys.Perm l∧ys.Pairwise (·≤·):=by
  obtain ⟨ys,h1,h2,h3⟩:=qlz cmpI swoI l hl (fun _ _=>trivial)
  refine ⟨ys,by rw [qww];exact h1,h2,h3.imp ?_⟩
  intro a b h
  simp only [ltI,decide_eq_false_iff_not] at h
  omega
end Go.Sh
namespace Go.Sh
open Go Go.Am
structure CInv (p : List Int) (k k2 i : Nat) (a : List Int) : Prop where
  len : a.length = p.length
  hi : i≤k + k2 - 1
  same : ∀ j (h : j < p.length),k + k2 - 1≤j→a[j]? = some p[j]
  so : Yu (p.take (k + k2)) (a.take i)
theorem qp0 {p : List Int} (hp : p.Pairwise (·≤·)) (hl : p.length≤1000000) {k k2 i : Nat} {a : List Int} (hk : 0 < k) (h2 : 0 < k2) (hn : k + k2 < p.length) (h : CInv p k k2 i a) :
    ∃ (i' : Nat) (a' : List Int),q1j ((i : Int),(k,p.length - k),(k2 : Int),a) = some (.inl ((i' : Int),(k,p.length - k),((k2 + 1 : Nat) : Int),a'))∧CInv p k (k2 + 1) i' a':=by
  obtain ⟨h1,h3,h4,h5,h6⟩:=h
  have hb : decide ((k2 : Int) < ((p.length - k : Nat) : Int)) = true:=dlt q7
  have r1 : idxW a (k,p.length - k) (k2 : Int) = some (p[k + k2]):=by
    unfold idxW;rw [if_pos ⟨q7,q7⟩]
    simp only [Int.toNat_natCast]
    exact h4 (k + k2) hn q7
  have r2 : idxW a (k,p.length - k) (w64 ((k2 : Int) - 1)) = some (p[k + k2 - 1]):=by
    rw [Q0 q7]
    have e : (k2 : Int) - 1 = ((k2 - 1 : Nat) : Int):=by omega
    rw [e];unfold idxW;rw [if_pos ⟨q7,q7⟩]
    simp only [Int.toNat_natCast]
    have:=h4 (k + k2 - 1) q7 q7
    rw [show k + (k2 - 1) = k + k2 - 1 by omega];exact this
  have hle : p[k + k2 - 1]≤p[k + k2]:=List.pairwise_iff_getElem.1 hp _ _ q7 hn q7
  have hmem : p[k + k2 - 1]∈p.take (k + k2):=by
    rw [List.mem_take_iff_getElem];exact ⟨k + k2 - 1,q7,rfl⟩
  have htk : p.take (k + (k2 + 1)) = p.take (k + k2) ++ [p[k + k2]]:=by rw [← Nat.add_assoc,List.take_succ_eq_append_getElem hn]
  have hw : w64 ((k2 : Int) + 1) = ((k2 + 1 : Nat) : Int):=w64s (n:=p.length) q7 hl
  by_cases he : p[k + k2] = p[k + k2 - 1]
  · refine ⟨i,a,?_,h1,q7,fun j hj hge=>h4 j hj q7,?_⟩
    · have hne : (p[k + k2] != p[k + k2 - 1]) = false:=by rw [he];simp
      simp only [q1j,hb,cond_true,r1,r2,Option.bind_some,hne,cond_false,hw]
    · rw [htk]
      refine ⟨h5,fun x=>?_⟩
      rw [h6 x]
      constructor
      · intro hx;exact List.mem_append.2 (.inl hx)
      · intro hx
        rcases List.mem_append.1 hx with h | h
        · exact h
        · simp only [List.mem_singleton] at h;rw [h,he];exact hmem
  · have hne : (p[k + k2] != p[k + k2 - 1]) = true:=by simpa using he
    have hia : i < a.length:=by omega
    have r3 : idx a (i : Int) = some a[i]:=K1 hia
    have hw' : w64 ((i : Int) + 1) = ((i + 1 : Nat) : Int):=w64s (n:=p.length) q7 hl
    refine ⟨i + 1,a.set i p[k + k2],?_,by simpa using h1,q7,fun j hj hge=>?_,?_⟩
    · simp only [q1j,hb,cond_true,r1,r2,Option.bind_some,hne,r3,hw,hw',Int.toNat_natCast]
    · rw [List.getElem?_set_ne q7];exact h4 j hj q7
    · have e : (a.set i p[k + k2]).take (i + 1) = a.take i ++ [p[k + k2]]:=by
        rw [List.take_succ_eq_append_getElem (by simpa using hia)]
        simp [List.take_set_of_le]
      rw [e,htk]
      refine ⟨?_,fun x=>?_⟩
      · rw [List.pairwise_append]
        refine ⟨h5,qf,fun x hx y hy=>?_⟩
        simp only [List.mem_singleton] at hy;subst hy
        have hx':=(h6 x).1 hx
        rw [List.mem_take_iff_getElem] at hx'
        obtain ⟨j,hj,rfl⟩:=hx'
        have : p[j]≤p[k + k2 - 1]:=by
          by_cases hjj : j = k + k2 - 1
          · subst hjj;exact Int.le_refl _
          · exact List.pairwise_iff_getElem.1 hp _ _ q7 q7 q7
        omega
      · rw [List.mem_append,List.mem_append,h6 x]
theorem qoz {p : List Int} (hp : p.Pairwise (·≤·)) (hl : p.length≤1000000) {k : Nat} (hk : 0 < k) (hkn : k < p.length) (h0 : Yu (p.take (k + 1)) (p.take k)) :
    ∃ i : Nat,∃ a : List Int,loop q1j ((k : Int),(k,p.length - k),1,p) = some ((i : Int),a)∧a.length = p.length∧i≤p.length∧Yu p (a.take i):=by
  have h:=J4 (f:=q1j) (mk:=fun k2 (c : Nat × List Int)=>((c.1 : Int),(k,p.length - k),((k2 : Nat) : Int),c.2)) (p.length - k) (fun k2 c=>0 < k2∧CInv p k k2 c.1 c.2)
    (fun b=>∃ i : Nat,∃ a : List Int,b = ((i : Int),a)∧a.length = p.length∧i≤p.length∧Yu p (a.take i))
    (fun k2 c hk2 hI=>by
      obtain ⟨i',a',e1,e2⟩:=qp0 hp hl hk hI.1 q7 hI.2
      exact .inl ⟨(i',a'),e1,q7,e2⟩)
    (fun c hI=>by
      obtain ⟨hpos,h1,h3,h4,h5⟩:=hI
      refine ⟨((c.1 : Int),c.2),?_,c.1,c.2,rfl,h1,q7,?_⟩
      · simp only [q1j,dnl,cond_false]
      · rwa [List.take_of_length_le q7] at h5)
    (k0:=1) (c0:=(k,p)) q7 ⟨q7,rfl,qf,fun j hj _=>by simp [hj],h0⟩
  obtain ⟨b,hb,i,a,rfl,h2⟩:=h
  exact ⟨i,a,hb,h2⟩
theorem qh9 {p : List Int} (hp : p.Pairwise (·≤·)) (hl : p.length≤1000000) :
    ∃ w a,Uq p = some ((0,w),a)∧a.length = p.length∧w≤p.length∧Yu p (a.take w):=by
  unfold Uq
  by_cases hs : p.length < 2
  · rw [decide_eq_true (by omega : (p.length : Int) < 2),cond_true]
    refine ⟨p.length,p,rfl,rfl,Nat.le_refl _,?_⟩
    rw [List.take_length]
    refine ⟨?_,fun x=>Iff.rfl⟩
    match p,hs with
    | [],_=>simp
    | [x],_=>simp
  rw [decide_eq_false (by omega : ¬ (p.length : Int) < 2),cond_false]
  have hsort : ∀ k,k≤p.length→(∀ j (hj : j < k),0 < j→∀ h : j < p.length,p[j]≠p[j - 1])→Yu (p.take k) (p.take k):=by
    intro k hk hne
    refine ⟨?_,fun x=>Iff.rfl⟩
    rw [List.pairwise_iff_getElem]
    intro i j hi hj hij
    simp only [List.length_take] at hi hj
    simp only [List.getElem_take]
    have h1 : p[j - 1]≤p[j]:=List.pairwise_iff_getElem.1 hp _ _ q7 q7 q7
    have h2:=hne j q7 q7 q7
    have h3 : p[i]≤p[j - 1]:=by
      by_cases e : i = j - 1
      · subst e;exact Int.le_refl _
      · exact List.pairwise_iff_getElem.1 hp _ _ q7 q7 q7
    omega
  have hstep : ∀ k,0 < k→∀ h : k < p.length,p[k]≠p[k - 1]→J8 p (k : Int) = some (.inl ((k + 1 : Nat) : Int)):=by
    intro k h0 h hne
    have r2 : idx p (w64 ((k : Int) - 1)) = some (p[k - 1]):=by rw [Q0 q7];exact J2 q7 q7
    have hb : (p[k] == p[k - 1]) = false:=by simpa using hne
    simp only [J8,dlt h,cond_true,K1 h,r2,Option.bind_some,hb,cond_false,w64s h hl]
  by_cases hh : ∀ j,0 < j→∀ h : j < p.length,p[j]≠p[j - 1]
  · have h1 : loop (J8 p) 1 = some (.inl ()):=by
      exact Zp (f:=J8 p) (fun k=>((k + 1 : Nat) : Int)) (p.length - 1) _ (fun k hk=>by
        exact hstep (k + 1) q7 q7 (hh (k + 1) q7 q7)) (by
        show J8 p (((p.length - 1) + 1 : Nat) : Int) = _
        rw [show p.length - 1 + 1 = p.length by omega]
        simp only [J8,dnl,cond_false]) (Nat.zero_le _)
    rw [h1]
    refine ⟨p.length,p,rfl,rfl,Nat.le_refl _,?_⟩
    have:=hsort p.length (Nat.le_refl _) fun j _ h0 h=>hh j h0 h
    rw [List.take_length] at this ⊢;exact this
  · have h2 : ∃ k,(0 < k∧∃ h : k < p.length,p[k] = p[k - 1])∧∀ j,j < k→¬ (0 < j∧∃ h : j < p.length,p[j] = p[j - 1]):=by
      have : ∃ k,0 < k∧∃ h : k < p.length,p[k] = p[k - 1]:=by
        refine Classical.byContradiction fun hn=>hh fun j h0 h he=>hn ⟨j,h0,h,he⟩
      obtain ⟨k,hk⟩:=this
      induction k using Nat.strongRecOn with
      | _ k ih=>
        by_cases hj : ∃ j,j < k∧(0 < j∧∃ h : j < p.length,p[j] = p[j - 1])
        · obtain ⟨j,h1,h2⟩:=hj;exact ih j h1 h2
        · exact ⟨k,hk,fun j h1 h2=>hj ⟨j,h1,h2⟩⟩
    obtain ⟨k,⟨h0,hk,he⟩,hmin⟩:=h2
    have hso : Yu (p.take k) (p.take k):=hsort k q7 fun j hj h0 h he=>hmin j hj ⟨h0,h,he⟩
    have hso' : Yu (p.take (k + 1)) (p.take k):=by
      refine ⟨hso.1,fun x=>?_⟩
      rw [List.take_succ_eq_append_getElem hk,List.mem_append]
      refine ⟨.inl,fun h=>h.elim id fun h=>?_⟩
      simp only [List.mem_singleton] at h
      rw [h,he,List.mem_take_iff_getElem]
      exact ⟨k - 1,q7,rfl⟩
    obtain ⟨i,a,e1,e2,e3,e4⟩:=qoz hp hl h0 hk hso'
    have s1 : sub2 p.length (k : Int) (p.length : Int) = some (k,p.length - k):=by unfold sub2;rw [if_pos ⟨q7,q7,q7⟩];simp
    have s2 : sub2 a.length (i : Int) (a.length : Int) = some (i,a.length - i):=by unfold sub2;rw [if_pos ⟨q7,q7,q7⟩];simp
    have s3 : sub2 a.length 0 (i : Int) = some (0,i):=by unfold sub2;rw [if_pos ⟨q7,q7,q7⟩];simp
    have r2 : idx p (w64 ((k : Int) - 1)) = some (p[k - 1]):=by rw [Q0 q7];exact J2 q7 q7
    have h1 : loop (J8 p) 1 = some (.inr ((0,i),clrw a (i,a.length - i) 0)):=by
      exact Zp (f:=J8 p) (fun k=>((k + 1 : Nat) : Int)) (k - 1) _ (fun j hj=>by
        exact hstep (j + 1) q7 q7 fun he=>hmin (j + 1) q7 ⟨q7,q7,he⟩) (by
        show J8 p (((k - 1) + 1 : Nat) : Int) = _
        rw [show k - 1 + 1 = k by omega]
        have hb : (p[k] == p[k - 1]) = true:=by simpa using he
        simp only [J8,dlt hk,cond_true,K1 hk,r2,Option.bind_some,hb,s1,e1,s2,s3]) (Nat.zero_le _)
    rw [h1]
    refine ⟨i,clrw a (i,a.length - i) 0,rfl,by rw [qgy (by simp;omega)];exact e2,e3,?_⟩
    have : (clrw a (i,a.length - i) 0).take i = a.take i:=by
      unfold clrw splice
      rw [List.append_assoc,List.take_append_of_le_length (by simp;omega)]
      simp [List.take_take]
    rw [this];exact e4
end Go.Sh
namespace Go.Sh
open Go Go.Am
theorem qad {α : Type} [DecidableEq α] (e : α→α→Bool) (he : ∀ v w,e v w = decide (v = w)) (p q : List α) (hl : p.length≤1000000) (f : Int→Option (Int ⊕ (Unit ⊕ Bool)))
    (hf : ∀ k,f k = cond (decide (k < (p.length : Int))) ((idx p k).bind fun v=>(idx q k).bind fun w=>cond (!(e v w)) (some (.inr (.inr false))) (some (.inl (w64 (k + 1))))) (some (.inr (.inl ())))) :
    cond ((p.length : Int) != (q.length : Int)) (some false) ((loop f 0).bind fun m=>(match m with | .inl _=>some true | .inr x=>some x)) = some (decide (p = q)):=by
  by_cases hn : p.length = q.length
  · have : ((p.length : Int) != (q.length : Int)) = false:=by rw [hn];simp
    rw [this,cond_false]
    let c : Nat→Bool:=fun k=>if h : k < p.length then !(e p[k] (q[k]'(q7))) else false
    have hs : ∀ (k : Nat) (h : k < (List.range p.length).length),f (k : Int) = some (if c (List.range p.length)[k] = true then .inr (.inr false) else .inl ((k + 1 : Nat) : Int)):=by
      intro k h
      have h : k < p.length:=by simpa using h
      rw [hf]
      simp only [dlt h,cond_true,K1 h,K1 (xs:=q) (k:=k) q7,Option.bind_some,List.getElem_range,c,dif_pos h,w64s h hl]
      cases e p[k] (q[k]'(q7)) <;> simp
    have hd : f ((List.range p.length).length : Int) = some (.inr (.inl ())):=by rw [hf];simp []
    rcases q7g (List.range p.length) c (fun _ _=>false) () f hs hd with ⟨h1,h2⟩ | ⟨k,hk,hc,_,h2⟩
    · rw [h2]
      have : p = q:=by
        refine List.ext_getElem hn fun k h3 h4=>?_
        have:=h1 k (by simpa using h3)
        simp only [c,dif_pos h3,he,Bool.not_eq_false',decide_eq_true_eq] at this
        exact this
      simp [this]
    · rw [h2]
      have hk' : k < p.length:=by simpa using hk
      have : p≠q:=by
        intro h
        simp only [List.getElem_range,c,he,h] at hc
        simp at hc
      simp [this]
  · have : ((p.length : Int) != (q.length : Int)) = true:=by simpa using (fun h : (p.length : Int) = q.length=>hn q7)
    rw [this,cond_true]
    have : p≠q:=fun h=>hn (by rw [h])
    simp [this]
theorem qhn (p q : List qm) (hl : p.length≤1000000) : q8i p q = some (decide (p = q)):=
  qad (fun v w=>((v.Lo == w.Lo) && ((v.Hi == w.Hi) && true))) (fun v w=>by cases v;cases w;rw [Bool.eq_iff_iff];simp) p q hl (qbq p q) (fun _=>rfl)
theorem qui (p q : List qm) (hl : p.length≤1000000) : qbb p q = some (decide (p = q)):=
  qad (fun v w=>((v.Lo == w.Lo) && ((v.Hi == w.Hi) && true))) (fun v w=>by cases v;cases w;rw [Bool.eq_iff_iff];simp) p q hl (qbc p q) (fun _=>rfl)
theorem q4h (p q : List ql) (hl : p.length≤1000000) : Ur p q = some (decide (p = q)):=
  qad (fun v w=>((v.X0 == w.X0) && ((v.Y0 == w.Y0) && ((v.X1 == w.X1) && ((v.Y1 == w.Y1) && true))))) (fun v w=>by cases v;cases w;rw [Bool.eq_iff_iff];simp) p q hl (qbn p q) (fun _=>rfl)
theorem sameBox (p q : List qk) (hl : p.length≤1000000) : qtc p q = some (decide (p = q)):=
  qad (fun v w=>((v.Lo.X == w.Lo.X) && ((v.Lo.Y == w.Lo.Y) && ((v.Lo.Z == w.Lo.Z) && ((v.Hi.X == w.Hi.X) && ((v.Hi.Y == w.Hi.Y) && ((v.Hi.Z == w.Hi.Z) && true))))))) (fun v w=>by rcases v with ⟨⟨_,_,_⟩,⟨_,_,_⟩⟩;rcases w with ⟨⟨_,_,_⟩,⟨_,_,_⟩⟩;rw [Bool.eq_iff_iff];simp [and_assoc]) p q hl (qkq p q) (fun _=>rfl)
structure Mg (σ β : Type) where
  done : List β
  sec : List σ
  lo : Int
  hi : Int
section
variable {σ β : Type} [DecidableEq σ] (put : Int→Int→σ→β)
def Mg.flat (s : Mg σ β) : List β:=s.done ++ s.sec.map (put s.lo s.hi)
def addM (s : Mg σ β) (a b : Int) (c : List σ) : Mg σ β:=if c≠[]∧c = s.sec∧s.hi = a then ⟨s.done,s.sec,s.lo,b⟩ else ⟨s.flat put,c,a,b⟩
def Qn : Mg σ β:=⟨[],[],0,0⟩
def Qo (s0 : Mg σ β) (steps : List (Int × Int × List σ)) : Mg σ β:=steps.foldl (fun s t=>addM put s t.1 t.2.1 t.2.2) s0
theorem qak {s0 : Mg σ β} {steps : List (Int × Int × List σ)} {i : Nat} (h : i < steps.length) : Qo put s0 (steps.take (i + 1)) = addM put (Qo put s0 (steps.take i)) steps[i].1 steps[i].2.1 steps[i].2.2:=by
  unfold Qo
  rw [List.take_succ_eq_append_getElem h,List.foldl_append];rfl
theorem qn8 (s : Mg σ β) (a b : Int) (c : List σ) : ((addM put s a b c).flat put).length≤(s.flat put).length + c.length:=by
  unfold addM;split
  · simp [Mg.flat]
  · simp [Mg.flat];omega
theorem qaj {s0 : Mg σ β} {M : Nat} : ∀ {steps : List (Int × Int × List σ)},(∀ t∈steps,t.2.2.length≤M)→((Qo put s0 steps).flat put).length≤(s0.flat put).length + steps.length * M:=by
  intro steps
  induction steps generalizing s0 with
  | nil=>intro _;simp [Qo]
  | cons t r ih=>
    intro h
    have h1:=ih (s0:=addM put s0 t.1 t.2.1 t.2.2) fun u hu=>h u (by simp [hu])
    have h2:=qn8 put s0 t.1 t.2.1 t.2.2
    have h3:=h t qf
    have h4 : Qo put s0 (t::r) = Qo put (addM put s0 t.1 t.2.1 t.2.2) r:=rfl
    rw [h4]
    simp only [List.length_cons,Nat.succ_mul]
    omega
end
section
variable {σ : Type}
def Yk (cuts : List Int) (sec : Int→List σ) : List (Int × Int × List σ):=(cuts.zip cuts.tail).map fun c=>(c.1,c.2,sec c.1)
theorem qc7 (cuts : List Int) (sec : Int→List σ) : (Yk cuts sec).length = cuts.length - 1:=by simp [Yk]
theorem qfh {cuts : List Int} {sec : Int→List σ} {i : Nat} (h : i < (Yk cuts sec).length) (h1 : i + 1 < cuts.length) : (Yk cuts sec)[i] = (cuts[i],cuts[i + 1],sec cuts[i]):=by
  simp [Yk]
theorem qzw {cuts : List Int} {sec : Int→List σ} {M : Nat} (h : ∀ x,(sec x).length≤M) : ∀ t∈Yk cuts sec,t.2.2.length≤M:=by
  intro t ht
  simp only [Yk,List.mem_map] at ht
  obtain ⟨c,_,rfl⟩:=ht
  exact h _
end
theorem q48 {σ β : Type} [DecidableEq σ] (put : Int→Int→σ→β) (s : Mg σ β) (a b : Int) (c : List σ) : (c≠[]∧c = s.sec∧s.hi = a∧addM put s a b c = ⟨s.done,s.sec,s.lo,b⟩)∨(¬ (c≠[]∧c = s.sec∧s.hi = a)∧addM put s a b c = ⟨s.flat put,c,a,b⟩):=by
  unfold addM
  split
  · rename_i h;exact .inl ⟨h.1,h.2.1,h.2.2,rfl⟩
  · rename_i h;exact .inr ⟨h,rfl⟩
def putR (a b : Int) (t : qm) : ql:={X0:=a,Y0:=t.Lo,X1:=b,Y1:=t.Hi}
theorem qgk (s : Mg qm ql) (a b : Int) (c : List qm) (hl : (s.flat putR).length + c.length≤1000000) :
    q5e (s.flat putR) s.sec (s.done.length : Int) s.hi a b c = some ((addM putR s a b c).sec,((addM putR s a b c).done.length : Int),(addM putR s a b c).hi,(addM putR s a b c).flat putR):=by
  have hsec : s.sec.length≤1000000:=by have : (s.flat putR).length = s.done.length + s.sec.length:=(by simp [Mg.flat]);omega
  unfold q5e
  rcases q48 putR s a b c with ⟨h1,h2,h3,h4⟩ | ⟨h1,h4⟩
  · have hb : decide ((c.length : Int) > 0) = true:=decide_eq_true (by have:=List.length_pos_iff.2 h1;omega)
    have he : (s.hi == a) = true:=by simpa using h3
    rw [h2] at hb
    rw [h4,h2]
    simp only [hb,cond_true,he,Option.bind_some,qhn _ _ hsec,decide_true]
    have:=qdh (fun v : ql=>({X0:=v.X0,Y0:=v.Y0,X1:=b,Y1:=v.Y1} : ql)) s.done (s.sec.map (putR s.lo s.hi)) (by have : (s.done ++ s.sec.map (putR s.lo s.hi)).length = (s.flat putR).length:=rfl;omega) (q5f b) (fun k o hk ho=>by
      have h5 : (s.done ++ s.sec.map (putR s.lo s.hi)).length = (s.flat putR).length:=rfl
      simp only [q5f,dlt hk,cond_true,K1 hk,Option.bind_some,w64s hk q7,Int.toNat_natCast]) (fun o=>by simp only [q5f,dnl,cond_false])
    rw [show s.flat putR = s.done ++ s.sec.map (putR s.lo s.hi) from rfl,this]
    simp only [Option.bind_some,Mg.flat,List.map_map]
    rfl
  · rw [h4]
    have hc : ((cond (decide ((c.length : Int) > 0)) (some (s.hi == a)) (some false)).bind fun c101=>(cond c101 ((q8i s.sec c).bind fun r121=>some r121) (some false))) = some false:=by
      by_cases h5 : c = []
      · subst h5;simp
      · have hb : decide ((c.length : Int) > 0) = true:=decide_eq_true (by have:=List.length_pos_iff.2 h5;omega)
        simp only [hb,cond_true,Option.bind_some,qhn _ _ hsec]
        by_cases h6 : s.hi = a
        · have h7 : s.sec≠c:=fun h=>h1 ⟨h5,h.symm,h6⟩
          simp [h6,h7]
        · have : (s.hi == a) = false:=by simpa using h6
          simp [this]
    have hap:=qax c (putR a b) (s.flat putR) (fun o=>(c,((s.flat putR).length : Int),b,o)) (q5g c a b (s.flat putR)) (fun k hk o ho=>by
      simp only [q5g,dlt hk,cond_true,K1 hk,Option.bind_some,w64s hk q7]
      rw [Za (by simp;omega)]
      rfl) (fun o=>by simp only [q5g,dnl,cond_false])
    rw [← Option.bind_assoc,hc]
    simp only [Option.bind_some,cond_false,hap]
    simp [Mg.flat]
end Go.Sh
namespace Go.Sh
open Go Go.Am
def vR (r : ql) : Prop:=r.X0 < r.X1∧r.Y0 < r.Y1∧-1000000≤r.X0∧r.X0≤1000000∧-1000000≤r.X1∧r.X1≤1000000∧-1000000≤r.Y0∧r.Y0≤1000000∧-1000000≤r.Y1∧r.Y1≤1000000
instance (r : ql) : Decidable (vR r):=by unfold vR;infer_instance
theorem qi2 (x : Int) : q2n x = some (decide (-1000000≤x∧x≤1000000)):=by
  unfold q2n
  by_cases h : x ≥ -1000000 <;> by_cases h' : x≤1000000 <;> simp [h,h'] <;> omega
theorem qmu (r : ql) : q5j r = some (decide (vR r)):=by
  unfold q5j
  simp only [qi2,qp1,Option.bind_some,vR]
  by_cases h1 : r.X0 < r.X1 <;> by_cases h2 : r.Y0 < r.Y1 <;> by_cases h3 : -1000000≤r.X0∧r.X0≤1000000 <;> by_cases h4 : -1000000≤r.X1∧r.X1≤1000000 <;> by_cases h5 : -1000000≤r.Y0∧r.Y0≤1000000 <;> by_cases h6 : -1000000≤r.Y1∧r.Y1≤1000000 <;> simp [h1,h2,h3,h4,h5,h6] <;> omega
def covR (x : Int) (r : ql) : Bool:=decide (r.X0≤x) && decide (x < r.X1)
def ysp (r : ql) : qm:={Lo:=r.Y0,Hi:=r.Y1}
def covS (l : List ql) (x : Int) : List qm:=l.flatMap fun r=>if covR x r = true then [ysp r] else []
def hasR (l : List ql) (x y : Int) : Prop:=∃ r∈l,r.X0≤x∧x < r.X1∧r.Y0≤y∧y < r.Y1
theorem qe7 {l : List ql} {x : Int} {t : qm} : t∈covS l x↔∃ r∈l,covR x r = true∧t = ysp r:=by
  unfold covS
  rw [List.mem_flatMap]
  constructor
  · rintro ⟨r,hr,h⟩
    split at h
    · rename_i hc;simp only [List.mem_singleton] at h;exact ⟨r,hr,hc,h⟩
    · cases h
  · rintro ⟨r,hr,hc,rfl⟩;exact ⟨r,hr,by simp [hc]⟩
theorem q4n {l : List ql} {x y : Int} : has (covS l x) y↔hasR l x y:=by
  unfold has hasR
  constructor
  · rintro ⟨t,ht,h1,h2⟩
    obtain ⟨r,hr,hc,rfl⟩:=qe7.1 ht
    simp only [covR,Bool.and_eq_true,decide_eq_true_eq] at hc
    exact ⟨r,hr,hc.1,hc.2,h1,h2⟩
  · rintro ⟨r,hr,h1,h2,h3,h4⟩
    exact ⟨ysp r,qe7.2 ⟨r,hr,by simp [covR,h1,h2],rfl⟩,h3,h4⟩
theorem q1y (l : List ql) (x : Int) : (covS l x).length≤l.length:=by
  unfold covS
  induction l with
  | nil=>simp
  | cons r l ih=>
    simp only [List.flatMap_cons,List.length_append,List.length_cons]
    have : (if covR x r = true then [ysp r] else []).length≤1:=by split <;> simp
    omega
theorem qhe {l : List ql} (h : ∀ r∈l,vR r) (x : Int) : ∀ t∈covS l x,vld t:=by
  intro t ht
  obtain ⟨r,hr,_,rfl⟩:=qe7.1 ht
  obtain ⟨_,h2,_,_,_,_,h3,_,_,h4⟩:=h r hr
  exact ⟨h2,h3,h4⟩
def xsOf (l : List ql) : List Int:=l.flatMap fun r=>[r.X0,r.X1]
theorem q1v (l : List ql) : (xsOf l).length = 2 * l.length:=by
  unfold xsOf;induction l with
  | nil=>rfl
  | cons r l ih=>simp only [List.flatMap_cons,List.length_append,List.length_cons,List.length_nil];omega
noncomputable def Qu (l : List Int) : List Int:=(q51 l).getD []
theorem Uy {l : List Int} (hl : l.length≤1000000) : q51 l = some (Qu l)∧Yu l (Qu l)∧(Qu l).length≤l.length:=by
  obtain ⟨t,h1,h2,h3⟩:=qm2 l hl
  unfold Qu;rw [h1];exact ⟨rfl,h2,h3⟩
noncomputable def secJ (kind : Int) (p q : List ql) (x : Int) : List qm:=Zf kind (covS p x) (covS q x)
theorem qld (kind : Int) {p q : List ql} (h : p.length + q.length≤100000) (x : Int) : (secJ kind p q x).length≤2 * (p.length + q.length):=by
  have h1:=q1y p x
  have h2:=q1y q x
  have:=(q4s kind (covS p x) (covS q x) q7 q7).2.len
  unfold secJ;omega
noncomputable def mrg (kind : Int) (p q : List ql) : Mg qm ql:=Qo putR Qn (Yk (Qu (xsOf p ++ xsOf q)) (secJ kind p q))
noncomputable def mrgR (kind : Int) (p q : List ql) : List ql:=(mrg kind p q).flat putR
theorem qhf {p q : List ql} (h : p.length + q.length≤400) : q51 (xsOf p ++ xsOf q) = some (Qu (xsOf p ++ xsOf q))∧Yu (xsOf p ++ xsOf q) (Qu (xsOf p ++ xsOf q))∧(Qu (xsOf p ++ xsOf q)).length≤2 * (p.length + q.length):=by
  have h1:=q1v p
  have h2:=q1v q
  obtain ⟨a,b,c⟩:=Uy (l:=xsOf p ++ xsOf q) (by simp;omega)
  exact ⟨a,b,by simp at c;omega⟩
theorem qrh (kind : Int) {p q : List ql} (h : p.length + q.length≤400) (i : Nat) :
    ((Qo putR Qn ((Yk (Qu (xsOf p ++ xsOf q)) (secJ kind p q)).take i)).flat putR).length≤800 * 800:=by
  have h1:=qaj putR (s0:=Qn) (M:=800) (steps:=(Yk (Qu (xsOf p ++ xsOf q)) (secJ kind p q)).take i) (fun t ht=>by
    have:=qzw (M:=2 * (p.length + q.length)) (fun x=>qld kind q7 x) t (List.mem_of_mem_take ht)
    omega)
  have h2 : ((Yk (Qu (xsOf p ++ xsOf q)) (secJ kind p q)).take i).length≤800:=by
    have:=(qhf h).2.2
    rw [List.length_take,qc7];omega
  have h3 : (Qn.flat putR : List ql).length = 0:=rfl
  have h4 : ((Yk (Qu (xsOf p ++ xsOf q)) (secJ kind p q)).take i).length * 800≤800 * 800:=Nat.mul_le_mul_right _ h2
  omega
theorem qr9 (l : List ql) (hl : l.length≤400) :
    (((idx [l] 0).bind fun v95=>(loop (Zr v95) (0,[])).bind fun x0=>some x0).bind fun b94=>(Jr b94).bind fun e127=>(Qr e127.length b94.length).bind fun u129=>(Uq e127).bind fun e132=>(Qr e132.2.length e127.length).bind fun u134=>(Uw e132.2.length e132.1).bind fun u137=>some ((e132.2.drop e132.1.1).take e132.1.2)) = some (Qu (xsOf l)):=by
  have e0 : idx [l] 0 = some l:=rfl
  have e1 : loop (Zr l) (0,[]) = some (xsOf l):=by
    have:=q47 l q7 (fun r=>[r.X0,r.X1]) [] (fun o=>o) (Zr l) (fun k hk o ho=>by
      have h8 : o.length = 2 * k:=by rw [ho,List.nil_append];have:=q1v (l.take k);rw [List.length_take,Nat.min_eq_left q7] at this;exact this
      simp only [Zr,dlt hk,cond_true,K1 hk,Option.bind_some,w64s hk q7]
      rw [Za (by simp;omega)]
      rfl) (fun o=>by simp only [Zr,dnl,cond_false])
    rw [List.nil_append] at this
    exact this
  have hx:=q1v l
  obtain ⟨ys,s1,s2,s3⟩:=qm0 (xsOf l) q7
  have hys : ys.length = (xsOf l).length:=s2.length_eq
  obtain ⟨w,a,c1,c2,c3,c4⟩:=qh9 s3 q7
  obtain ⟨_,d2,_⟩:=Uy (l:=xsOf l) q7
  have huniq : a.take w = Qu (xsOf l):=by
    refine qm1 (l:=xsOf l) ⟨c4.1,fun x=>?_⟩ d2
    rw [c4.2 x];exact s2.mem_iff
  simp only [e0,Option.bind_some,e1,s1,Qr,hys,if_true,c1,c2,Uw]
  rw [if_pos q7]
  simp only [Option.bind_some,List.drop_zero,huniq]
theorem qe2 (l : List ql) (hl : l.length≤400) (x : Int) : loop (U6 l x) (0,[]) = some (covS l x):=by
  have:=q47 l q7 (fun r=>if covR x r = true then [ysp r] else []) [] (fun o=>o) (U6 l x) (fun k hk o ho=>by
    have h8 : o.length≤k:=by rw [ho,List.nil_append];have:=q1y (l.take k) x;rw [List.length_take,Nat.min_eq_left q7] at this;exact this
    simp only [U6,dlt hk,cond_true,K1 hk,Option.bind_some,w64s hk q7]
    by_cases h1 : l[k].X0≤x
    · by_cases h2 : x < l[k].X1
      · simp only [h1,h2,decide_true,cond_true,Option.bind_some,covR,Bool.and_self,if_true]
        rw [Za (by simp;omega)]
        rfl
      · simp only [h1,h2,decide_true,decide_false,cond_true,cond_false,Option.bind_some,covR,Bool.and_false,if_false,Bool.false_eq_true,List.append_nil]
    · simp only [h1,decide_false,cond_false,Option.bind_some,covR,Bool.false_and,if_false,Bool.false_eq_true,List.append_nil]) (fun o=>by simp only [U6,dnl,cond_false])
  rw [List.nil_append] at this
  exact this
theorem qjj (l : List ql) (hl : l.length≤400) (hv : ∀ r∈l,vR r) : q5i l = some (if 400 < (mrgR 2 l []).length then ([],4) else (mrgR 2 l [],0)):=by
  unfold q5i
  rw [qr9 l hl]
  simp only [Option.bind_some]
  have hcut : Qu (xsOf l ++ xsOf []) = Qu (xsOf l):=by simp [xsOf]
  obtain ⟨_,hso,hlen⟩:=qhf (p:=l) (q:=[]) (by simpa using hl)
  have hml:=fun i=>qrh 2 (p:=l) (q:=[]) (by simpa using hl) i
  rw [hcut] at hso hlen
  have hlen : (Qu (xsOf l)).length≤2 * l.length:=by simpa using hlen
  have hmain : loop (q2o (Qu (xsOf l)) l) (1,[],0,0,[]) = some ((mrg 2 l []).sec,((mrg 2 l []).done.length : Int),(mrg 2 l []).hi,mrgR 2 l []):=by
    unfold mrgR mrg
    rw [hcut] at hml ⊢
    generalize hst : Yk (Qu (xsOf l)) (secJ 2 l []) = steps at hml ⊢
    have hsl : steps.length = (Qu (xsOf l)).length - 1:=by rw [← hst];exact qc7 _ _
    have hfin : Qo putR Qn (steps.take steps.length) = Qo putR Qn steps:=by rw [List.take_length]
    have key:=Zp (f:=q2o (Qu (xsOf l)) l) (fun k=>(((k + 1 : Nat) : Int),(Qo putR Qn (steps.take k)).sec,((Qo putR Qn (steps.take k)).done.length : Int),(Qo putR Qn (steps.take k)).hi,(Qo putR Qn (steps.take k)).flat putR))
      steps.length ((Qo putR Qn steps).sec,((Qo putR Qn steps).done.length : Int),(Qo putR Qn steps).hi,(Qo putR Qn steps).flat putR) (fun k hk=>by
        have hk1 : k + 1 < (Qu (xsOf l)).length:=by omega
        have hg : steps[k] = ((Qu (xsOf l))[k],(Qu (xsOf l))[k + 1],secJ 2 l [] (Qu (xsOf l))[k]):=by
          subst hst;exact qfh hk hk1
        have i1 : idx (Qu (xsOf l)) (w64 (((k + 1 : Nat) : Int) - 1)) = some (Qu (xsOf l))[k]:=by rw [Q0 q7];exact J2 q7 q7
        have hcl:=q1y l (Qu (xsOf l))[k]
        have hmk : q2w (covS l (Qu (xsOf l))[k]) = some (secJ 2 l [] (Qu (xsOf l))[k],0):=by
          rw [qjk]
          unfold qaw
          rw [if_neg q7,if_pos (qhe hv _)]
          rfl
        have hbl:=qld 2 (p:=l) (q:=[]) (by simp;omega) (Qu (xsOf l))[k]
        have hml':=hml k
        have hb:=qgk (Qo putR Qn (steps.take k)) (Qu (xsOf l))[k] (Qu (xsOf l))[k + 1] (secJ 2 l [] (Qu (xsOf l))[k]) (by simp at hbl;omega)
        rw [qak putR hk,hg]
        simp only [q2o,dlt hk1,cond_true,i1,K1 hk1,Option.bind_some,show idx [l] 0 = some l from rfl,qe2 l hl,hmk,hb,Bool.not_true,cond_false]
        rw [w64s hk1 q7]) (by
        rw [hfin]
        by_cases h0 : (Qu (xsOf l)).length = 0
        · have : decide (((steps.length + 1 : Nat) : Int) < ((Qu (xsOf l)).length : Int)) = false:=decide_eq_false q7
          simp only [q2o,this,cond_false]
        · have : decide (((steps.length + 1 : Nat) : Int) < ((Qu (xsOf l)).length : Int)) = false:=decide_eq_false q7
          simp only [q2o,this,cond_false]) (Nat.zero_le _)
    exact key
  rw [hmain]
  simp only [Option.bind_some]
  by_cases h4 : 400 < (mrgR 2 l []).length
  · rw [decide_eq_true (by omega : ((mrgR 2 l []).length : Int) > 400),if_pos h4];rfl
  · rw [decide_eq_false (by omega : ¬ ((mrgR 2 l []).length : Int) > 400),if_neg h4];rfl
end Go.Sh
namespace Go.Sh
open Go Go.Am
theorem qj0 {kind : Int} {a b : Prop} (h : Ky kind a b) : a∨b:=by
  rcases h with ⟨_,h,_⟩ | ⟨_,h⟩ | ⟨_,_,h,_⟩
  · exact .inl h
  · exact h
  · exact .inl h
end Go.Sh
namespace Go.Sh
open Go Go.Am
noncomputable def Kh (l : List ql) : Int:=if 400 < l.length then 4 else if ∀ r∈l,vR r then (if mrgR 2 l [] = l then 0 else 8) else 8
theorem qgv {l : List ql} (h : Kh l = 0) : l.length≤400∧(∀ r∈l,vR r)∧mrgR 2 l [] = l:=by
  unfold Kh at h
  split at h
  · omega
  · split at h
    · split at h
      · rename_i a b c;exact ⟨q7,b,c⟩
      · omega
    · omega
theorem qty (l : List ql) (hl : l.length≤1000000) : q8e l (fun x0=>q2l x0) = some (decide (¬ ∀ r∈l,vR r)):=by
  have hs : ∀ (k : Nat) (h : k < l.length),q3o l (fun x0=>q2l x0) (k : Int) = some (if (fun r=>!decide (vR r)) l[k] = true then .inr (.inr (k : Int)) else .inl ((k + 1 : Nat) : Int)):=by
    intro k h
    simp only [q3o,dlt h,cond_true,K1 h,Option.bind_some,w64s h hl,q2l,qmu]
    by_cases hv : vR l[k] <;> simp [hv]
  have hd : q3o l (fun x0=>q2l x0) (l.length : Int) = some (.inr (.inl ())):=by simp only [q3o,dnl,cond_false]
  unfold q8e qbs
  rcases q7g l (fun r=>!decide (vR r)) (fun k _=>(k : Int)) () _ hs hd with ⟨h1,h2⟩ | ⟨k,hk,hc,_,h2⟩
  · rw [h2]
    have : ∀ r∈l,vR r:=fun r hr=>by simpa using h1 r hr
    simp []
    omega
  · rw [h2]
    have : ¬ ∀ r∈l,vR r:=fun h=>by simp [h _ (List.getElem_mem hk)] at hc
    simp only [Option.bind_some]
    rw [decide_eq_true this,decide_eq_true q7]
theorem qet (l : List ql) : q2k l = some (Kh l):=by
  unfold q2k Kh
  by_cases h4 : 400 < l.length
  · rw [decide_eq_true (by omega : (l.length : Int) > 400),cond_true,if_pos h4]
  rw [decide_eq_false (by omega : ¬ (l.length : Int) > 400),cond_false,if_neg h4,qty l q7,Option.bind_some]
  by_cases hv : ∀ r∈l,vR r
  · rw [decide_eq_false (fun h=>h hv),cond_false,qjj l q7 hv,if_pos hv,Option.bind_some]
    by_cases hm : 400 < (mrgR 2 l []).length
    · have hne : mrgR 2 l []≠l:=fun h=>by rw [h] at hm;exact h4 hm
      rw [if_pos hm,if_neg hne];rfl
    · rw [if_neg hm]
      simp only [q4h (mrgR 2 l []) l q7]
      by_cases he : mrgR 2 l [] = l <;> simp [he]
  · rw [decide_eq_true hv,cond_true,if_neg hv]
def putB (a b : Int) (r : ql) : qk:={Lo:={X:=r.X0,Y:=r.Y0,Z:=a},Hi:={X:=r.X1,Y:=r.Y1,Z:=b}}
def Jy (z : Int) : Prop:=-1000000≤z∧z≤1000000
instance (z : Int) : Decidable (Jy z):=by unfold Jy;infer_instance
end Go.Sh
namespace Go.Sh
open Go Go.Am
def covB (z : Int) (b : qk) : Bool:=decide (b.Lo.Z≤z) && decide (z < b.Hi.Z)
def J7 (b : qk) : ql:={X0:=b.Lo.X,Y0:=b.Lo.Y,X1:=b.Hi.X,Y1:=b.Hi.Y}
def atB (l : List qk) (z : Int) : List ql:=l.flatMap fun b=>if covB z b = true then [J7 b] else []
theorem q4a (l : List qk) (x : Int) : (atB l x).length≤l.length:=by
  unfold atB
  induction l with
  | nil=>simp
  | cons r l ih=>
    simp only [List.flatMap_cons,List.length_append,List.length_cons]
    have : (if covB x r = true then [J7 r] else []).length≤1:=by split <;> simp
    omega
def zsOf (l : List qk) : List Int:=l.flatMap fun b=>[b.Lo.Z,b.Hi.Z]
theorem q2z (l : List qk) : (zsOf l).length = 2 * l.length:=by
  unfold zsOf;induction l with
  | nil=>rfl
  | cons r l ih=>simp only [List.flatMap_cons,List.length_append,List.length_cons,List.length_nil];omega
structure q117 (kind : Int) (p q : List qk) (z : Int) : Prop where
  n : (atB p z).length + (atB q z).length≤400
  m : (mrgR kind (atB p z) (atB q z)).length≤400
  mp : (mrgR 2 (atB p z) []).length≤400
  mq : (mrgR 2 (atB q z) []).length≤400
noncomputable def secB (kind : Int) (p q : List qk) (z : Int) : List ql:=mrgR kind (atB p z) (atB q z)
noncomputable def mrgB (kind : Int) (p q : List qk) : List qk:=(Qo putB Qn (Yk (Qu (zsOf p ++ zsOf q)) (secB kind p q))).flat putB
section
variable {σ β : Type} (put : Int→Int→σ→β)
def Alike (s t : Mg σ β) : Prop:=s = t∨(s.flat put = t.flat put∧s.sec = []∧t.sec = [])
theorem Alike.flat {s t : Mg σ β} (h : Alike put s t) : s.flat put = t.flat put:=by
  rcases h with rfl | h
  · rfl
  · exact h.1
end
section
variable {σ β : Type} [DecidableEq σ] (put : Int→Int→σ→β)
def runM (sec : Int→List σ) : Mg σ β→List Int→Mg σ β
  | s,a::b::r=>runM sec (addM put s a b (sec a)) (b::r)
  | s,_=>s
theorem qi6 (sec : Int→List σ) : ∀ (cuts : List Int) (s : Mg σ β),Qo put s (Yk cuts sec) = runM put sec s cuts
  | [],s=>rfl
  | [a],s=>rfl
  | a::b::r,s=>by
    have:=qi6 sec (b::r) (addM put s a b (sec a))
    simp only [runM,← this]
    rfl
theorem Alike.add {s t : Mg σ β} (h : Alike put s t) (a b : Int) (c : List σ) : Alike put (addM put s a b c) (addM put t a b c):=by
  rcases h with rfl | ⟨h1,h2,h3⟩
  · exact .inl rfl
  · refine .inl ?_
    rcases q48 put s a b c with ⟨g1,g2,_,_⟩ | ⟨_,g4⟩
    · exact absurd (g2.trans h2) g1
    · rcases q48 put t a b c with ⟨e1,e2,_,_⟩ | ⟨_,e4⟩
      · exact absurd (e2.trans h3) e1
      · rw [g4,e4,h1]
end
end Go.Sh
namespace Go.Sh
open Go Go.Am
structure Grp (σ : Type) where
  lo : Int
  hi : Int
  sec : List σ
section
variable {σ β : Type}
def CanG (gs : List (Grp σ)) : Prop:=(∀ g∈gs,g.lo < g.hi∧g.sec≠[])∧gs.Pairwise (fun g h=>g.hi≤h.lo∧(g.hi = h.lo→g.sec≠h.sec))
def secG : List (Grp σ)→Int→List σ
  | [],_=>[]
  | g::r,x=>if g.lo≤x∧x < g.hi then g.sec else secG r x
def Kp (put : Int→Int→σ→β) (gs : List (Grp σ)) : List β:=gs.flatMap fun g=>g.sec.map (put g.lo g.hi)
theorem qpy (put : Int→Int→σ→β) (a b : List (Grp σ)) : Kp put (a ++ b) = Kp put a ++ Kp put b:=by simp [Kp]
theorem q2q {y x : Int} : ∀ {r : List (Grp σ)},(∀ h∈r,y≤h.lo)→x < y→secG r x = []
  | [],_,_=>rfl
  | g::r,h,hx=>by
    have:=h g qf
    rw [secG,if_neg q7]
    exact q2q (fun k hk=>h k (by simp [hk])) hx
theorem q5n {y x : Int} : ∀ {r : List (Grp σ)},(∀ h∈r,h.hi≤y)→y≤x→secG r x = []
  | [],_,_=>rfl
  | g::r,h,hx=>by
    have:=h g qf
    rw [secG,if_neg q7]
    exact q5n (fun k hk=>h k (by simp [hk])) hx
theorem q8a {x : Int} : ∀ {a b : List (Grp σ)},secG a x = []→(∀ g∈a,g.sec≠[])→secG (a ++ b) x = secG b x
  | [],_,_,_=>rfl
  | g::a,b,h,hne=>by
    rw [secG] at h
    split at h
    · exact absurd h (hne g qf)
    · rename_i hx
      rw [List.cons_append,secG,if_neg hx]
      exact q8a h fun k hk=>hne k (by simp [hk])
theorem qf6 {y x : Int} {a b : List (Grp σ)} (hb : ∀ h∈b,y≤h.lo) (hx : x < y) : secG (a ++ b) x = secG a x:=by
  induction a with
  | nil=>exact q2q hb hx
  | cons g a ih=>simp only [List.cons_append,secG,ih]
theorem CanG.tail {g : Grp σ} {r : List (Grp σ)} (h : CanG (g::r)) : CanG r:=⟨fun k hk=>h.1 k (by simp [hk]),(List.pairwise_cons.1 h.2).2⟩
theorem CanG.nxt {g : Grp σ} {r : List (Grp σ)} (h : CanG (g::r)) : ∀ k∈r,g.hi≤k.lo∧(g.hi = k.lo→g.sec≠k.sec):=(List.pairwise_cons.1 h.2).1
theorem q2p {g : Grp σ} {r : List (Grp σ)} {x : Int} (h1 : g.lo≤x) (h2 : x < g.hi) : secG (g::r) x = g.sec:=by rw [secG,if_pos ⟨h1,h2⟩]
theorem qvo {g : Grp σ} {r : List (Grp σ)} (h : CanG (g::r)) : secG (g::r) g.hi≠g.sec:=by
  rw [secG,if_neg q7]
  cases r with
  | nil=>exact fun e=>(h.1 g qf).2 e.symm
  | cons k r=>
    have hk:=h.nxt k qf
    have hk2:=h.tail.1 k qf
    by_cases he : g.hi = k.lo
    · rw [q2p q7 q7];exact fun e=>hk.2 he e.symm
    · rw [secG,if_neg q7,q2q (y:=k.hi) (fun m hm=>(h.tail.nxt m hm).1) q7]
      exact fun e=>(h.1 g qf).2 e.symm
theorem qd3 : ∀ {a b : List (Grp σ)},CanG a→CanG b→(∀ x,secG a x = secG b x)→a = b
  | [],[],_,_,_=>rfl
  | [],g::r,_,hb,h=>by
    have:=h g.lo
    rw [q2p (Int.le_refl _) (hb.1 g qf).1] at this
    exact absurd this.symm (hb.1 g qf).2
  | g::r,[],ha,_,h=>by
    have:=h g.lo
    rw [q2p (Int.le_refl _) (ha.1 g qf).1] at this
    exact absurd this (ha.1 g qf).2
  | g::r,k::s,ha,hb,h=>by
    have hg:=ha.1 g qf
    have hk:=hb.1 k qf
    have low : ∀ {g k : Grp σ} {r s : List (Grp σ)},CanG (g::r)→CanG (k::s)→(∀ x,secG (g::r) x = secG (k::s) x)→k.lo≤g.lo:=by
      intro g k r s ha hb h
      refine Int.not_lt.1 fun hlt=>?_
      have h1:=h g.lo
      rw [q2p (Int.le_refl _) (ha.1 g qf).1,q2q (y:=k.lo) (fun m hm=>?_) hlt] at h1
      · exact (ha.1 g qf).2 h1
      · rcases List.mem_cons.1 hm with rfl | hm
        · exact Int.le_refl _
        · have:=(hb.nxt m hm).1;have:=(hb.1 k qf).1;omega
    have e1 : g.lo = k.lo:=Int.le_antisymm (low hb ha fun x=>(h x).symm) (low ha hb h)
    have e2 : g.sec = k.sec:=by
      have h1:=h g.lo
      rwa [q2p (Int.le_refl _) hg.1,q2p q7 q7] at h1
    have hi : ∀ {g k : Grp σ} {r s : List (Grp σ)},CanG (g::r)→CanG (k::s)→(∀ x,secG (g::r) x = secG (k::s) x)→g.lo = k.lo→g.sec = k.sec→k.hi≤g.hi:=by
      intro g k r s ha hb h e1 e2
      refine Int.not_lt.1 fun hlt=>?_
      have h1:=h g.hi
      have:=(ha.1 g qf).1
      rw [q2p (g:=k) q7 hlt,← e2] at h1
      exact qvo ha h1
    have e3 : g.hi = k.hi:=Int.le_antisymm (hi hb ha (fun x=>(h x).symm) e1.symm e2.symm) (hi ha hb h e1 e2)
    have e : g = k:=by cases g;cases k;simp at e1 e2 e3;simp [e1,e2,e3]
    subst e
    have : r = s:=qd3 ha.tail hb.tail fun x=>by
      by_cases hx : x < g.hi
      · rw [q2q (y:=g.hi) (fun m hm=>(ha.nxt m hm).1) hx,q2q (y:=g.hi) (fun m hm=>(hb.nxt m hm).1) hx]
      · have h1:=h x
        rwa [secG,secG,if_neg q7,if_neg q7] at h1
    rw [this]
def curG (s : Mg σ β) : List (Grp σ):=if s.sec = [] then [] else [⟨s.lo,s.hi,s.sec⟩]
def secC (sec : Int→List σ) : List Int→Int→List σ
  | a::b::r,x=>if a≤x∧x < b then sec a else secC sec (b::r) x
  | _,_=>[]
theorem qi3 (put : Int→Int→σ→β) (s : Mg σ β) (gs : List (Grp σ)) (h : s.done = Kp put gs) : s.flat put = Kp put (gs ++ curG s):=by
  rw [qpy,Mg.flat,h]
  unfold curG
  split
  · rename_i h1;simp [h1,Kp]
  · simp [Kp]
theorem qay {s : Mg σ β} {g : Grp σ} (h : g∈curG s) : s.sec≠[]∧g = ⟨s.lo,s.hi,s.sec⟩:=by
  unfold curG at h;split at h
  · cases h
  · rename_i hn;exact ⟨hn,by simpa using h⟩
theorem qbk (sec : Int→List σ) {x : Int} : ∀ {cuts : List Int},cuts.Pairwise (· < ·)→
    (∀ a∈cuts,a≤x→(∀ c∈cuts,c≤a∨x < c)→sec a = sec x)→((∀ c∈cuts,x < c)→sec x = [])→((∀ c∈cuts,c≤x)→sec x = [])→secC sec cuts x = sec x
  | [],_,_,h2,_=>(h2 qf).symm
  | [a],_,_,h2,h3=>by
    rw [secC]
    · by_cases hx : x < a
      · exact (h2 (by simpa using hx)).symm
      · exact (h3 (by simpa using hx)).symm
    · intro a b r h;simp at h
  | a::b::r,hp,h1,h2,h3=>by
    have hab : a < b:=(List.pairwise_cons.1 hp).1 b qf
    have hbr:=(List.pairwise_cons.1 (List.pairwise_cons.1 hp).2).1
    rw [secC]
    split
    · rename_i hx
      refine h1 a qf hx.1 fun c hc=>?_
      rcases List.mem_cons.1 hc with rfl | hc
      · exact .inl (Int.le_refl _)
      · rcases List.mem_cons.1 hc with rfl | hc
        · exact .inr hx.2
        · have:=hbr c hc;exact .inr q7
    · rename_i hx
      by_cases hxa : x < a
      · have e : sec x = []:=h2 fun c hc=>by
          rcases List.mem_cons.1 hc with rfl | hc
          · exact hxa
          · have:=(List.pairwise_cons.1 hp).1 c hc;omega
        have:=qbk sec (x:=x) (List.pairwise_cons.1 hp).2 (fun a' ha' hle _=>by
          exfalso;have:=(List.pairwise_cons.1 hp).1 a' ha';omega) (fun _=>e) (fun _=>e)
        exact this
      · have hbx : b≤x:=by omega
        exact qbk sec (List.pairwise_cons.1 hp).2 (fun a' ha' hle hall=>h1 a' (by simp [ha']) hle fun c hc=>by
          rcases List.mem_cons.1 hc with rfl | hc
          · have:=(List.pairwise_cons.1 hp).1 a' ha';exact .inl q7
          · exact hall c hc) (fun hall=>by have:=hall b qf;omega) (fun hall=>h3 fun c hc=>by
          rcases List.mem_cons.1 hc with rfl | hc
          · omega
          · exact hall c hc)
variable [DecidableEq σ] (put : Int→Int→σ→β)
structure InvG (s : Mg σ β) (gs : List (Grp σ)) (c : Int) : Prop where
  done : s.done = Kp put gs
  can : CanG (gs ++ curG s)
  le : ∀ g∈gs ++ curG s,g.hi≤c
  gap : s.sec = []→∀ g∈gs,g.hi = c→False
theorem qqu {s : Mg σ β} {gs : List (Grp σ)} {a b : Int} {c : List σ} (hab : a < b) (hi : InvG put s gs a) :
    ∃ gs',InvG put (addM put s a b c) gs' b∧∀ x,secG (gs' ++ curG (addM put s a b c)) x = if a≤x∧x < b then c else secG (gs ++ curG s) x:=by
  rcases q48 put s a b c with ⟨h1,h2,h3,h4⟩ | ⟨h1,h4⟩
  · rw [h4]
    have hs : s.sec≠[]:=h2 ▸ h1
    have c1 : curG s = [⟨s.lo,s.hi,s.sec⟩]:=by unfold curG;rw [if_neg hs]
    have c2 : curG (⟨s.done,s.sec,s.lo,b⟩ : Mg σ β) = [⟨s.lo,b,s.sec⟩]:=by unfold curG;rw [if_neg hs]
    have hcan:=hi.can
    rw [c1] at hcan
    have hlo : s.lo < s.hi:=(hcan.1 ⟨s.lo,s.hi,s.sec⟩ qf).1
    refine ⟨gs,⟨hi.done,?_,?_,fun h=>absurd h hs⟩,?_⟩
    · rw [c2]
      refine ⟨fun g hg=>?_,?_⟩
      · rcases List.mem_append.1 hg with hg | hg
        · exact hcan.1 g (by simp [hg])
        · obtain rfl:=List.mem_singleton.1 hg;exact ⟨by simp only;omega,hs⟩
      · have:=List.pairwise_append.1 hcan.2
        refine List.pairwise_append.2 ⟨this.1,qf,fun g hg k hk=>?_⟩
        obtain rfl:=List.mem_singleton.1 hk
        exact this.2.2 g hg ⟨s.lo,s.hi,s.sec⟩ qf
    · rw [c2]
      intro g hg
      rcases List.mem_append.1 hg with hg | hg
      · have:=hi.le g (by simp [hg]);omega
      · obtain rfl:=List.mem_singleton.1 hg;exact Int.le_refl _
    · intro x
      rw [c1,c2]
      have hg0 : ∀ g∈gs,g.hi≤s.lo:=fun g hg=>((List.pairwise_append.1 hcan.2).2.2 g hg ⟨s.lo,s.hi,s.sec⟩ qf).1
      have hgn : ∀ g∈gs,g.sec≠[]:=fun g hg=>(hcan.1 g (by simp [hg])).2
      by_cases hx : x < s.lo
      · rw [if_neg q7,qf6 (y:=s.lo) qf hx,qf6 (y:=s.lo) qf hx]
      · have e : secG gs x = []:=q5n hg0 q7
        rw [q8a e hgn,q8a e hgn]
        simp only [secG]
        by_cases hx2 : x < s.hi
        · rw [if_pos ⟨q7,q7⟩,if_neg q7,if_pos ⟨q7,hx2⟩]
        · by_cases hx3 : x < b
          · rw [if_pos ⟨q7,hx3⟩,if_pos ⟨q7,hx3⟩,h2]
          · rw [if_neg q7,if_neg q7,if_neg q7]
  · rw [h4]
    have hd : s.flat put = Kp put (gs ++ curG s):=qi3 put s gs hi.done
    refine ⟨gs ++ curG s,⟨hd,?_,?_,?_⟩,?_⟩
    · by_cases hc : c = []
      · have : curG (⟨s.flat put,c,a,b⟩ : Mg σ β) = []:=by unfold curG;rw [if_pos hc]
        rw [this,List.append_nil];exact hi.can
      · have : curG (⟨s.flat put,c,a,b⟩ : Mg σ β) = [⟨a,b,c⟩]:=by unfold curG;rw [if_neg hc]
        rw [this]
        refine ⟨fun g hg=>?_,List.pairwise_append.2 ⟨hi.can.2,qf,fun g hg k hk=>?_⟩⟩
        · rcases List.mem_append.1 hg with hg | hg
          · exact hi.can.1 g hg
          · obtain rfl:=List.mem_singleton.1 hg;exact ⟨hab,hc⟩
        · obtain rfl:=List.mem_singleton.1 hk
          refine ⟨hi.le g hg,fun he hsec=>?_⟩
          rcases List.mem_append.1 hg with hg' | hg'
          · by_cases hs : s.sec = []
            · exact hi.gap hs g hg' he
            · have h5 : (⟨s.lo,s.hi,s.sec⟩ : Grp σ)∈curG s:=by unfold curG;rw [if_neg hs];simp
              have h6:=((List.pairwise_append.1 hi.can.2).2.2 g hg' _ h5).1
              have h7:=(hi.can.1 _ (List.mem_append.2 (.inr h5))).1
              have h8:=hi.le _ (List.mem_append.2 (.inr h5))
              simp only at he h6 h7 h8
              omega
          · obtain ⟨hs,rfl⟩:=qay hg'
            exact h1 ⟨hc,hsec.symm,he⟩
    · intro g hg
      rcases List.mem_append.1 hg with hg | hg
      · have:=hi.le g hg;omega
      · obtain ⟨_,rfl⟩:=qay hg;exact Int.le_refl _
    · intro hc g hg he
      have:=hi.le g hg;omega
    · intro x
      by_cases hx : a≤x∧x < b
      · rw [if_pos hx,q8a (q5n hi.le hx.1) fun g hg=>(hi.can.1 g hg).2]
        unfold curG
        split
        · rename_i hc;simp only at hc;rw [hc];rfl
        · simp only [secG];rw [if_pos hx]
      · rw [if_neg hx]
        by_cases hxa : x < a
        · exact qf6 (y:=a) (fun g hg=>by obtain ⟨_,rfl⟩:=qay hg;exact Int.le_refl _) hxa
        · have e:=q5n (x:=x) hi.le q7
          rw [q8a e fun g hg=>(hi.can.1 g hg).2,e]
          exact q5n (y:=b) (fun g hg=>by obtain ⟨_,rfl⟩:=qay hg;exact Int.le_refl _) q7
theorem ql8 (sec : Int→List σ) : ∀ (cuts : List Int) (c : Int) (s : Mg σ β) (gs : List (Grp σ)),(c::cuts).Pairwise (· < ·)→InvG put s gs c→
    ∃ gs',(runM put sec s (c::cuts)).flat put = Kp put gs'∧CanG gs'∧∀ x,secG gs' x = if x < c then secG (gs ++ curG s) x else secC sec (c::cuts) x
  | [],c,s,gs,_,hi=>by
    refine ⟨gs ++ curG s,qi3 put s gs hi.done,hi.can,fun x=>?_⟩
    by_cases hx : x < c
    · rw [if_pos hx]
    · rw [if_neg hx];exact q5n hi.le q7
  | b::cuts,a,s,gs,hp,hi=>by
    have hab : a < b:=(List.pairwise_cons.1 hp).1 b qf
    obtain ⟨gs',hi',hs'⟩:=qqu (b:=b) (c:=sec a) put hab hi
    obtain ⟨gs2,e1,e2,e3⟩:=ql8 sec cuts b _ gs' (List.pairwise_cons.1 hp).2 hi'
    refine ⟨gs2,e1,e2,fun x=>?_⟩
    rw [e3 x]
    by_cases hx : x < a
    · rw [if_pos q7,if_pos hx,hs',if_neg q7]
    · rw [if_neg hx]
      simp only [secC]
      by_cases hxb : x < b
      · rw [if_pos hxb,hs',if_pos ⟨q7,hxb⟩,if_pos ⟨q7,hxb⟩]
      · rw [if_neg hxb,if_neg q7]
theorem qjs (sec : Int→List σ) {cuts : List Int} (hc : cuts.Pairwise (· < ·)) :
    ∃ gs,(Qo put Qn (Yk cuts sec)).flat put = Kp put gs∧CanG gs∧∀ x,secG gs x = secC sec cuts x:=by
  rw [qi6]
  cases cuts with
  | nil=>exact ⟨[],rfl,⟨qf,qf⟩,fun x=>rfl⟩
  | cons c cuts=>
    obtain ⟨gs,e1,e2,e3⟩:=ql8 put sec cuts c (Qn : Mg σ β) [] hc ⟨rfl,⟨by simp [curG,Qn],by simp [curG,Qn]⟩,by simp [curG,Qn],qf⟩
    refine ⟨gs,e1,e2,fun x=>?_⟩
    rw [e3 x]
    split
    · rename_i hx
      have : ∀ (cuts : List Int) (c : Int),(c::cuts).Pairwise (· < ·)→x < c→secC sec (c::cuts) x = []:=by
        intro cuts
        induction cuts with
        | nil=>intros;rfl
        | cons b r ih=>
          intro c hp hx
          rw [secC,if_neg q7]
          exact ih b (List.pairwise_cons.1 hp).2 (by have:=(List.pairwise_cons.1 hp).1 b qf;omega)
      rw [this cuts c hc hx];rfl
    · rfl
end
end Go.Sh
namespace Go.Sh
open Go Go.Am
section
variable {σ : Type}
theorem qf8 {x : Int} : ∀ (gs : List (Grp σ)),secG gs x = []∨∃ g∈gs,g.lo≤x∧x < g.hi∧secG gs x = g.sec
  | []=>.inl rfl
  | g::r=>by
    by_cases hx : g.lo≤x∧x < g.hi
    · exact .inr ⟨g,qf,hx.1,hx.2,by rw [secG,if_pos hx]⟩
    · rw [secG,if_neg hx]
      rcases qf8 r with h | ⟨k,hk,h⟩
      · exact .inl h
      · exact .inr ⟨k,by simp [hk],h⟩
theorem qf7 : ∀ {gs : List (Grp σ)},CanG gs→∀ g∈gs,∀ x,g.lo≤x→x < g.hi→secG gs x = g.sec
  | k::r,h,g,hg,x,h1,h2=>by
    rcases List.mem_cons.1 hg with rfl | hg
    · exact q2p h1 h2
    · have:=(h.nxt g hg).1
      rw [secG,if_neg q7]
      exact qf7 h.tail g hg x h1 h2
end
theorem qj7 (kind : Int) : Zf kind [] [] = []:=by
  have hj:=(q4s kind [] [] qf qf).2
  refine q4d hj.can ⟨qf,qf⟩ fun x=>?_
  rw [hj.pts]
  have:=q1d x
  unfold Ky;simp [this]
theorem qpa (a b : List ql) (x : Int) : covS (a ++ b) x = covS a x ++ covS b x:=by simp [covS]
theorem qpb (s : List qm) (lo hi x : Int) : covS (s.map (putR lo hi)) x = if lo≤x∧x < hi then s else []:=by
  induction s with
  | nil=>simp [covS]
  | cons t s ih=>
    have e : covS (List.map (putR lo hi) (t::s)) x = (if covR x (putR lo hi t) = true then [t] else []) ++ covS (s.map (putR lo hi)) x:=rfl
    rw [e,ih]
    have : covR x (putR lo hi t) = (decide (lo≤x) && decide (x < hi)):=rfl
    rw [this]
    by_cases h1 : lo≤x <;> by_cases h2 : x < hi <;> simp [h1,h2]
theorem q77 : ∀ {gs : List (Grp qm)},CanG gs→∀ x,covS (Kp putR gs) x = secG gs x
  | [],_,x=>rfl
  | g::r,h,x=>by
    have e : Kp putR (g::r) = g.sec.map (putR g.lo g.hi) ++ Kp putR r:=rfl
    rw [e,qpa,qpb,q77 h.tail x]
    by_cases hx : g.lo≤x∧x < g.hi
    · rw [if_pos hx,secG,if_pos hx,q2q (y:=g.hi) (fun m hm=>(h.nxt m hm).1) hx.2,List.append_nil]
    · rw [if_neg hx,secG,if_neg hx,List.nil_append]
theorem qhc {l : List ql} {a x : Int} (h : ∀ r∈l,covR a r = covR x r) : covS l a = covS l x:=by
  induction l with
  | nil=>rfl
  | cons r l ih=>
    have e : ∀ y,covS (r::l) y = (if covR y r = true then [ysp r] else []) ++ covS l y:=fun _=>rfl
    rw [e,e,h r qf,ih fun k hk=>h k (by simp [hk])]
theorem qa9 {l : List ql} {x : Int} (h : ∀ r∈l,covR x r = false) : covS l x = []:=by
  induction l with
  | nil=>rfl
  | cons r l ih=>
    have e : covS (r::l) x = (if covR x r = true then [ysp r] else []) ++ covS l x:=rfl
    rw [e,h r qf,ih fun k hk=>h k (by simp [hk])];rfl
theorem q4g {x : Int} {r : ql} : covR x r = true↔r.X0≤x∧x < r.X1:=by simp [covR]
theorem qjq {p q : List ql} {r : ql} (h : r∈p∨r∈q) : r.X0∈xsOf p ++ xsOf q∧r.X1∈xsOf p ++ xsOf q:=by
  unfold xsOf
  simp only [List.mem_append,List.mem_flatMap]
  rcases h with h | h
  · exact ⟨.inl ⟨r,h,qf⟩,.inl ⟨r,h,qf⟩⟩
  · exact ⟨.inr ⟨r,h,qf⟩,.inr ⟨r,h,qf⟩⟩
theorem qju (kind : Int) {p q : List ql} (h : p.length + q.length≤100000) :
    ∃ gs,mrgR kind p q = Kp putR gs∧CanG gs∧∀ x,secG gs x = secJ kind p q x:=by
  have l1:=q1v p
  have l2:=q1v q
  have hs:=(Uy (l:=xsOf p ++ xsOf q) (by simp;omega)).2.1
  obtain ⟨gs,e1,e2,e3⟩:=qjs putR (secJ kind p q) hs.1
  refine ⟨gs,e1,e2,fun x=>?_⟩
  rw [e3]
  have hm : ∀ r,(r∈p∨r∈q)→r.X0∈Qu (xsOf p ++ xsOf q)∧r.X1∈Qu (xsOf p ++ xsOf q):=fun r hr=>
    ⟨(hs.2 _).2 (qjq hr).1,(hs.2 _).2 (qjq hr).2⟩
  refine qbk _ hs.1 (fun a _ hax hall=>?_) (fun hall=>?_) (fun hall=>?_)
  · have hc : ∀ r,(r∈p∨r∈q)→covR a r = covR x r:=fun r hr=>by
      have h1:=hall _ (hm r hr).1
      have h2:=hall _ (hm r hr).2
      rw [Bool.eq_iff_iff,q4g,q4g];omega
    unfold secJ
    rw [qhc fun r hr=>hc r (.inl hr),qhc fun r hr=>hc r (.inr hr)]
  · have hc : ∀ r,(r∈p∨r∈q)→covR x r = false:=fun r hr=>by
      have h1:=hall _ (hm r hr).1
      rw [← Bool.not_eq_true,q4g];omega
    unfold secJ
    rw [qa9 fun r hr=>hc r (.inl hr),qa9 fun r hr=>hc r (.inr hr),qj7]
  · have hc : ∀ r,(r∈p∨r∈q)→covR x r = false:=fun r hr=>by
      have h1:=hall _ (hm r hr).2
      rw [← Bool.not_eq_true,q4g];omega
    unfold secJ
    rw [qa9 fun r hr=>hc r (.inl hr),qa9 fun r hr=>hc r (.inr hr),qj7]
def CanR (l : List ql) : Prop:=∃ gs : List (Grp qm),l = Kp putR gs∧CanG gs∧∀ g∈gs,Can g.sec
theorem qo3 : Can []:=⟨qf,qf⟩
theorem CanR.nil : CanR []:=⟨[],rfl,⟨qf,qf⟩,qf⟩
theorem CanR.cov {l : List ql} (h : CanR l) (x : Int) : Can (covS l x):=by
  obtain ⟨gs,rfl,h1,h2⟩:=h
  rw [q77 h1]
  rcases qf8 (x:=x) gs with e | ⟨g,hg,_,_,e⟩
  · rw [e];exact qo3
  · rw [e];exact h2 g hg
theorem qd4 {a b : List ql} (ha : CanR a) (hb : CanR b) (h : ∀ x y,hasR a x y↔hasR b x y) : a = b:=by
  have hc : ∀ x,covS a x = covS b x:=fun x=>q4d (ha.cov x) (hb.cov x) fun y=>by rw [q4n,q4n];exact h x y
  obtain ⟨ga,rfl,h1,_⟩:=ha
  obtain ⟨gb,rfl,h2,_⟩:=hb
  rw [qd3 h1 h2 fun x=>by rw [← q77 h1,← q77 h2];exact hc x]
theorem qle (kind : Int) {p q : List ql} (h : p.length + q.length≤100000) (x : Int) : qcq kind (covS p x) (covS q x) (secJ kind p q x):=by
  have h1:=q1y p x
  have h2:=q1y q x
  exact (q4s kind (covS p x) (covS q x) q7 q7).2
theorem qb2 (kind : Int) {p q : List ql} (h : p.length + q.length≤100000) : CanR (mrgR kind p q):=by
  obtain ⟨gs,e1,e2,e3⟩:=qju kind h
  refine ⟨gs,e1,e2,fun g hg=>?_⟩
  have:=e3 g.lo
  rw [qf7 e2 g hg _ (Int.le_refl _) (e2.1 g hg).1] at this
  rw [this];exact (qle kind h _).can
theorem qhd (kind : Int) {p q : List ql} (h : p.length + q.length≤100000) (x : Int) : covS (mrgR kind p q) x = secJ kind p q x:=by
  obtain ⟨gs,e1,e2,e3⟩:=qju kind h
  rw [e1,q77 e2,e3]
theorem qaq (kind : Int) {p q : List ql} (h : p.length + q.length≤100000) (x y : Int) : hasR (mrgR kind p q) x y↔Ky kind (hasR p x y) (hasR q x y):=by
  rw [← q4n,qhd kind h,(qle kind h x).pts,q4n,q4n]
theorem qdt (x y : Int) : ¬ hasR [] x y:=by rintro ⟨r,h,_⟩;cases h
theorem qar {a b : Prop} : Ky 2 a b↔a∨b:=by unfold Ky;simp
theorem qqk {a b : Prop} : Ky 1 a b↔a∧b:=by unfold Ky;simp
theorem qqh {l : List ql} (h : l.length≤100000) (x y : Int) : hasR (mrgR 2 l []) x y↔hasR l x y:=by
  rw [qaq 2 (by simpa using h),qar];simp [qdt]
theorem qjw {l : List ql} (hl : l.length≤100000) (h : CanR l) : mrgR 2 l [] = l:=
  qd4 (qb2 2 (by simpa using hl)) h fun x y=>qqh hl x y
theorem qjo {σ β : Type} {put : Int→Int→σ→β} {gs : List (Grp σ)} {r : β} : r∈Kp put gs↔∃ g∈gs,∃ t∈g.sec,r = put g.lo g.hi t:=by
  unfold Kp
  simp only [List.mem_flatMap,List.mem_map]
  exact ⟨fun ⟨g,hg,t,ht,e⟩=>⟨g,hg,t,ht,e.symm⟩,fun ⟨g,hg,t,ht,e⟩=>⟨g,hg,t,ht,e.symm⟩⟩
theorem CanR.lt {l : List ql} (h : CanR l) : ∀ r∈l,r.X0 < r.X1∧r.Y0 < r.Y1:=by
  obtain ⟨gs,rfl,h1,h2⟩:=h
  intro r hr
  obtain ⟨g,hg,t,ht,rfl⟩:=qjo.1 hr
  exact ⟨(h1.1 g hg).1,(h2 g hg).1 t ht⟩
def InR (l : List ql) : Prop:=∀ x y,hasR l x y→(-1000000≤x∧x < 1000000)∧(-1000000≤y∧y < 1000000)
theorem CanR.vR {l : List ql} (h : CanR l) (hi : InR l) : ∀ r∈l,vR r:=by
  intro r hr
  have h1:=h.lt r hr
  have h2:=hi r.X0 r.Y0 ⟨r,hr,q7⟩
  have h3:=hi (r.X1 - 1) (r.Y1 - 1) ⟨r,hr,q7⟩
  unfold Go.Sh.vR;omega
theorem InR.mrg {kind : Int} {p q : List ql} (h : p.length + q.length≤100000) (hp : InR p) (hq : InR q) : InR (mrgR kind p q):=fun x y hh=>by
  rcases qj0 ((qaq kind h x y).1 hh) with h1 | h1
  · exact hp x y h1
  · exact hq x y h1
theorem InR.nil : InR []:=fun x y h=>absurd h (qdt x y)
theorem q35 {l : List ql} : Kh l = 0↔l.length≤400∧(∀ r∈l,vR r)∧CanR l:=by
  constructor
  · intro h
    obtain ⟨h1,h2,h3⟩:=qgv h
    exact ⟨h1,h2,h3 ▸ qb2 2 (by simp;omega)⟩
  · rintro ⟨h1,h2,h3⟩
    unfold Kh
    rw [if_neg q7,if_pos h2,if_pos (qjw q7 h3)]
end Go.Sh
namespace Go.Sh
open Go Go.Am
def hasB (l : List qk) (x y z : Int) : Prop:=∃ b∈l,(b.Lo.X≤x∧x < b.Hi.X)∧(b.Lo.Y≤y∧y < b.Hi.Y)∧(b.Lo.Z≤z∧z < b.Hi.Z)
theorem q1x {z : Int} {b : qk} : covB z b = true↔b.Lo.Z≤z∧z < b.Hi.Z:=by simp [covB]
theorem qe6 {l : List qk} {z : Int} {r : ql} : r∈atB l z↔∃ b∈l,(b.Lo.Z≤z∧z < b.Hi.Z)∧r = J7 b:=by
  unfold atB
  rw [List.mem_flatMap]
  constructor
  · rintro ⟨b,hb,h⟩
    split at h
    · rename_i hc;exact ⟨b,hb,q1x.1 hc,by simpa using h⟩
    · cases h
  · rintro ⟨b,hb,hc,rfl⟩
    exact ⟨b,hb,by rw [if_pos (q1x.2 hc)];simp⟩
theorem q3d {l : List qk} {x y z : Int} : hasR (atB l z) x y↔hasB l x y z:=by
  constructor
  · rintro ⟨r,hr,h1,h2,h3,h4⟩
    obtain ⟨b,hb,hz,rfl⟩:=qe6.1 hr
    exact ⟨b,hb,⟨h1,h2⟩,⟨h3,h4⟩,hz⟩
  · rintro ⟨b,hb,⟨h1,h2⟩,⟨h3,h4⟩,hz⟩
    exact ⟨J7 b,qe6.2 ⟨b,hb,hz,rfl⟩,h1,h2,h3,h4⟩
theorem q7n (x y z : Int) : ¬ hasB [] x y z:=by rintro ⟨r,h,_⟩;cases h
theorem qnr (a b : List qk) (z : Int) : atB (a ++ b) z = atB a z ++ atB b z:=by simp [atB]
theorem qns (s : List ql) (lo hi z : Int) : atB (s.map (putB lo hi)) z = if lo≤z∧z < hi then s else []:=by
  induction s with
  | nil=>simp [atB]
  | cons t s ih=>
    have e : atB (List.map (putB lo hi) (t::s)) z = (if covB z (putB lo hi t) = true then [t] else []) ++ atB (s.map (putB lo hi)) z:=rfl
    rw [e,ih]
    have : covB z (putB lo hi t) = (decide (lo≤z) && decide (z < hi)):=rfl
    rw [this]
    by_cases h1 : lo≤z <;> by_cases h2 : z < hi <;> simp [h1,h2]
theorem q71 : ∀ {gs : List (Grp ql)},CanG gs→∀ z,atB (Kp putB gs) z = secG gs z
  | [],_,z=>rfl
  | g::r,h,z=>by
    have e : Kp putB (g::r) = g.sec.map (putB g.lo g.hi) ++ Kp putB r:=rfl
    rw [e,qnr,qns,q71 h.tail z]
    by_cases hx : g.lo≤z∧z < g.hi
    · rw [if_pos hx,secG,if_pos hx,q2q (y:=g.hi) (fun m hm=>(h.nxt m hm).1) hx.2,List.append_nil]
    · rw [if_neg hx,secG,if_neg hx,List.nil_append]
theorem qgg {l : List qk} {a x : Int} (h : ∀ r∈l,covB a r = covB x r) : atB l a = atB l x:=by
  induction l with
  | nil=>rfl
  | cons r l ih=>
    have e : ∀ y,atB (r::l) y = (if covB y r = true then [J7 r] else []) ++ atB l y:=fun _=>rfl
    rw [e,e,h r qf,ih fun k hk=>h k (by simp [hk])]
theorem qa1 {l : List qk} {x : Int} (h : ∀ r∈l,covB x r = false) : atB l x = []:=by
  induction l with
  | nil=>rfl
  | cons r l ih=>
    have e : atB (r::l) x = (if covB x r = true then [J7 r] else []) ++ atB l x:=rfl
    rw [e,h r qf,ih fun k hk=>h k (by simp [hk])];rfl
theorem qjr {p q : List qk} {r : qk} (h : r∈p∨r∈q) : r.Lo.Z∈zsOf p ++ zsOf q∧r.Hi.Z∈zsOf p ++ zsOf q:=by
  unfold zsOf
  simp only [List.mem_append,List.mem_flatMap]
  rcases h with h | h
  · exact ⟨.inl ⟨r,h,qf⟩,.inl ⟨r,h,qf⟩⟩
  · exact ⟨.inr ⟨r,h,qf⟩,.inr ⟨r,h,qf⟩⟩
theorem qjv (kind : Int) : mrgR kind [] [] = []:=by
  refine qd4 (qb2 kind qf) .nil fun x y=>?_
  rw [qaq kind qf]
  have:=qdt x y
  unfold Ky;simp [this]
theorem qjt (kind : Int) {p q : List qk} (h : p.length + q.length≤100000) :
    ∃ gs,mrgB kind p q = Kp putB gs∧CanG gs∧∀ z,secG gs z = secB kind p q z:=by
  have l1:=q2z p
  have l2:=q2z q
  have hs:=(Uy (l:=zsOf p ++ zsOf q) (by simp;omega)).2.1
  obtain ⟨gs,e1,e2,e3⟩:=qjs putB (secB kind p q) hs.1
  refine ⟨gs,e1,e2,fun x=>?_⟩
  rw [e3]
  have hm : ∀ r,(r∈p∨r∈q)→r.Lo.Z∈Qu (zsOf p ++ zsOf q)∧r.Hi.Z∈Qu (zsOf p ++ zsOf q):=fun r hr=>
    ⟨(hs.2 _).2 (qjr hr).1,(hs.2 _).2 (qjr hr).2⟩
  refine qbk _ hs.1 (fun a _ hax hall=>?_) (fun hall=>?_) (fun hall=>?_)
  · have hc : ∀ r,(r∈p∨r∈q)→covB a r = covB x r:=fun r hr=>by
      have h1:=hall _ (hm r hr).1
      have h2:=hall _ (hm r hr).2
      rw [Bool.eq_iff_iff,q1x,q1x];omega
    unfold secB
    rw [qgg fun r hr=>hc r (.inl hr),qgg fun r hr=>hc r (.inr hr)]
  · have hc : ∀ r,(r∈p∨r∈q)→covB x r = false:=fun r hr=>by
      have h1:=hall _ (hm r hr).1
      rw [← Bool.not_eq_true,q1x];omega
    unfold secB
    rw [qa1 fun r hr=>hc r (.inl hr),qa1 fun r hr=>hc r (.inr hr),qjv]
  · have hc : ∀ r,(r∈p∨r∈q)→covB x r = false:=fun r hr=>by
      have h1:=hall _ (hm r hr).2
      rw [← Bool.not_eq_true,q1x];omega
    unfold secB
    rw [qa1 fun r hr=>hc r (.inl hr),qa1 fun r hr=>hc r (.inr hr),qjv]
def CanB (l : List qk) : Prop:=∃ gs : List (Grp ql),l = Kp putB gs∧CanG gs∧∀ g∈gs,CanR g.sec
theorem CanB.nil : CanB []:=⟨[],rfl,⟨qf,qf⟩,qf⟩
theorem CanB.at {l : List qk} (h : CanB l) (z : Int) : CanR (atB l z):=by
  obtain ⟨gs,rfl,h1,h2⟩:=h
  rw [q71 h1]
  rcases qf8 (x:=z) gs with e | ⟨g,hg,_,_,e⟩
  · rw [e];exact .nil
  · rw [e];exact h2 g hg
theorem qgp {a b : List qk} (ha : CanB a) (hb : CanB b) (h : ∀ x y z,hasB a x y z↔hasB b x y z) : a = b:=by
  have hc : ∀ z,atB a z = atB b z:=fun z=>qd4 (ha.at z) (hb.at z) fun x y=>by rw [q3d,q3d];exact h x y z
  obtain ⟨ga,rfl,h1,_⟩:=ha
  obtain ⟨gb,rfl,h2,_⟩:=hb
  rw [qd3 h1 h2 fun x=>by rw [← q71 h1,← q71 h2];exact hc x]
theorem qgi {p q : List qk} (h : p.length + q.length≤100000) (z : Int) : (atB p z).length + (atB q z).length≤100000:=by
  have:=q4a p z;have:=q4a q z;omega
theorem qeb (kind : Int) {p q : List qk} (h : p.length + q.length≤100000) : CanB (mrgB kind p q):=by
  obtain ⟨gs,e1,e2,e3⟩:=qjt kind h
  refine ⟨gs,e1,e2,fun g hg=>?_⟩
  have:=e3 g.lo
  rw [qf7 e2 g hg _ (Int.le_refl _) (e2.1 g hg).1] at this
  rw [this];exact qb2 kind (qgi h _)
theorem qgh (kind : Int) {p q : List qk} (h : p.length + q.length≤100000) (z : Int) : atB (mrgB kind p q) z = secB kind p q z:=by
  obtain ⟨gs,e1,e2,e3⟩:=qjt kind h
  rw [e1,q71 e2,e3]
theorem qds (kind : Int) {p q : List qk} (h : p.length + q.length≤100000) (x y z : Int) : hasB (mrgB kind p q) x y z↔Ky kind (hasB p x y z) (hasB q x y z):=by
  rw [← q3d,qgh kind h,secB,qaq kind (qgi h z),q3d,q3d]
theorem qqg {l : List qk} (h : l.length≤100000) (x y z : Int) : hasB (mrgB 2 l []) x y z↔hasB l x y z:=by
  rw [qds 2 (by simpa using h),qar];simp [q7n]
theorem qrg {l : List qk} (hl : l.length≤100000) (h : CanB l) : mrgB 2 l [] = l:=
  qgp (qeb 2 (by simpa using hl)) h fun x y z=>qqg hl x y z
theorem CanB.lt {l : List qk} (h : CanB l) : ∀ b∈l,b.Lo.X < b.Hi.X∧b.Lo.Y < b.Hi.Y∧b.Lo.Z < b.Hi.Z:=by
  obtain ⟨gs,rfl,h1,h2⟩:=h
  intro r hr
  obtain ⟨g,hg,t,ht,rfl⟩:=qjo.1 hr
  have:=(h2 g hg).lt t ht
  exact ⟨this.1,this.2,(h1.1 g hg).1⟩
def vB (b : qk) : Prop:=(b.Lo.X < b.Hi.X∧b.Lo.Y < b.Hi.Y∧b.Lo.Z < b.Hi.Z)∧(-1000000≤b.Lo.X∧-1000000≤b.Lo.Y∧-1000000≤b.Lo.Z)∧b.Hi.X≤1000000∧b.Hi.Y≤1000000∧b.Hi.Z≤1000000
instance (b : qk) : Decidable (vB b):=by unfold vB;infer_instance
def InB (l : List qk) : Prop:=∀ x y z,hasB l x y z→(-1000000≤x∧x < 1000000)∧(-1000000≤y∧y < 1000000)∧(-1000000≤z∧z < 1000000)
theorem CanB.vB {l : List qk} (h : CanB l) (hi : InB l) : ∀ r∈l,vB r:=by
  intro r hr
  have h1:=h.lt r hr
  have h2:=hi r.Lo.X r.Lo.Y r.Lo.Z ⟨r,hr,q7⟩
  have h3:=hi (r.Hi.X - 1) (r.Hi.Y - 1) (r.Hi.Z - 1) ⟨r,hr,q7⟩
  unfold Go.Sh.vB;omega
theorem InB.mrg {kind : Int} {p q : List qk} (h : p.length + q.length≤100000) (hp : InB p) (hq : InB q) : InB (mrgB kind p q):=fun x y z hh=>by
  rcases qj0 ((qds kind h x y z).1 hh) with h1 | h1
  · exact hp x y z h1
  · exact hq x y z h1
theorem InB.nil : InB []:=fun x y z h=>absurd h (q7n x y z)
theorem qmt {l : List qk} (h : ∀ b∈l,vB b) (z : Int) : ∀ r∈atB l z,vR r:=by
  intro r hr
  obtain ⟨b,hb,_,rfl⟩:=qe6.1 hr
  have:=h b hb
  unfold vB at this;unfold vR J7;simp only;omega
theorem InB.at {l : List qk} (h : InB l) (z : Int) : InR (atB l z):=fun x y hh=>by
  have:=h x y z (q3d.1 hh);exact ⟨this.1,this.2.1⟩
noncomputable def K7 (l : List qk) : Int:=if 400 < l.length then 4 else if ∀ b∈l,vB b then (if mrgB 2 l [] = l then 0 else 8) else 8
theorem Zv {l : List qk} : K7 l = 0↔l.length≤400∧(∀ b∈l,vB b)∧CanB l:=by
  unfold K7
  constructor
  · intro h
    split at h
    · exact absurd h qt
    · rename_i h1
      split at h
      · rename_i h2
        split at h
        · rename_i h3
          exact ⟨q7,h2,h3 ▸ qeb 2 (by simp;omega)⟩
        · exact absurd h qt
      · exact absurd h qt
  · rintro ⟨h1,h2,h3⟩
    rw [if_neg q7,if_pos h2,if_pos (qrg q7 h3)]
theorem qvn (kind : Int) {p q : List qk} (h : p.length + q.length≤100000) (z : Int) : (secB kind p q z).length≤(mrgB kind p q).length:=by
  rw [← qgh kind h];exact q4a _ _
theorem qvp (kind : Int) {p q : List ql} (h : p.length + q.length≤100000) (x : Int) : (secJ kind p q x).length≤(mrgR kind p q).length:=by
  rw [← qhd kind h];exact q1y _ _
noncomputable def mkB (l : List qk) : List qk × Int:=if 400 < l.length then ([],4) else if ∀ b∈l,vB b then (if 400 < (mrgB 2 l []).length then ([],4) else (mrgB 2 l [],0)) else ([],8)
noncomputable def jB (kind : Int) (p q : List qk) : List qk × Int:=
  if K7 p≠0 then ([],K7 p) else if K7 q≠0 then ([],K7 q) else if 400 < (mrgB kind p q).length then ([],4) else (mrgB kind p q,0)
noncomputable def mkR (l : List ql) : List ql × Int:=if 400 < l.length then ([],4) else if ∀ b∈l,vR b then (if 400 < (mrgR 2 l []).length then ([],4) else (mrgR 2 l [],0)) else ([],8)
noncomputable def jR (kind : Int) (p q : List ql) : List ql × Int:=
  if Kh p≠0 then ([],Kh p) else if Kh q≠0 then ([],Kh q) else if 400 < (mrgR kind p q).length then ([],4) else (mrgR kind p q,0)
end Go.Sh
