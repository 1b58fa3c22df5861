/- Po1 Pt1 Pt2 Pt3 Pt4 Pt5 Pt6 Pt7 Qa1 -/
import Derived.Test.YtmekakoiicomaaaGreatK10
set_option maxHeartbeats 4000000
namespace Go.Sh
open Go Go.Am
def sg (a b : Int) : Int:=if a < b then -1 else 0
theorem J7 {a b : Int} : decide (sg a b < 0) = decide (a < b):=by
  unfold sg;by_cases h : a < b <;> simp [h]
def qO (a b : Int) : Option Int:=some (sg a b)
theorem Jr (a b : Int) : qO a b = some (sg a b):=rfl
theorem Jo (a b : Int) : Z5 a b = some (decide (a < b)):=by
  unfold Z5 q8u;have : (a != a) = false:=by simp
  simp []
theorem q137 : qcd = q41:=rfl
theorem q11a : (fun a=>q1x a) = (fun a=>q2d a):=by
  funext a;simp only [q1x,q2d,q137]
  all_goals exact Qs
theorem q11b  : ∀ a,q1x a = q2d a:=fun a=>(congrFun q11a a)
theorem q119 : (fun a=>Jp a) = (fun a=>Ur a):=by
  funext a;simp only [Jp,Ur,q11b]
  all_goals exact Qs
theorem qo1  : ∀ a,Jp a = Ur a:=fun a=>(congrFun q119 a)
theorem q11u : (fun a=>q7k a) = (fun a=>Jj a qO):=by
  funext a a443;simp only [q7k,Jj,Jo,Jr,qj,J7]
  all_goals exact Qs
theorem q11v  : ∀ a,q7k a = Jj a qO:=fun a=>(congrFun q11u a)
theorem q11s : (fun p2 a=>q7j p2 a) = (fun p2 a=>Uw p2 a qO):=by
  funext p2 a a270;simp only [q7j,Uw,q11v]
  all_goals exact Qs
theorem q11t  : ∀ p2 a,q7j p2 a = Uw p2 a qO:=fun p2 a=>(congrFun (congrFun q11s p2) a)
theorem q11q : (fun b a p2=>q7i b a p2) = (fun b a p2=>q1o qO b a p2):=by
  funext b a p2;simp only [q7i,q1o,q11t]
  all_goals exact Qs
theorem q11r  : ∀ b a p2,q7i b a p2 = q1o qO b a p2:=fun b a p2=>(congrFun (congrFun (congrFun q11q b) a) p2)
theorem q135 : (fun p2 p3=>q8d p2 p3) = (fun p2 p3=>Jm p2 p3 qO):=by
  funext p2 p3 a193;simp only [q8d,Jm,Jo,Jr,qj,J7]
  all_goals exact Qs
theorem q136  : ∀ p2 p3,q8d p2 p3 = Jm p2 p3 qO:=fun p2 p3=>(congrFun (congrFun q135 p2) p3)
theorem q134 : (fun b a p2 p3=>q59 b a p2 p3) = (fun b a p2 p3=>U8 qO b a p2 p3):=by
  funext b a p2 p3;simp only [q59,U8,q136]
  all_goals exact Qs
theorem qo3  : ∀ b a p2 p3,q59 b a p2 p3 = U8 qO b a p2 p3:=fun b a p2 p3=>(congrFun (congrFun (congrFun (congrFun q134 b) a) p2) p3)
theorem q11m : (fun p2 a=>q7g p2 a) = (fun p2 a=>Uu qO p2 a):=by
  funext p2 a a123;simp only [q7g,Uu,qo3]
  all_goals exact Qs
theorem q11n  : ∀ p2 a,q7g p2 a = Uu qO p2 a:=fun p2 a=>(congrFun (congrFun q11m p2) a)
theorem q11o : (fun a=>q7h a) = (fun a=>Uv a qO):=by
  funext a a191;simp only [q7h,Uv,qo3]
  all_goals exact Qs
theorem q11p  : ∀ a,q7h a = Uv a qO:=fun a=>(congrFun q11o a)
theorem q11k : (fun b a p2=>q7f b a p2) = (fun b a p2=>q1n qO b a p2):=by
  funext b a p2;simp only [q7f,q1n,q11n,q11p]
  all_goals exact Qs
theorem q11l  : ∀ b a p2,q7f b a p2 = q1n qO b a p2:=fun b a p2=>(congrFun (congrFun (congrFun q11k b) a) p2)
theorem q11z : (fun a=>Uk a) = (fun a=>q1p a):=by
  funext a;simp only [Uk,q1p,qo1]
  all_goals exact Qs
theorem q120  : ∀ a,Uk a = q1p a:=fun a=>(congrFun q11z a)
theorem q138 : (fun a=>Ul a) = (fun a=>q1t a):=by
  funext a;simp only [Ul,q1t]
  all_goals exact Qs
theorem q139  : ∀ a,Ul a = q1t a:=fun a=>(congrFun q138 a)
theorem q11g : (fun b p2 a=>q7d b p2 a) = (fun b p2 a=>U0 b p2 a):=by
  funext b p2 a a153;simp only [q7d,U0,q139]
  all_goals exact Qs
theorem q11h  : ∀ b p2 a,q7d b p2 a = U0 b p2 a:=fun b p2 a=>(congrFun (congrFun (congrFun q11g b) p2) a)
theorem q11e : (fun b a p2=>q7c b a p2) = (fun b a p2=>Ut qO b a p2):=by
  funext b a p2;simp only [q7c,Ut,q120,q11h]
  all_goals exact Qs
theorem q11f  : ∀ b a p2,q7c b a p2 = Ut qO b a p2:=fun b a p2=>(congrFun (congrFun (congrFun q11e b) a) p2)
theorem q121 : (fun b a p2 p3=>q3m b a p2 p3) = (fun b a p2 p3=>U2 qO b a p2 p3):=by
  funext b a p2 p3;simp only [q3m,U2,Jo,Jr,qj,J7]
  all_goals exact Qs
theorem q122  : ∀ b a p2 p3,q3m b a p2 p3 = U2 qO b a p2 p3:=fun b a p2 p3=>(congrFun (congrFun (congrFun (congrFun q121 b) a) p2) p3)
theorem q11w : (fun b a p2 p3 p4=>q52 b a p2 p3 p4) = (fun b a p2 p3 p4=>U1 qO b a p2 p3 p4):=by
  funext b a p2 p3 p4;simp only [q52,U1,q122]
  all_goals exact Qs
theorem qo2  : ∀ b a p2 p3 p4,q52 b a p2 p3 p4 = U1 qO b a p2 p3 p4:=fun b a p2 p3 p4=>(congrFun (congrFun (congrFun (congrFun (congrFun q11w b) a) p2) p3) p4)
theorem q11x : (fun b a p2=>q3l b a p2) = (fun b a p2=>Jk qO b a p2):=by
  funext b a p2;simp only [q3l,Jk,qo2]
  all_goals exact Qs
theorem q11y  : ∀ b a p2,q3l b a p2 = Jk qO b a p2:=fun b a p2=>(congrFun (congrFun (congrFun q11x b) a) p2)
theorem q11i : (fun b a p2=>q7e b a p2) = (fun b a p2=>q1m b a p2 qO):=by
  funext b a p2;simp only [q7e,q1m,qo2,q11y]
  all_goals exact Qs
theorem q11j  : ∀ b a p2,q7e b a p2 = q1m b a p2 qO:=fun b a p2=>(congrFun (congrFun (congrFun q11i b) a) p2)
theorem q133 : qbz = q1s:=by
  funext a119;simp only [qbz,q1s]
  all_goals exact Qs
theorem q131 : (fun b a p2=>q8a b a p2) = (fun b a p2=>q11 qO b a p2):=by
  funext b a p2;simp only [q8a,q11,q133]
  all_goals exact Qs
theorem q132  : ∀ b a p2,q8a b a p2 = q11 qO b a p2:=fun b a p2=>(congrFun (congrFun (congrFun q131 b) a) p2)
theorem q127 : (fun p2 a=>q7r p2 a) = (fun p2 a=>U3 p2 a qO):=by
  funext p2 a a667;simp only [q7r,U3,Jo,Jr,qj,J7]
  all_goals exact Qs
theorem q128  : ∀ p2 a,q7r p2 a = U3 p2 a qO:=fun p2 a=>(congrFun (congrFun q127 p2) a)
theorem q129 : qba = U4 qO:=by
  funext a822;simp only [qba,U4,Jo,Jr,qj,J7]
  all_goals exact Qs
theorem q12a : (fun p2 a=>q7s p2 a) = (fun p2 a=>U5 p2 qO a):=by
  funext p2 a a912;simp only [q7s,U5,Jo,Jr,qj,J7]
  all_goals exact Qs
theorem q12b  : ∀ p2 a,q7s p2 a = U5 p2 qO a:=fun p2 a=>(congrFun (congrFun q12a p2) a)
theorem q125 : (fun p2 a=>q56 p2 a) = (fun p2 a=>Z9 p2 qO a):=by
  funext p2 a a432;have b : @q56.match_1.{1} = @Z9.match_1.{1} Int:=by funext motive m f g;cases m <;> rfl
  unfold q56 Z9;rw [b];simp only [q128,q129,q12b]
  all_goals repeat' first | with_reducible rfl | (congr 1) | funext _
  done
theorem q126  : ∀ p2 a,q56 p2 a = Z9 p2 qO a:=fun p2 a=>(congrFun (congrFun q125 p2) a)
theorem q123 : (fun b a p2=>q55 b a p2) = (fun b a p2=>J3 qO b a p2):=by
  funext b a p2;have c : @q55.match_1.{1} = @J3.match_1.{1} Int:=by funext motive m f g;cases m <;> rfl
  unfold q55 J3;rw [c];simp only [q126]
  all_goals repeat' first | with_reducible rfl | (congr 1) | funext _
  done
theorem q124  : ∀ b a p2,q55 b a p2 = J3 qO b a p2:=fun b a p2=>(congrFun (congrFun (congrFun q123 b) a) p2)
theorem q12h : (fun a b=>q7v a b) = (fun a b=>U6 a b qO):=by
  funext a b a360;simp only [q7v,U6,Jo,Jr,qj,J7]
  all_goals exact Qs
theorem q12i  : ∀ a b,q7v a b = U6 a b qO:=fun a b=>(congrFun (congrFun q12h a) b)
theorem q12j : (fun a b c=>q7w a b c) = (fun a b c=>U7 a b c qO):=by
  funext a b c a439;simp only [q7w,U7,Jo,Jr,qj,J7]
  all_goals exact Qs
theorem q12k  : ∀ a b c,q7w a b c = U7 a b c qO:=fun a b c=>(congrFun (congrFun (congrFun q12j a) b) c)
theorem q12f : (fun a=>q7u a) = (fun a=>Uz a qO):=by
  funext a a304;simp only [q7u,Uz,q12i,q12k]
  all_goals exact Qs
theorem q12g  : ∀ a,q7u a = Uz a qO:=fun a=>(congrFun q12f a)
theorem q12d : (fun b a p2 p3=>q7t b a p2 p3) = (fun b a p2 p3=>Uy qO b a p2 p3):=by
  funext b a p2 p3;simp only [q7t,Uy,q12g]
  all_goals exact Qs
theorem q12e  : ∀ b a p2 p3,q7t b a p2 p3 = Uy qO b a p2 p3:=fun b a p2 p3=>(congrFun (congrFun (congrFun (congrFun q12d b) a) p2) p3)
theorem q12m : (fun p2 d c b p3 a=>q7y p2 d c b p3 a) = (fun p2 d c b p3 a=>q1q p2 d c b p3 a qO):=by
  funext p2 d c b p3 a a159;simp only [q7y,q1q,Jo,Jr,qj,J7]
  all_goals exact Qs
theorem q12n  : ∀ p2 d c b p3 a,q7y p2 d c b p3 a = q1q p2 d c b p3 a qO:=fun p2 d c b p3 a=>(congrFun (congrFun (congrFun (congrFun (congrFun (congrFun q12m p2) d) c) b) p3) a)
theorem q12o : (fun a f d c p3 b=>q7z a f d c p3 b) = (fun a f d c p3 b=>q1r a f d c p3 b qO):=by
  funext a f d c p3 b a239;simp only [q7z,q1r,Jo,Jr,qj,J7]
  all_goals exact Qs
theorem q12p  : ∀ a f d c p3 b,q7z a f d c p3 b = q1r a f d c p3 b qO:=fun a f d c p3 b=>(congrFun (congrFun (congrFun (congrFun (congrFun (congrFun q12o a) f) d) c) p3) b)
theorem q12s : (fun a b=>q81 a b) = (fun a b=>Zs a b qO):=by
  funext a b a542;simp only [q81,Zs,Jo,Jr,qj,J7]
  all_goals exact Qs
theorem q12t  : ∀ a b,q81 a b = Zs a b qO:=fun a b=>(congrFun (congrFun q12s a) b)
theorem q12u : (fun a b c=>q82 a b c) = (fun a b c=>Zt a b c qO):=by
  funext a b c a622;simp only [q82,Zt,Jo,Jr,qj,J7]
  all_goals exact Qs
theorem q12v  : ∀ a b c,q82 a b c = Zt a b c qO:=fun a b c=>(congrFun (congrFun (congrFun q12u a) b) c)
theorem q12q : (fun a=>q80 a) = (fun a=>q10 a qO):=by
  funext a a488;simp only [q80,q10,q12t,q12v]
  all_goals exact Qs
theorem q12r  : ∀ a,q80 a = q10 a qO:=fun a=>(congrFun q12q a)
theorem q12c : (fun b a p2 p3=>q7x b a p2 p3) = (fun b a p2 p3=>Ux qO b a p2 p3):=by
  funext b a p2 p3;simp only [q7x,Ux,q12n,q12p,q12r]
  all_goals exact Qs
theorem q12l  : ∀ b a p2 p3,q7x b a p2 p3 = Ux qO b a p2 p3:=fun b a p2 p3=>(congrFun (congrFun (congrFun (congrFun q12c b) a) p2) p3)
theorem q12x : (fun a=>q57 a) = (fun a=>Yy qO a):=by
  funext a a305;have b : @q57.match_1.{1} = @Yy.match_1.{1} Int:=by funext motive m f g;cases m <;> rfl
  unfold q57 Yy;rw [b];simp only [q11r,q11l,q11f,q11j,q132,q124,q12e,q12l,Jo,Jr,qj,J7]
  all_goals repeat' first | with_reducible rfl | (congr 1) | funext _
  done
theorem q12y  : ∀ a,q57 a = Yy qO a:=fun a=>(congrFun q12x a)
theorem q12z : (fun a c b p2 p3=>q58 a c b p2 p3) = (fun a c b p2 p3=>Jl a qO c b p2 p3):=by
  funext a c b p2 p3;simp only [q58,Jl,q12y]
  all_goals exact Qs
theorem q130  : ∀ a c b p2 p3,q58 a c b p2 p3 = Jl a qO c b p2 p3:=fun a c b p2 p3=>(congrFun (congrFun (congrFun (congrFun (congrFun q12z a) c) b) p2) p3)
theorem q12w : ∀ N,q89 N = Yx N qO:=by
  intro N
  induction N with
  | zero=>rfl
  | succ N ih=>
    funext a b c d;show q58 (q89 N) a b c d = Jl (Yx N qO) qO a b c d;rw [ih,q130]
theorem q11c : (fun a=>Uj a) = (fun a=>Us qO a):=by
  funext a;simp only [Uj,Us,qo1,q12w]
  all_goals exact Qs
theorem q11d  : ∀ a,Uj a = Us qO a:=fun a=>(congrFun q11c a)
end Go.Sh
namespace Go.Sh
open Go Go.Am
theorem Yr {α β : Type} {f : α→Option (α ⊕ β)} (st : Nat→α) (n : Nat) (b : β) (hs : ∀ k,k < n→f (st k) = some (.inl (st (k + 1)))) (hd : f (st n) = some (.inr b)) : ∀ {k : Nat},k≤n→loop f (st k) = some b:=by
  have key : ∀ m k,n - k = m→k≤n→loop f (st k) = some b:=by
    intro m
    induction m with
    | zero => intro k c a; obtain rfl : k = n := by omega
              exact Kk hd
    | succ m ih=>intro k c a;rw [Kz (hs k q6)];exact ih (k + 1) q6 q6
  intro k a;exact key _ k rfl a
theorem w64s {k : Nat} {n : Nat} (h : k < n) (a : n≤1000000) : w64 ((k : Int) + 1) = ((k + 1 : Nat) : Int):=by rw [Ql q6];omega
theorem dlt {k n : Nat} (h : k < n) : decide ((k : Int) < (n : Int)) = true:=Qc q6
theorem dnl {n : Nat} : decide ((n : Int) < (n : Int)) = false:=Qe q6
theorem Yu {α β γ : Type} (src : List α) (_ : src.length≤1000000) (h : α→List γ) (out : List γ) (fin : List γ→β) (f : Int × List γ→Option ((Int × List γ) ⊕ β))
    (hs : ∀ (k : Nat) (a : k < src.length) (o : List γ),o = out ++ (src.take k).flatMap h→f ((k : Int),o) = some (.inl (((k + 1 : Nat) : Int),o ++ h src[k])))
    (hd : ∀ o,f ((src.length : Int),o) = some (.inr (fin o))) : loop f (0,out) = some (fin (out ++ src.flatMap h)):=by
  have e : ∀ k (a : k < src.length),(src.take (k + 1)).flatMap h = (src.take k).flatMap h ++ h src[k]:=fun k a=>by
    rw [List.take_succ_eq_append_getElem a,List.flatMap_append,List.flatMap_cons,List.flatMap_nil,List.append_nil]
  have:=Yr (f:=f) (fun k=>((k : Int),out ++ (src.take k).flatMap h)) src.length (fin (out ++ src.flatMap h)) (fun k a=>by
    rw [hs k a _ rfl,e k a,List.append_assoc]) (by simp only [List.take_length];exact hd _) (Nat.zero_le _)
  simpa using this
theorem Zu {α β γ : Type} (src : List α) (h : α→γ) (out : List γ) (fin : List γ→β) (f : Int × List γ→Option ((Int × List γ) ⊕ β))
    (hs : ∀ (k : Nat) (a : k < src.length) (o : List γ),o.length = out.length + k→f ((k : Int),o) = some (.inl (((k + 1 : Nat) : Int),o ++ [h src[k]])))
    (hd : ∀ o,f ((src.length : Int),o) = some (.inr (fin o))) : loop f (0,out) = some (fin (out ++ src.map h)):=by
  have e : ∀ k (a : k < src.length),(src.take (k + 1)).map h = (src.take k).map h ++ [h src[k]]:=fun k a=>by
    rw [List.take_succ_eq_append_getElem a,List.map_append,List.map_cons,List.map_nil]
  have:=Yr (f:=f) (fun k=>((k : Int),out ++ (src.take k).map h)) src.length (fin (out ++ src.map h)) (fun k a=>by
    rw [hs k a _ (by simp;omega),e k a,List.append_assoc]) (by simp only [List.take_length];exact hd _) (Nat.zero_le _)
  simpa using this
theorem q3z {γ : Type} (g : γ→γ) (a b : List γ) (l : (a ++ b).length≤1000000) (f : Int × List γ→Option ((Int × List γ) ⊕ (List γ)))
    (hs : ∀ (k : Nat) (o : List γ) (h : k < o.length),o.length = (a ++ b).length→f ((k : Int),o) = some (.inl (((k + 1 : Nat) : Int),o.set k (g o[k]))))
    (hd : ∀ o : List γ,f ((o.length : Int),o) = some (.inr o)) : loop f ((a.length : Int),a ++ b) = some (a ++ b.map g):=by
  have m : a.length + b.length≤1000000:=by simpa using l
  have key:=Yr (f:=f) (fun k=>(((a.length + k : Nat) : Int),a ++ ((b.take k).map g ++ b.drop k))) b.length (a ++ b.map g) (fun k h=>by
    have c : (a ++ ((b.take k).map g ++ b.drop k)).length = (a ++ b).length:=by simp;omega
    have d : a.length + k < (a ++ ((b.take k).map g ++ b.drop k)).length:=by rw [c];simp;omega
    rw [hs (a.length + k) _ d c];have j : ((b.take k).map g).length = k:=by simp;omega
    have e : (a ++ ((b.take k).map g ++ b.drop k))[a.length + k]'d = b[k]:=by
      rw [List.getElem_append_right q6];rw [List.getElem_append_right (by rw [j];omega)];simp [List.length_take,Nat.min_eq_left (Nat.le_of_lt h)]
    rw [e];congr 4;rw [List.set_append,Q3 q6,List.set_append,Q3 (by rw [j];omega),j];have z : a.length + k - a.length - k = 0:=by omega
    rw [z,List.take_succ_eq_append_getElem h,List.drop_eq_getElem_cons h,List.set_cons_zero,List.map_append,List.map_cons,List.map_nil,List.append_assoc]
    rfl) (by
    simp only [List.take_length,List.drop_length,List.append_nil];have:=hd (a ++ b.map g)
    simpa using this) (Nat.zero_le _)
  simpa using key
theorem q1l {α γ υ : Type} (l : List α) (c : α→Bool) (m : (k : Nat)→k < l.length→γ) (u : υ) (f : Int→Option (Int ⊕ (υ ⊕ γ)))
    (hs : ∀ (k : Nat) (h : k < l.length),f (k : Int) = some (if c l[k] = true then .inr (.inr (m k h)) else .inl ((k + 1 : Nat) : Int))) (hd : f (l.length : Int) = some (.inr (.inl u))) :
    ((∀ v∈l,c v = false)∧loop f 0 = some (.inl u))∨∃ k,∃ h : k < l.length,c l[k] = true∧(∀ j (d : j < k),c (l[j]'(q6)) = false)∧loop f 0 = some (.inr (m k h)):=by
  by_cases p : ∀ v∈l,c v = false
  · refine .inl ⟨p,?_⟩;exact Yr (f:=f) (fun k=>(k : Int)) l.length _ (fun k b=>by rw [hs k b,p _ (Kc b)];rfl) hd (Nat.zero_le _)
  · refine .inr ?_
    have : ∃ k,∃ h : k < l.length,c l[k] = true:=by
      refine Classical.byContradiction fun r=>p fun v s=>?_;obtain ⟨k,b,rfl⟩:=List.getElem_of_mem s;cases o : c l[k]
      · rfl
      · exact absurd ⟨k,b,o⟩ r
    have g : ∃ k,(∃ h : k < l.length,c l[k] = true)∧∀ j,j < k→¬ ∃ h : j < l.length,c l[j] = true:=by
      obtain ⟨k,b⟩:=this
      induction k using Nat.strongRecOn with
      | _ k ih=>
        by_cases d : ∃ j,j < k∧∃ h : j < l.length,c l[j] = true
        · obtain ⟨j,q,g⟩:=d;exact ih j q g
        · exact ⟨k,b,fun j q g=>d ⟨j,q,g⟩⟩
    obtain ⟨k,⟨b,o⟩,n⟩:=g
    have a : ∀ j (d : j < k),c (l[j]'(q6)) = false:=fun j d=>by
      cases h : c (l[j]'(q6))
      · rfl
      · exact absurd ⟨q6,h⟩ (n j d)
    refine ⟨k,b,o,a,?_⟩;exact Yr (f:=f) (fun k=>(k : Int)) k _ (fun j d=>by rw [hs j q6,a j d];rfl) (by rw [hs k b,qy o]) (Nat.zero_le _)
theorem qo6 : ∀ {l a b : List Int},Yo l a→Yo l b→a = b:=by
  have key : ∀ (a b : List Int),a.Pairwise (· < ·)→b.Pairwise (· < ·)→(∀ x,x∈a↔x∈b)→a = b:=by
    intro a
    induction a with
    | nil=>intro b _ _ h;cases b with
      | nil=>rfl
      | cons y b=>exact absurd ((h y).2 qe) qe
    | cons x a ih=>
      intro b d hb h
      cases b with
      | nil=>exact absurd ((h x).1 qe) qe
      | cons y b=>
        rw [List.pairwise_cons] at d hb
        have g : x = y:=by
          rcases List.mem_cons.1 ((h x).1 qe) with c | c
          · exact c
          · rcases List.mem_cons.1 ((h y).2 qe) with j | j
            · exact j.symm
            · have:=hb.1 _ c;have:=d.1 _ j;omega
        subst g;rw [ih b d.2 hb.2 fun z=>?_];constructor
        · intro f;rcases List.mem_cons.1 ((h z).1 (by simp [f])) with c | c
          · have:=d.1 _ f;omega
          · exact c
        · intro f;rcases List.mem_cons.1 ((h z).2 (by simp [f])) with c | c
          · have:=hb.1 _ f;omega
          · exact c
  intro l a b d hb;exact key a b d.1 hb.1 fun x=>(d.2 x).trans (hb.2 x).symm
def ltI (a b : Int) : Bool:=decide (a < b)
theorem swoI : Sort.SWO ltI where
  irrefl:=by intro x;simp [ltI]
  trans:=by intro x y z;simp only [ltI,decide_eq_true_eq];omega
  ntrans:=by intro x y z;simp only [ltI,decide_eq_false_iff_not];omega
theorem cmpI : Kv qO ltI (fun _=>True):=by
  intro x y _ _;refine ⟨sg x y,rfl,?_⟩;rw [J7];rfl
theorem qo5 (l : List Int) (c : l.length≤1000000) : ∃ ys,Uj l = some ys∧ys.Perm l∧ys.Pairwise (·≤·):=by
  obtain ⟨ys,f,d,g⟩:=qhg cmpI swoI l c (fun _ _=>trivial);refine ⟨ys,by rw [q11d];exact f,d,g.imp ?_⟩;intro a b h;simp only [ltI,decide_eq_false_iff_not] at h;omega
end Go.Sh
namespace Go.Sh
open Go Go.Am
structure CInv (p : List Int) (k k2 i : Nat) (a : List Int) : Prop where
  len : a.length = p.length
  hi : i≤k + k2 - 1
  same : ∀ j (h : j < p.length),k + k2 - 1≤j→a[j]? = some p[j]
  so : Yo (p.take (k + k2)) (a.take i)
theorem qr5 {p : List Int} (hp : p.Pairwise (·≤·)) (hl : p.length≤1000000) {k b i : Nat} {a : List Int} (hk : 0 < k) (h2 : 0 < b) (u : k + b < p.length) (h : CInv p k b i a) :
    ∃ (i' : Nat) (a' : List Int),q2p ((i : Int),(k,p.length - k),(b : Int),a) = some (.inl ((i' : Int),(k,p.length - k),((b + 1 : Nat) : Int),a'))∧CInv p k (b + 1) i' a':=by
  obtain ⟨h1,h3,o,h5,v⟩:=h;have hb : decide ((b : Int) < ((p.length - k : Nat) : Int)) = true:=dlt q6
  have z : idxW a (k,p.length - k) (b : Int) = some (p[k + b]):=by
    unfold idxW;rw [qy ⟨q6,q6⟩];simp only [Int.toNat_natCast];exact o (k + b) u q6
  have r2 : idxW a (k,p.length - k) (w64 ((b : Int) - 1)) = some (p[k + b - 1]):=by
    rw [Ql q6];have e : (b : Int) - 1 = ((b - 1 : Nat) : Int):=by omega
    rw [e];unfold idxW;rw [qy ⟨q6,q6⟩];simp only [Int.toNat_natCast];have:=o (k + b - 1) q6 q6;rw [show k + (b - 1) = k + b - 1 by omega];exact this
  have ai : p[k + b - 1]≤p[k + b]:=List.pairwise_iff_getElem.1 hp _ _ q6 u q6
  have l : p[k + b - 1]∈p.take (k + b):=by
    rw [List.mem_take_iff_getElem];exact ⟨k + b - 1,q6,rfl⟩
  have f : p.take (k + (b + 1)) = p.take (k + b) ++ [p[k + b]]:=by rw [← Nat.add_assoc,List.take_succ_eq_append_getElem u]
  have hw : w64 ((b : Int) + 1) = ((b + 1 : Nat) : Int):=w64s (n:=p.length) q6 hl;by_cases w : p[k + b] = p[k + b - 1]
  · refine ⟨i,a,?_,h1,q6,fun j q r=>o j q q6,?_⟩
    · have c : (p[k + b] != p[k + b - 1]) = false:=by rw [w];simp
      simp only [q2p,hb,qz,z,r2,qj,c,qx,hw]
    · rw [f];refine ⟨h5,fun x=>?_⟩;rw [v x];constructor
      · intro g;exact List.mem_append.2 (.inl g)
      · intro g;rcases List.mem_append.1 g with h | h
        · exact h
        · simp only [List.mem_singleton] at h;rw [h,w];exact l
  · have c : (p[k + b] != p[k + b - 1]) = true:=by simpa using w
    have m : i < a.length:=by omega
    have r3 : idx a (i : Int) = some a[i]:=Qq m;have s : w64 ((i : Int) + 1) = ((i + 1 : Nat) : Int):=w64s (n:=p.length) q6 hl;refine ⟨i + 1,a.set i p[k + b],?_,by simpa using h1,q6,fun j q r=>?_,?_⟩
    · simp only [q2p,hb,qz,z,r2,qj,c,r3,hw,s,Int.toNat_natCast]
    · rw [List.getElem?_set_ne q6];exact o j q q6
    · have e : (a.set i p[k + b]).take (i + 1) = a.take i ++ [p[k + b]]:=by
        rw [List.take_succ_eq_append_getElem (by simpa using m)];simp [List.take_set_of_le]
      rw [e,f];refine ⟨?_,fun x=>?_⟩
      · rw [List.pairwise_append];refine ⟨h5,qe,fun x g y hy=>?_⟩;simp only [List.mem_singleton] at hy;subst hy;have d:=(v x).1 g;rw [List.mem_take_iff_getElem] at d;obtain ⟨j,q,rfl⟩:=d
        have : p[j]≤p[k + b - 1]:=by
          by_cases t : j = k + b - 1
          · subst t;exact Int.le_refl _
          · exact List.pairwise_iff_getElem.1 hp _ _ q6 q6 q6
        omega
      · rw [List.mem_append,List.mem_append,v x]
theorem qr4 {p : List Int} (hp : p.Pairwise (·≤·)) (o : p.length≤1000000) {k : Nat} (s : 0 < k) (m : k < p.length) (r : Yo (p.take (k + 1)) (p.take k)) :
    ∃ i : Nat,∃ a : List Int,loop q2p ((k : Int),(k,p.length - k),1,p) = some ((i : Int),a)∧a.length = p.length∧i≤p.length∧Yo p (a.take i):=by
  have h:=J4 (f:=q2p) (mk:=fun d (c : Nat × List Int)=>((c.1 : Int),(k,p.length - k),((d : Nat) : Int),c.2)) (p.length - k) (fun d c=>0 < d∧CInv p k d c.1 c.2)
    (fun b=>∃ i : Nat,∃ a : List Int,b = ((i : Int),a)∧a.length = p.length∧i≤p.length∧Yo p (a.take i))
    (fun d c n g=>by
      obtain ⟨v,a',t,y⟩:=qr5 hp o s g.1 q6 g.2
      exact .inl ⟨(v,a'),t,q6,y⟩)
    (fun c g=>by
      obtain ⟨l,w,z,h4,x⟩:=g;refine ⟨((c.1 : Int),c.2),?_,c.1,c.2,rfl,w,q6,?_⟩
      · simp only [q2p,dnl,qx]
      · rwa [List.take_of_length_le q6] at x)
    (k0:=1) (c0:=(k,p)) q6 ⟨q6,rfl,qe,fun j u _=>by simp [u],r⟩
  obtain ⟨b,hb,i,a,rfl,q⟩:=h;exact ⟨i,a,hb,q⟩
theorem qj1 {p : List Int} (hp : p.Pairwise (·≤·)) (y : p.length≤1000000) :
    ∃ w a,q24 p = some ((0,w),a)∧a.length = p.length∧w≤p.length∧Yo p (a.take w):=by
  unfold q24;by_cases hs : p.length < 2
  · rw [Qc (by omega : (p.length : Int) < 2),qz];refine ⟨p.length,p,rfl,rfl,Nat.le_refl _,?_⟩;rw [List.take_length];refine ⟨?_,fun x=>Iff.rfl⟩
    match p,hs with
    | [],_=>simp
    | [x],_=>simp
  rw [Qe (by omega : ¬ (p.length : Int) < 2),qx]
  have b : ∀ k,k≤p.length→(∀ j (n : j < k),0 < j→∀ h : j < p.length,p[j]≠p[j - 1])→Yo (p.take k) (p.take k):=by
    intro k g q;refine ⟨?_,fun x=>Iff.rfl⟩;rw [List.pairwise_iff_getElem];intro i j hi n z;simp only [List.length_take] at hi n;simp only [List.getElem_take];have m : p[j - 1]≤p[j]:=List.pairwise_iff_getElem.1 hp _ _ q6 q6 q6;have r:=q j q6 q6 q6
    have h3 : p[i]≤p[j - 1]:=by
      by_cases e : i = j - 1
      · subst e;exact Int.le_refl _
      · exact List.pairwise_iff_getElem.1 hp _ _ q6 q6 q6
    omega
  have c : ∀ k,0 < k→∀ h : k < p.length,p[k]≠p[k - 1]→Jt p (k : Int) = some (.inl ((k + 1 : Nat) : Int)):=by
    intro k d h q;have u : idx p (w64 ((k : Int) - 1)) = some (p[k - 1]):=by rw [Ql q6];exact U9 q6 q6
    have hb : (p[k] == p[k - 1]) = false:=by simpa using q
    simp only [Jt,dlt h,qz,Qq h,u,qj,hb,qx,w64s h y]
  by_cases t : ∀ j,0 < j→∀ h : j < p.length,p[j]≠p[j - 1]
  · have m : loop (Jt p) 1 = some (.inl ()):=by
      exact Yr (f:=Jt p) (fun k=>((k + 1 : Nat) : Int)) (p.length - 1) _ (fun k g=>by
        exact c (k + 1) q6 q6 (t (k + 1) q6 q6)) (by
        show Jt p (((p.length - 1) + 1 : Nat) : Int) = _;rw [show p.length - 1 + 1 = p.length by omega]
        simp only [Jt,dnl,qx]) (Nat.zero_le _)
    rw [m];refine ⟨p.length,p,rfl,rfl,Nat.le_refl _,?_⟩;have:=b p.length (Nat.le_refl _) fun j _ d h=>t j d h;rw [List.take_length] at this ⊢;exact this
  · have r : ∃ k,(0 < k∧∃ h : k < p.length,p[k] = p[k - 1])∧∀ j,j < k→¬ (0 < j∧∃ h : j < p.length,p[j] = p[j - 1]):=by
      have : ∃ k,0 < k∧∃ h : k < p.length,p[k] = p[k - 1]:=by
        refine Classical.byContradiction fun hn=>t fun j d h o=>hn ⟨j,d,h,o⟩
      obtain ⟨k,g⟩:=this
      induction k using Nat.strongRecOn with
      | _ k ih=>
        by_cases n : ∃ j,j < k∧(0 < j∧∃ h : j < p.length,p[j] = p[j - 1])
        · obtain ⟨j,m,r⟩:=n;exact ih j m r
        · exact ⟨k,g,fun j m r=>n ⟨j,m,r⟩⟩
    obtain ⟨k,⟨d,g,o⟩,l⟩:=r;have v : Yo (p.take k) (p.take k):=b k q6 fun j n d h o=>l j n ⟨d,h,o⟩
    have s : Yo (p.take (k + 1)) (p.take k):=by
      refine ⟨v.1,fun x=>?_⟩;rw [List.take_succ_eq_append_getElem g,List.mem_append];refine ⟨.inl,fun h=>h.elim id fun h=>?_⟩;simp only [List.mem_singleton] at h;rw [h,o,List.mem_take_iff_getElem];exact ⟨k - 1,q6,rfl⟩
    obtain ⟨i,a,e1,e2,e3,e4⟩:=qr4 hp y d g s;have s1 : sub2 p.length (k : Int) (p.length : Int) = some (k,p.length - k):=by unfold sub2;rw [qy ⟨q6,q6,q6⟩];simp
    have s2 : sub2 a.length (i : Int) (a.length : Int) = some (i,a.length - i):=by unfold sub2;rw [qy ⟨q6,q6,q6⟩];simp
    have s3 : sub2 a.length 0 (i : Int) = some (0,i):=by unfold sub2;rw [qy ⟨q6,q6,q6⟩];simp
    have u : idx p (w64 ((k : Int) - 1)) = some (p[k - 1]):=by rw [Ql q6];exact U9 q6 q6
    have m : loop (Jt p) 1 = some (.inr ((0,i),clrw a (i,a.length - i) 0)):=by
      exact Yr (f:=Jt p) (fun k=>((k + 1 : Nat) : Int)) (k - 1) _ (fun j n=>by
        exact c (j + 1) q6 q6 fun o=>l (j + 1) q6 ⟨q6,q6,o⟩) (by
        show Jt p (((k - 1) + 1 : Nat) : Int) = _;rw [show k - 1 + 1 = k by omega];have hb : (p[k] == p[k - 1]) = true:=by simpa using o
        simp only [Jt,dlt g,qz,Qq g,u,qj,hb,s1,e1,s2,s3]) (Nat.zero_le _)
    rw [m];refine ⟨i,clrw a (i,a.length - i) 0,rfl,by rw [qcu (by simp;omega)];exact e2,e3,?_⟩
    have : (clrw a (i,a.length - i) 0).take i = a.take i:=by
      unfold clrw splice;rw [List.append_assoc,List.take_append_of_le_length (by simp;omega)];simp [List.take_take]
    rw [this];exact e4
end Go.Sh
namespace Go.Sh
open Go Go.Am
theorem q94 {α : Type} [DecidableEq α] (e : α→α→Bool) (j : ∀ v w,e v w = decide (v = w)) (p q : List α) (s : p.length≤1000000) (f : Int→Option (Int ⊕ (Unit ⊕ Bool)))
    (d : ∀ k,f k = cond (decide (k < (p.length : Int))) ((idx p k).bind fun v=>(idx q k).bind fun w=>cond (!(e v w)) (some (.inr (.inr false))) (some (.inl (w64 (k + 1))))) (some (.inr (.inl ())))) :
    cond ((p.length : Int) != (q.length : Int)) (some false) ((loop f 0).bind fun m=>(match m with | .inl _=>some true | .inr x=>some x)) = some (decide (p = q)):=by
  by_cases a : p.length = q.length
  · have : ((p.length : Int) != (q.length : Int)) = false:=by rw [a];simp
    rw [this,qx]
    let c : Nat→Bool:=fun k=>if h : k < p.length then !(e p[k] (q[k]'(q6))) else false
    have hs : ∀ (k : Nat) (h : k < (List.range p.length).length),f (k : Int) = some (if c (List.range p.length)[k] = true then .inr (.inr false) else .inl ((k + 1 : Nat) : Int)):=by
      intro k h;have h : k < p.length:=by simpa using h
      rw [d];simp only [dlt h,qz,Qq h,Qq (xs:=q) (k:=k) q6,qj,List.getElem_range,c,dif_pos h,w64s h s];cases e p[k] (q[k]'(q6)) <;> simp
    have hd : f ((List.range p.length).length : Int) = some (.inr (.inl ())):=by rw [d];simp []
    rcases q1l (List.range p.length) c (fun _ _=>false) () f hs hd with ⟨r,b⟩ | ⟨k,n,l,_,b⟩
    · rw [b]
      have : p = q:=by
        refine List.ext_getElem a fun k g t=>?_;have:=r k (by simpa using g);simp only [c,dif_pos g,j,Bool.not_eq_false',decide_eq_true_eq] at this;exact this
      simp [this]
    · rw [b];have o : k < p.length:=by simpa using n
      have : p≠q:=by
        intro h;simp only [List.getElem_range,c,j,h] at l;simp at l
      simp [this]
  · have : ((p.length : Int) != (q.length : Int)) = true:=by simpa using (fun h : (p.length : Int) = q.length=>a q6)
    rw [this,qz];have : p≠q:=fun h=>a (by rw [h]);simp [this]
theorem qd4 (p q : List qp) (a : p.length≤1000000) : q3j p q = some (decide (p = q)):=
  q94 (fun v w=>((v.Lo == w.Lo) && ((v.Hi == w.Hi) && true))) (fun v w=>by cases v;cases w;rw [Bool.eq_iff_iff];simp) p q a (qe9 p q) (fun _=>rfl)
theorem qad (p q : List qp) (a : p.length≤1000000) : q2k p q = some (decide (p = q)):=
  q94 (fun v w=>((v.Lo == w.Lo) && ((v.Hi == w.Hi) && true))) (fun v w=>by cases v;cases w;rw [Bool.eq_iff_iff];simp) p q a (qdu p q) (fun _=>rfl)
theorem q95 (p q : List qd) (a : p.length≤1000000) : q3i p q = some (decide (p = q)):=
  q94 (fun v w=>((v.X0 == w.X0) && ((v.Y0 == w.Y0) && ((v.X1 == w.X1) && ((v.Y1 == w.Y1) && true))))) (fun v w=>by cases v;cases w;rw [Bool.eq_iff_iff];simp) p q a (qe7 p q) (fun _=>rfl)
theorem qe1 (p q : List qd) (a : p.length≤1000000) : q34 p q = some (decide (p = q)):=
  q94 (fun v w=>((v.X0 == w.X0) && ((v.Y0 == w.Y0) && ((v.X1 == w.X1) && ((v.Y1 == w.Y1) && true))))) (fun v w=>by cases v;cases w;rw [Bool.eq_iff_iff];simp) p q a (qdy p q) (fun _=>rfl)
theorem sameBox (p q : List qk) (a : p.length≤1000000) : q6s p q = some (decide (p = q)):=
  q94 (fun v w=>((v.Lo.X == w.Lo.X) && ((v.Lo.Y == w.Lo.Y) && ((v.Lo.Z == w.Lo.Z) && ((v.Hi.X == w.Hi.X) && ((v.Hi.Y == w.Hi.Y) && ((v.Hi.Z == w.Hi.Z) && true))))))) (fun v w=>by rcases v with ⟨⟨_,_,_⟩,⟨_,_,_⟩⟩;rcases w with ⟨⟨_,_,_⟩,⟨_,_,_⟩⟩;rw [Bool.eq_iff_iff];simp [and_assoc]) p q a (qdz p q) (fun _=>rfl)
structure Mg (σ β : Type) where
  done : List β
  sec : List σ
  lo : Int
  hi : Int
section
variable {σ β : Type} [DecidableEq σ] (put : Int→Int→σ→β)
def Mg.flat (s : Mg σ β) : List β:=s.done ++ s.sec.map (put s.lo s.hi)
def addM (s : Mg σ β) (a b : Int) (c : List σ) : Mg σ β:=if c≠[]∧c = s.sec∧s.hi = a then ⟨s.done,s.sec,s.lo,b⟩ else ⟨s.flat put,c,a,b⟩
def Qu : Mg σ β:=⟨[],[],0,0⟩
def Qy (s0 : Mg σ β) (steps : List (Int × Int × List σ)) : Mg σ β:=steps.foldl (fun s t=>addM put s t.1 t.2.1 t.2.2) s0
theorem Uq {s0 : Mg σ β} {steps : List (Int × Int × List σ)} {i : Nat} (h : i < steps.length) : Qy put s0 (steps.take (i + 1)) = addM put (Qy put s0 (steps.take i)) steps[i].1 steps[i].2.1 steps[i].2.2:=by
  unfold Qy;rw [List.take_succ_eq_append_getElem h,List.foldl_append];rfl
theorem q8m (s : Mg σ β) (a b : Int) (c : List σ) : (addM put s a b c).hi = b:=by unfold addM;split <;> rfl
theorem qhx (s : Mg σ β) (a b : Int) (c : List σ) : ((addM put s a b c).flat put).length≤(s.flat put).length + c.length:=by
  unfold addM;split
  · simp [Mg.flat]
  · simp [Mg.flat];omega
theorem q98 {s0 : Mg σ β} {M : Nat} : ∀ {steps : List (Int × Int × List σ)},(∀ t∈steps,t.2.2.length≤M)→((Qy put s0 steps).flat put).length≤(s0.flat put).length + steps.length * M:=by
  intro steps
  induction steps generalizing s0 with
  | nil=>intro _;simp [Qy]
  | cons t r ih=>
    intro h;have f:=ih (s0:=addM put s0 t.1 t.2.1 t.2.2) fun u a=>h u (by simp [a]);have c:=qhx put s0 t.1 t.2.1 t.2.2;have d:=h t qe;have b : Qy put s0 (t::r) = Qy put (addM put s0 t.1 t.2.1 t.2.2) r:=rfl;rw [b];simp only [List.length_cons,Nat.succ_mul];omega
end
section
variable {σ : Type}
def K5 (cuts : List Int) (sec : Int→List σ) : List (Int × Int × List σ):=(cuts.zip cuts.tail).map fun c=>(c.1,c.2,sec c.1)
theorem J8 (a : List Int) (sec : Int→List σ) : (K5 a sec).length = a.length - 1:=by simp [K5]
theorem Zd {a : List Int} {sec : Int→List σ} {i : Nat} (h : i < (K5 a sec).length) (b : i + 1 < a.length) : (K5 a sec)[i] = (a[i],a[i + 1],sec a[i]):=by
  simp [K5]
theorem qhi {a : List Int} {sec : Int→List σ} {M : Nat} (h : ∀ x,(sec x).length≤M) : ∀ t∈K5 a sec,t.2.2.length≤M:=by
  intro t b;simp only [K5,List.mem_map] at b;obtain ⟨c,_,rfl⟩:=b;exact h _
end
theorem Jc {σ β : Type} [DecidableEq σ] (put : Int→Int→σ→β) (s : Mg σ β) (a b : Int) (c : List σ) : (c≠[]∧c = s.sec∧s.hi = a∧addM put s a b c = ⟨s.done,s.sec,s.lo,b⟩)∨(¬ (c≠[]∧c = s.sec∧s.hi = a)∧addM put s a b c = ⟨s.flat put,c,a,b⟩):=by
  unfold addM;split
  · rename_i h;exact .inl ⟨h.1,h.2.1,h.2.2,rfl⟩
  · rename_i h;exact .inr ⟨h,rfl⟩
def putR (a b : Int) (t : qp) : qd:={X0:=a,Y0:=t.Lo,X1:=b,Y1:=t.Hi}
theorem qpi (s : Mg qp qd) (a b : Int) (c : List qp) (z : (s.flat putR).length + c.length≤1000000) :
    qa9 (s.flat putR) s.sec (s.done.length : Int) s.hi a b c = some ((addM putR s a b c).sec,((addM putR s a b c).done.length : Int),(addM putR s a b c).hi,(addM putR s a b c).flat putR):=by
  have d : s.sec.length≤1000000:=by have : (s.flat putR).length = s.done.length + s.sec.length:=(by simp [Mg.flat]);omega
  unfold qa9;rcases Jc putR s a b c with ⟨p,r,w,m⟩ | ⟨p,m⟩
  · have hb : decide ((c.length : Int) > 0) = true:=Qc (by have:=List.length_pos_iff.2 p;omega);have x : (s.hi == a) = true:=by simpa using w
    rw [r] at hb;rw [m,r];simp only [hb,qz,x,qj,qd4 _ _ d,decide_true]
    have:=q3z (fun v : qd=>({X0:=v.X0,Y0:=v.Y0,X1:=b,Y1:=v.Y1} : qd)) s.done (s.sec.map (putR s.lo s.hi)) (by have : (s.done ++ s.sec.map (putR s.lo s.hi)).length = (s.flat putR).length:=rfl;omega) (q73 b) (fun k o f u=>by
      have l : (s.done ++ s.sec.map (putR s.lo s.hi)).length = (s.flat putR).length:=rfl
      simp only [q73,dlt f,qz,Qq f,qj,w64s f q6,Int.toNat_natCast]) (fun o=>by simp only [q73,dnl,qx])
    rw [show s.flat putR = s.done ++ s.sec.map (putR s.lo s.hi) from rfl,this];simp only [qj,Mg.flat,List.map_map];rfl
  · rw [m]
    have y : ((cond (decide ((c.length : Int) > 0)) (some (s.hi == a)) (some false)).bind fun g=>(cond g ((q3j s.sec c).bind fun j=>some j) (some false))) = some false:=by
      by_cases l : c = []
      · subst l;simp
      · have hb : decide ((c.length : Int) > 0) = true:=Qc (by have:=List.length_pos_iff.2 l;omega);simp only [hb,qz,qj,qd4 _ _ d];by_cases q : s.hi = a
        · have t : s.sec≠c:=fun h=>p ⟨l,h.symm,q⟩;simp [q,t]
        · have : (s.hi == a) = false:=by simpa using q
          simp [this]
    have n:=Zu c (putR a b) (s.flat putR) (fun o=>(c,((s.flat putR).length : Int),b,o)) (q74 c a b (s.flat putR)) (fun k f o u=>by
      simp only [q74,dlt f,qz,Qq f,qj,w64s f q6];rw [Ke (by simp;omega)]
      rfl) (fun o=>by simp only [q74,dnl,qx])
    rw [← Option.bind_assoc,y];simp only [qj,qx,n];simp [Mg.flat]
end Go.Sh
namespace Go.Sh
open Go Go.Am
def vR (r : qd) : Prop:=r.X0 < r.X1∧r.Y0 < r.Y1∧-1000000≤r.X0∧r.X0≤1000000∧-1000000≤r.X1∧r.X1≤1000000∧-1000000≤r.Y0∧r.Y0≤1000000∧-1000000≤r.Y1∧r.Y1≤1000000
instance (r : qd) : Decidable (vR r):=by unfold vR;infer_instance
theorem qs2 (x : Int) : q3d x = some (decide (-1000000≤x∧x≤1000000)):=by
  unfold q3d;by_cases h : x ≥ -1000000 <;> by_cases a : x≤1000000 <;> simp [h,a] <;> omega
theorem qho (r : qd) : q76 r = some (decide (vR r)):=by
  unfold q76;simp only [qs2,qr6,qj,vR];by_cases d : r.X0 < r.X1 <;> by_cases b : r.Y0 < r.Y1 <;> by_cases g : -1000000≤r.X0∧r.X0≤1000000 <;> by_cases c : -1000000≤r.X1∧r.X1≤1000000 <;> by_cases f : -1000000≤r.Y0∧r.Y0≤1000000 <;> by_cases a : -1000000≤r.Y1∧r.Y1≤1000000 <;> simp [d,b,g,c,f,a] <;> omega
theorem qms (r : qd) : q9s r = some (decide (vR r)):=qho r
def covR (x : Int) (r : qd) : Bool:=decide (r.X0≤x) && decide (x < r.X1)
def ysp (r : qd) : qp:={Lo:=r.Y0,Hi:=r.Y1}
def covS (l : List qd) (x : Int) : List qp:=l.flatMap fun r=>if covR x r = true then [ysp r] else []
def hasR (l : List qd) (x y : Int) : Prop:=∃ r∈l,r.X0≤x∧x < r.X1∧r.Y0≤y∧y < r.Y1
theorem q9f {l : List qd} {x : Int} {t : qp} : t∈covS l x↔∃ r∈l,covR x r = true∧t = ysp r:=by
  unfold covS;rw [List.mem_flatMap];constructor
  · rintro ⟨r,a,h⟩;split at h
    · rename_i b;simp only [List.mem_singleton] at h;exact ⟨r,a,b,h⟩
    · cases h
  · rintro ⟨r,a,b,rfl⟩;exact ⟨r,a,by simp [b]⟩
theorem Zj {l : List qd} {x y : Int} : has (covS l x) y↔hasR l x y:=by
  unfold has hasR;constructor
  · rintro ⟨t,g,c,a⟩;obtain ⟨r,b,d,rfl⟩:=q9f.1 g;simp only [covR,Bool.and_eq_true,decide_eq_true_eq] at d;exact ⟨r,b,d.1,d.2,c,a⟩
  · rintro ⟨r,b,c,a,h,f⟩;exact ⟨ysp r,q9f.2 ⟨r,b,by simp [covR,c,a],rfl⟩,h,f⟩
theorem J0 (l : List qd) (x : Int) : (covS l x).length≤l.length:=by
  unfold covS
  induction l with
  | nil=>simp
  | cons r l ih=>
    simp only [List.flatMap_cons,List.length_append,List.length_cons];have : (if covR x r = true then [ysp r] else []).length≤1:=by split <;> simp
    omega
theorem qrg {l : List qd} (h : ∀ r∈l,vR r) (x : Int) : ∀ t∈covS l x,vld t:=by
  intro t d;obtain ⟨r,c,_,rfl⟩:=q9f.1 d;obtain ⟨_,a,_,_,_,_,f,_,_,b⟩:=h r c;exact ⟨a,f,b⟩
def xsOf (l : List qd) : List Int:=l.flatMap fun r=>[r.X0,r.X1]
def ysOf (l : List qd) : List Int:=l.flatMap fun r=>[r.Y0,r.Y1]
theorem Ze (l : List qd) : (xsOf l).length = 2 * l.length:=by
  unfold xsOf;induction l with
  | nil=>rfl
  | cons r l ih=>simp only [List.flatMap_cons,List.length_append,List.length_cons,List.length_nil];omega
theorem q27 (l : List qd) : (ysOf l).length = 2 * l.length:=by
  unfold ysOf;induction l with
  | nil=>rfl
  | cons r l ih=>simp only [List.flatMap_cons,List.length_append,List.length_cons,List.length_nil];omega
theorem qd2 {l : List qd} {x y : Int} (h : y∈ends (covS l x)) : y∈ysOf l:=by
  obtain ⟨t,b,h⟩:=q9g.1 h;obtain ⟨r,a,_,rfl⟩:=q9f.1 b;unfold ysOf;rw [List.mem_flatMap];exact ⟨r,a,by rcases h with h | h <;> simp [h,ysp]⟩
noncomputable def Qt (l : List Int) : List Int:=(Zv l).getD []
theorem Zq {l : List Int} (c : l.length≤1000000) : Zv l = some (Qt l)∧Yo l (Qt l)∧(Qt l).length≤l.length:=by
  obtain ⟨t,a,d,b⟩:=qo8 l c;unfold Qt;rw [a];exact ⟨rfl,d,b⟩
noncomputable def secJ (kind : Int) (p q : List qd) (x : Int) : List qp:=q2f kind (covS p x) (covS q x)
theorem qe4 (kind : Int) {p q : List qd} (h : p.length + q.length≤100000) (x : Int) : (secJ kind p q x).length≤2 * (p.length + q.length):=by
  have a:=J0 p x;have b:=J0 q x;have:=(q2x kind (covS p x) (covS q x) q6 q6).2.len;unfold secJ;omega
noncomputable def mrg (kind : Int) (p q : List qd) : Mg qp qd:=Qy putR Qu (K5 (Qt (xsOf p ++ xsOf q)) (secJ kind p q))
noncomputable def mrgR (kind : Int) (p q : List qd) : List qd:=(mrg kind p q).flat putR
theorem q8y {p q : List qd} (h : p.length + q.length≤490) : Zv (xsOf p ++ xsOf q) = some (Qt (xsOf p ++ xsOf q))∧Yo (xsOf p ++ xsOf q) (Qt (xsOf p ++ xsOf q))∧(Qt (xsOf p ++ xsOf q)).length≤2 * (p.length + q.length):=by
  have f:=Ze p;have d:=Ze q;obtain ⟨a,b,c⟩:=Zq (l:=xsOf p ++ xsOf q) (by simp;omega);exact ⟨a,b,by simp at c;omega⟩
theorem qfe {p q : List qd} (h : p.length + q.length≤490) : Zv (ysOf p ++ ysOf q) = some (Qt (ysOf p ++ ysOf q))∧Yo (ysOf p ++ ysOf q) (Qt (ysOf p ++ ysOf q))∧(Qt (ysOf p ++ ysOf q)).length≤2 * (p.length + q.length):=by
  have f:=q27 p;have d:=q27 q;obtain ⟨a,b,c⟩:=Zq (l:=ysOf p ++ ysOf q) (by simp;omega);exact ⟨a,b,by simp at c;omega⟩
theorem qdo (kind : Int) {p q : List qd} (h : p.length + q.length≤490) (i : Nat) :
    ((Qy putR Qu ((K5 (Qt (xsOf p ++ xsOf q)) (secJ kind p q)).take i)).flat putR).length≤980 * 980:=by
  have d:=q98 putR (s0:=Qu) (M:=980) (steps:=(K5 (Qt (xsOf p ++ xsOf q)) (secJ kind p q)).take i) (fun t b=>by
    have:=qhi (M:=2 * (p.length + q.length)) (fun x=>qe4 kind q6 x) t (List.mem_of_mem_take b)
    omega)
  have a : ((K5 (Qt (xsOf p ++ xsOf q)) (secJ kind p q)).take i).length≤980:=by
    have:=(q8y h).2.2;rw [List.length_take,J8];omega
  have f : (Qu.flat putR : List qd).length = 0:=rfl;have c : ((K5 (Qt (xsOf p ++ xsOf q)) (secJ kind p q)).take i).length * 980≤980 * 980:=Nat.mul_le_mul_right _ a;omega
theorem qtf (l : List qd) (z : l.length≤400) :
    (((idx [l] 0).bind fun g=>(loop (q3e g) (0,[])).bind fun n=>some n).bind fun f=>(Uj f).bind fun c=>(K1 c.length f.length).bind fun _=>(q24 c).bind fun b=>(K1 b.2.length c.length).bind fun _=>(Un b.2.length b.1).bind fun _=>some ((b.2.drop b.1.1).take b.1.2)) = some (Qt (xsOf l)):=by
  have q : idx [l] 0 = some l:=rfl
  have v : loop (q3e l) (0,[]) = some (xsOf l):=by
    have:=Yu l q6 (fun r=>[r.X0,r.X1]) [] (fun o=>o) (q3e l) (fun k h o s=>by
      have y : o.length = 2 * k:=by rw [s,List.nil_append];have:=Ze (l.take k);rw [List.length_take,Nat.min_eq_left q6] at this;exact this
      simp only [q3e,dlt h,qz,Qq h,qj,w64s h q6];rw [Ke (by simp;omega)]
      rfl) (fun o=>by simp only [q3e,dnl,qx])
    rw [List.nil_append] at this;exact this
  have hx:=Ze l;obtain ⟨ys,t,m,u⟩:=qo5 (xsOf l) q6;have j : ys.length = (xsOf l).length:=m.length_eq;obtain ⟨w,a,c1,c2,c3,c4⟩:=qj1 u q6;obtain ⟨_,p,_⟩:=Zq (l:=xsOf l) q6
  have d : a.take w = Qt (xsOf l):=by
    refine qo6 (l:=xsOf l) ⟨c4.1,fun x=>?_⟩ p;rw [c4.2 x];exact m.mem_iff
  simp only [q,qj,v,t,K1,j,if_true,c1,c2,Un];rw [qy q6];simp only [qj,List.drop_zero,d]
theorem qte (l : List qd) (g : l.length≤400) (x : Int) : loop (q4v l x) (0,[]) = some (covS l x):=by
  have:=Yu l q6 (fun r=>if covR x r = true then [ysp r] else []) [] (fun o=>o) (q4v l x) (fun k a o d=>by
    have f : o.length≤k:=by rw [d,List.nil_append];have:=J0 (l.take k) x;rw [List.length_take,Nat.min_eq_left q6] at this;exact this
    simp only [q4v,dlt a,qz,Qq a,qj,w64s a q6];by_cases b : l[k].X0≤x
    · by_cases c : x < l[k].X1
      · simp only [b,c,decide_true,qz,qj,covR,Bool.and_self,if_true];rw [Ke (by simp;omega)];rfl
      · simp only [b,c,decide_true,decide_false,qz,qx,qj,covR,Bool.and_false,if_false,Bool.false_eq_true,List.append_nil]
    · simp only [b,decide_false,qx,qj,covR,Bool.false_and,if_false,Bool.false_eq_true,List.append_nil]) (fun o=>by simp only [q4v,dnl,qx])
  rw [List.nil_append] at this;exact this
theorem qld (l : List qd) (v : l.length≤400) (z : ∀ r∈l,vR r) : q75 l = some (if 400 < (mrgR 2 l []).length then ([],4) else (mrgR 2 l [],0)):=by
  unfold q75;rw [qtf l v];simp only [qj];have c : Qt (xsOf l ++ xsOf []) = Qt (xsOf l):=by simp [xsOf]
  obtain ⟨_,o,a⟩:=q8y (p:=l) (q:=[]) (by simp;omega);have g:=fun i=>qdo 2 (p:=l) (q:=[]) (by simp;omega) i;rw [c] at o a;have a : (Qt (xsOf l)).length≤2 * l.length:=by simpa using a
  have d : loop (q3f (Qt (xsOf l)) l) (1,[],0,0,[]) = some ((mrg 2 l []).sec,((mrg 2 l []).done.length : Int),(mrg 2 l []).hi,mrgR 2 l []):=by
    unfold mrgR mrg;rw [c] at g ⊢;generalize h : K5 (Qt (xsOf l)) (secJ 2 l []) = steps at g ⊢;have x : steps.length = (Qt (xsOf l)).length - 1:=by rw [← h];exact J8 _ _
    have j : Qy putR Qu (steps.take steps.length) = Qy putR Qu steps:=by rw [List.take_length]
    have key:=Yr (f:=q3f (Qt (xsOf l)) l) (fun k=>(((k + 1 : Nat) : Int),(Qy putR Qu (steps.take k)).sec,((Qy putR Qu (steps.take k)).done.length : Int),(Qy putR Qu (steps.take k)).hi,(Qy putR Qu (steps.take k)).flat putR))
      steps.length ((Qy putR Qu steps).sec,((Qy putR Qu steps).done.length : Int),(Qy putR Qu steps).hi,(Qy putR Qu steps).flat putR) (fun k s=>by
        have b : k + 1 < (Qt (xsOf l)).length:=by omega
        have w : steps[k] = ((Qt (xsOf l))[k],(Qt (xsOf l))[k + 1],secJ 2 l [] (Qt (xsOf l))[k]):=by
          subst h;exact Zd s b
        have y : idx (Qt (xsOf l)) (w64 (((k + 1 : Nat) : Int) - 1)) = some (Qt (xsOf l))[k]:=by rw [Ql q6];exact U9 q6 q6
        have aa:=J0 l (Qt (xsOf l))[k]
        have n : q3o (covS l (Qt (xsOf l))[k]) = some (secJ 2 l [] (Qt (xsOf l))[k],0):=by
          rw [qle];unfold qdh;rw [Q3 q6,qy (qrg z _)];rfl
        have m:=qe4 2 (p:=l) (q:=[]) (by simp;omega) (Qt (xsOf l))[k];have u:=g k;have hb:=qpi (Qy putR Qu (steps.take k)) (Qt (xsOf l))[k] (Qt (xsOf l))[k + 1] (secJ 2 l [] (Qt (xsOf l))[k]) (by simp at m;omega);rw [Uq putR s,w];simp only [q3f,dlt b,qz,y,Qq b,qj,show idx [l] 0 = some l from rfl,qte l v,n,hb]
        rw [w64s b q6]) (by
        rw [j];by_cases h0 : (Qt (xsOf l)).length = 0
        · have : decide (((steps.length + 1 : Nat) : Int) < ((Qt (xsOf l)).length : Int)) = false:=Qe q6;simp only [q3f,this,qx]
        · have : decide (((steps.length + 1 : Nat) : Int) < ((Qt (xsOf l)).length : Int)) = false:=Qe q6
          simp only [q3f,this,qx]) (Nat.zero_le _)
    exact key
  rw [d];simp only [qj];by_cases t : 400 < (mrgR 2 l []).length
  · rw [Qc (by omega : ((mrgR 2 l []).length : Int) > 400),qy t];rfl
  · rw [Qe (by omega : ¬ ((mrgR 2 l []).length : Int) > 400),Q3 t];rfl
end Go.Sh
namespace Go.Sh
open Go Go.Am
theorem qx0 {p q : List qd} (h : p.length + q.length≤490) : q35 p q = some (Qt (xsOf p ++ xsOf q)):=by
  have c : loop (q18 p) (0,[]) = some (xsOf p):=by
    have:=Yu p q6 (fun r=>[r.X0,r.X1]) [] (fun o=>o) (q18 p) (fun k a o b=>by
      have d : o.length = 2 * k:=by rw [b,List.nil_append];have:=Ze (p.take k);rw [List.length_take,Nat.min_eq_left q6] at this;exact this
      simp only [q18,dlt a,qz,Qq a,qj,w64s a q6];rw [Ke (by simp;omega)]
      rfl) (fun o=>by simp only [q18,dnl,qx])
    rw [List.nil_append] at this;exact this
  have f : loop (q19 q) (0,xsOf p) = some (xsOf p ++ xsOf q):=by
    have hp:=Ze p
    exact Yu q q6 (fun r=>[r.X0,r.X1]) (xsOf p) (fun o=>o) (q19 q) (fun k a o b=>by
      have d : o.length = 2 * p.length + 2 * k:=by
        rw [b,List.length_append,hp];have:=Ze (q.take k);rw [List.length_take,Nat.min_eq_left q6] at this;unfold xsOf at this;omega
      simp only [q19,dlt a,qz,Qq a,qj,w64s a q6];rw [Ke (by simp;omega)]
      rfl) (fun o=>by simp only [q19,dnl,qx])
  unfold q35;simp only [c,f,qj,(q8y h).1]
theorem qx1 {p q : List qd} (h : p.length + q.length≤490) : q36 p q = some (Qt (ysOf p ++ ysOf q)):=by
  have c : loop (q1a p) (0,[]) = some (ysOf p):=by
    have:=Yu p q6 (fun r=>[r.Y0,r.Y1]) [] (fun o=>o) (q1a p) (fun k a o b=>by
      have d : o.length = 2 * k:=by rw [b,List.nil_append];have:=q27 (p.take k);rw [List.length_take,Nat.min_eq_left q6] at this;exact this
      simp only [q1a,dlt a,qz,Qq a,qj,w64s a q6];rw [Ke (by simp;omega)]
      rfl) (fun o=>by simp only [q1a,dnl,qx])
    rw [List.nil_append] at this;exact this
  have f : loop (q1b q) (0,ysOf p) = some (ysOf p ++ ysOf q):=by
    have hp:=q27 p
    exact Yu q q6 (fun r=>[r.Y0,r.Y1]) (ysOf p) (fun o=>o) (q1b q) (fun k a o b=>by
      have d : o.length = 2 * p.length + 2 * k:=by
        rw [b,List.length_append,hp];have:=q27 (q.take k);rw [List.length_take,Nat.min_eq_left q6] at this;unfold ysOf at this;omega
      simp only [q1b,dlt a,qz,Qq a,qj,w64s a q6];rw [Ke (by simp;omega)]
      rfl) (fun o=>by simp only [q1b,dnl,qx])
  unfold q36;simp only [c,f,qj,(qfe h).1]
open Classical in
theorem qdw (l : List qd) (x y : Int) (g : l.length≤1000000) : q6d l x y = some (decide (hasR l x y)):=by
  let c : qd→Bool:=fun r=>decide (r.X0≤x) && (decide (x < r.X1) && (decide (r.Y0≤y) && decide (y < r.Y1)))
  have hs : ∀ (k : Nat) (h : k < l.length),q32 l x y (k : Int) = some (if c l[k] = true then .inr (.inr true) else .inl ((k + 1 : Nat) : Int)):=by
    intro k h;simp only [q32,dlt h,qz,Qq h,qj,w64s h g,c];by_cases d : l[k].X0≤x <;> by_cases a : x < l[k].X1 <;> by_cases m : l[k].Y0≤y <;> by_cases q : y < l[k].Y1 <;> simp [d,a,m,q]
  have hd : q32 l x y (l.length : Int) = some (.inr (.inl ())):=by simp only [q32,dnl,qx]
  unfold q6d;rcases q1l l c (fun _ _=>true) () (q32 l x y) hs hd with ⟨d,a⟩ | ⟨k,n,b,_,a⟩
  · rw [a]
    have : ¬ hasR l x y:=by
      rintro ⟨r,j,o,p,s,f⟩;have:=d r j;simp [c,o,p,s,f] at this
    simp [this]
  · rw [a]
    have : hasR l x y:=by
      simp only [c,Bool.and_eq_true,decide_eq_true_eq] at b;exact ⟨l[k],Kc n,b.1,b.2.1,b.2.2.1,b.2.2.2⟩
    simp [this]
theorem qdb {kind : Int} {a b : Prop} (h : Ky kind a b) : a∨b:=by
  rcases h with ⟨_,h,_⟩ | ⟨_,h⟩ | ⟨_,_,h,_⟩
  · exact .inl h
  · exact h
  · exact .inl h
theorem qda {kind : Int} {a b a' c : Prop} (d : a↔a') (f : b↔c) : Ky kind a b↔Ky kind a' c:=by
  unfold Ky;rw [d,f]
open Classical in
theorem qpx (kind : Int) {p q : List qd} (h : p.length + q.length≤490) (x : Int) :
    Uf (Qt (ysOf p ++ ysOf q)) ((Qt (ysOf p ++ ysOf q)).map fun y=>decide (Ky kind (hasR p x y) (hasR q x y))) = some (secJ kind p q x):=by
  obtain ⟨_,a,g⟩:=qfe h;generalize Qt (ysOf p ++ ysOf q) = ys at a g ⊢;obtain ⟨c,o,k⟩:=q8s ys (ys.map fun y=>decide (Ky kind (hasR p x y) (hasR q x y))) a.1 q6 qe;rw [o];have s:=J0 p x;have r:=J0 q x;have m:=(q2x kind (covS p x) (covS q x) q6 q6).2;have mp : ∀ z∈ends (covS p x),z∈ys:=fun z j=>(a.2 z).2 (List.mem_append.2 (.inl (qd2 j)));have mq : ∀ z∈ends (covS q x),z∈ys:=fun z j=>(a.2 z).2 (List.mem_append.2 (.inr (qd2 j)));congr 1;refine q29 k.can m.can fun z=>?_;unfold secJ;rw [k.pts z,m.pts z];constructor
  · rintro ⟨i,hi,n,_,f,b,d⟩;simp only [List.getElem_map,decide_eq_true_eq] at f;refine (qda ?_ ?_).2 f
    · rw [Ui a.1 mp hi b d,Zj]
    · rw [Ui a.1 mq hi b d,Zj]
  · intro l
    have : ∃ i,∃ (h : i + 1 < ys.length),ys[i]≤z∧z < ys[i + 1]:=by
      rcases qdb l with h | h
      · exact q5u a.1 mp h
      · exact q5u a.1 mq h
    obtain ⟨i,hi,b,d⟩:=this;refine ⟨i,hi,by simp;omega,q6,?_,b,d⟩;simp only [List.getElem_map,decide_eq_true_eq];refine (qda ?_ ?_).1 l
    · rw [Ui a.1 mp hi b d,Zj]
    · rw [Ui a.1 mq hi b d,Zj]
open Classical in
theorem qt0 (kind : Int) {p q : List qd} (h : p.length + q.length≤490) (ys xs : List Int) (d : ys.length≤1000000) (i : Nat) (hi : i < xs.length) (a : List qp × Int × Int × List qd) (f : a.2.2.1 = i) :
    loop (q16 ys xs a p q kind) (0,[]) = some (ys.map fun y=>decide (Ky kind (hasR p xs[i] y) (hasR q xs[i] y))):=by
  have:=Zu ys (fun y=>decide (Ky kind (hasR p xs[i] y) (hasR q xs[i] y))) [] (fun o=>o) (q16 ys xs a p q kind) (fun k b o c=>by
    simp only [q16,dlt b,qz,f,Qq b,Qq hi,qj,qdw p _ _ q6,qdw q _ _ q6,qfu,w64s b d];rw [Ke (by simp at c ⊢;omega)]
    rfl) (fun o=>by simp only [q16,dnl,qx])
  rw [List.nil_append] at this;exact this
theorem qt2 (kind : Int) {p q : List qd} (h : p.length + q.length≤490) {xs : List Int} (hx : xs.length≤1000000) {i : Nat} (hi : i + 1 < xs.length) (s : Mg qp qd) (hl : (s.flat putR).length + (secJ kind p q xs[i]).length≤1000000)
    (h0 : i = 0→s.sec = []) (h1 : 0 < i→s.hi = xs[i]) :
    Js xs (Qt (ysOf p ++ ysOf q)) p q kind (s.sec,(s.done.length : Int),(i : Int),s.flat putR) =
      some (.inl ((addM putR s xs[i] xs[i + 1] (secJ kind p q xs[i])).sec,((addM putR s xs[i] xs[i + 1] (secJ kind p q xs[i])).done.length : Int),((i + 1 : Nat) : Int),(addM putR s xs[i] xs[i + 1] (secJ kind p q xs[i])).flat putR)):=by
  have j : i < xs.length:=by omega
  have x : w64 ((i : Int) + 1) = ((i + 1 : Nat) : Int):=w64s j hx;have hy:=(qfe h).2.2;have ae : (s.flat putR).length = s.done.length + s.sec.length:=by simp [Mg.flat]
  have t:=qt0 kind h (Qt (ysOf p ++ ysOf q)) xs q6 i j (s.sec,(s.done.length : Int),(i : Int),s.flat putR) rfl;unfold Js;simp only [x,dlt hi,qz,t,qj,qpx kind h];generalize hc : secJ kind p q xs[i] = c at hl ⊢;by_cases a : 0 < i∧c = s.sec
  · obtain ⟨b,l⟩:=a;have hb : decide ((i : Int) > 0) = true:=Qc q6
    have d:=q3z (fun v : qd=>({X0:=v.X0,Y0:=v.Y0,X1:=xs[i + 1],Y1:=v.Y1} : qd)) s.done (s.sec.map (putR s.lo s.hi)) (by simp;omega) (q17 xs (s.sec,(s.done.length : Int),(i : Int),s.flat putR)) (fun k o f ho=>by
      have h5 : (s.done ++ s.sec.map (putR s.lo s.hi)).length = (s.flat putR).length:=rfl
      simp only [q17,dlt f,qz,Qq f,Qq hi,x,qj,w64s f q6,Int.toNat_natCast]) (fun o=>by simp only [q17,dnl,qx])
    have y : q2k c s.sec = some true:=by rw [qad _ _ q6];simp [l]
    have d : loop (q17 xs (s.sec,(s.done.length : Int),(i : Int),s.flat putR)) ((s.done.length : Int),s.flat putR) = _:=d;simp only [hb,qz,y,qj,d];rcases Jc putR s xs[i] xs[i + 1] c with ⟨_,_,_,g⟩ | ⟨h3,g⟩
    · rw [g];simp only [Mg.flat,List.map_map];rfl
    · have m : c = []:=Classical.byContradiction fun hn=>h3 ⟨hn,l,h1 b⟩;rw [g];simp [Mg.flat,← l,m]
  · have r : (cond (decide ((i : Int) > 0)) ((q2k c s.sec).bind fun n=>some n) (some false)) = some false:=by
      by_cases b : 0 < i
      · have hb : decide ((i : Int) > 0) = true:=Qc q6;have u : c≠s.sec:=fun h=>a ⟨b,h⟩;rw [hb,qz,qad _ _ q6];simp [u]
      · have hb : decide ((i : Int) > 0) = false:=Qe q6;rw [hb,qx]
    have w:=Zu c (putR xs[i] xs[i + 1]) (s.flat putR) (fun o=>(c,((s.flat putR).length : Int),o)) (q2l c xs (s.sec,(s.done.length : Int),(i : Int),s.flat putR)) (fun k f o ho=>by
      simp only [q2l,dlt f,qz,Qq f,Qq j,Qq hi,x,qj,w64s f q6];rw [Ke (by simp;omega)]
      rfl) (fun o=>by simp only [q2l,dnl,qx])
    have g : addM putR s xs[i] xs[i + 1] c = ⟨s.flat putR,c,xs[i],xs[i + 1]⟩:=by
      rcases Jc putR s xs[i] xs[i + 1] c with ⟨g1,z,_,_⟩ | ⟨_,g⟩
      · refine absurd ?_ a;refine ⟨Nat.pos_of_ne_zero fun h=>g1 ?_,z⟩;rw [z,h0 h]
      · exact g
    rw [g];simp only [r,qj,qx,w];simp [Mg.flat]
theorem q33 (kind : Int) {p q : List qd} (h : p.length + q.length≤490) : Z8 kind p q = some (mrgR kind p q):=by
  unfold Z8;rw [qx0 h,qx1 h];simp only [qj];obtain ⟨_,g,d⟩:=q8y h;have b:=fun i=>qdo kind h i;unfold mrgR mrg;generalize Qt (xsOf p ++ xsOf q) = xs at g d b ⊢;generalize a : K5 xs (secJ kind p q) = steps at b ⊢;have t : steps.length = xs.length - 1:=by rw [← a];exact J8 _ _
  have key:=Yr (f:=Js xs (Qt (ysOf p ++ ysOf q)) p q kind) (fun k=>((Qy putR Qu (steps.take k)).sec,((Qy putR Qu (steps.take k)).done.length : Int),(k : Int),(Qy putR Qu (steps.take k)).flat putR))
    steps.length ((Qy putR Qu steps).flat putR) (fun k j=>by
      have c : k + 1 < xs.length:=by omega
      have s : steps[k] = (xs[k],xs[k + 1],secJ kind p q xs[k]):=by subst a;exact Zd j c
      have o:=qe4 kind (p:=p) (q:=q) q6 xs[k];have n:=b k
      have:=qt2 kind h (xs:=xs) q6 c (Qy putR Qu (steps.take k)) q6 (fun r=>by subst r;rfl) (fun l=>by
        obtain ⟨m,rfl⟩ : ∃ m,k = m + 1:=⟨k - 1,q6⟩
        rw [Uq putR q6,q8m];subst a
        rw [Zd q6 q6])
      rw [this,Uq putR j,s]) (by
      rw [List.take_length]
      have hb : decide (w64 ((steps.length : Int) + 1) < (xs.length : Int)) = false:=by
        rw [Ql q6];exact Qe q6
      unfold Js
      simp only [hb,qx]) (Nat.zero_le _)
  have key : loop (Js xs (Qt (ysOf p ++ ysOf q)) p q kind) ([],0,0,[]) = some ((Qy putR Qu steps).flat putR):=key;rw [key];rfl
end Go.Sh
namespace Go.Sh
open Go Go.Am
noncomputable def Z4 (l : List qd) : Int:=if 400 < l.length then 4 else if ∀ r∈l,vR r then (if mrgR 2 l [] = l then 0 else 8) else 8
theorem qqs {l : List qd} (h : Z4 l = 0) : l.length≤400∧(∀ r∈l,vR r)∧mrgR 2 l [] = l:=by
  unfold Z4 at h;split at h
  · omega
  · split at h
    · split at h
      · rename_i a b c;exact ⟨q6,b,c⟩
      · omega
    · omega
theorem qy9 (l : List qd) (f : l.length≤1000000) : qai l (fun a=>q3b a) = some (decide (¬ ∀ r∈l,vR r)):=by
  have hs : ∀ (k : Nat) (h : k < l.length),q4y l (fun a=>q3b a) (k : Int) = some (if (fun r=>!decide (vR r)) l[k] = true then .inr (.inr (k : Int)) else .inl ((k + 1 : Nat) : Int)):=by
    intro k h;simp only [q4y,dlt h,qz,Qq h,qj,w64s h f,q3b,qho];by_cases d : vR l[k] <;> simp [d]
  have hd : q4y l (fun a=>q3b a) (l.length : Int) = some (.inr (.inl ())):=by simp only [q4y,dnl,qx]
  unfold qai qea;rcases q1l l (fun r=>!decide (vR r)) (fun k _=>(k : Int)) () _ hs hd with ⟨j,b⟩ | ⟨k,c,m,_,b⟩
  · rw [b];have : ∀ r∈l,vR r:=fun r g=>by simpa using j r g
    simp [];omega
  · rw [b];have : ¬ ∀ r∈l,vR r:=fun h=>by simp [h _ (Kc c)] at m
    simp only [qj];rw [Qc this,Qc q6]
theorem qn4 (l : List qd) : q72 l = some (Z4 l):=by
  unfold q72 Z4;by_cases d : 400 < l.length
  · rw [Qc (by omega : (l.length : Int) > 400),qz,qy d]
  rw [Qe (by omega : ¬ (l.length : Int) > 400),qx,Q3 d,qy9 l q6,qj];by_cases a : ∀ r∈l,vR r
  · rw [Qe (fun h=>h a),qx,qld l q6 a,qy a,qj];by_cases b : 400 < (mrgR 2 l []).length
    · have c : mrgR 2 l []≠l:=fun h=>by rw [h] at b;exact d b
      rw [qy b,Q3 c];rfl
    · rw [Q3 b];simp only [q95 (mrgR 2 l []) l q6];by_cases f : mrgR 2 l [] = l <;> simp [f]
  · rw [Qc a,qz,Q3 a]
theorem qww (l : List qd) : q6c l = some (Z4 l):=by
  unfold q6c Z4;by_cases c : 400 < l.length
  · rw [Qc (by omega : (l.length : Int) > 400),qz,qy c]
  rw [Qe (by omega : ¬ (l.length : Int) > 400),qx,Q3 c];have d : l.length≤1000000:=by omega
  have hs : ∀ (k : Nat) (h : k < l.length),q4j l (k : Int) = some (if (fun r=>!decide (vR r)) l[k] = true then .inr (.inr (8 : Int)) else .inl ((k + 1 : Nat) : Int)):=by
    intro k h;simp only [q4j,dlt h,qz,Qq h,qj,w64s h d,qms];by_cases j : vR l[k] <;> simp [j]
  have hd : q4j l (l.length : Int) = some (.inr (.inl ())):=by simp only [q4j,dnl,qx]
  rcases q1l l (fun r=>!decide (vR r)) (fun k _=>(8 : Int)) () _ hs hd with ⟨n,a⟩ | ⟨k,g,o,_,a⟩
  · rw [a];have : ∀ r∈l,vR r:=fun r f=>by simpa using n r f
    rw [qy this]
    have b : (mrgR 2 l []).length≤1000000:=by
      have:=qdo 2 (p:=l) (q:=[]) (by simp;omega) (K5 (Qt (xsOf l ++ xsOf [])) (secJ 2 l [])).length;rw [List.take_length] at this;unfold mrgR mrg;omega
    simp only [qj,q33 2 (p:=l) (q:=[]) (by simp;omega),qe1 _ l b];by_cases m : mrgR 2 l [] = l <;> simp [m]
  · rw [a];have : ¬ ∀ r∈l,vR r:=fun h=>by simp [h _ (Kc g)] at o
    rw [Q3 this];rfl
def putB (a b : Int) (r : qd) : qk:={Lo:={X:=r.X0,Y:=r.Y0,Z:=a},Hi:={X:=r.X1,Y:=r.Y1,Z:=b}}
def qjr (z : Int) : Prop:=-1000000≤z∧z≤1000000
instance (z : Int) : Decidable (qjr z):=by unfold qjr;infer_instance
end Go.Sh
namespace Go.Sh
open Go Go.Am
def covB (z : Int) (b : qk) : Bool:=decide (b.Lo.Z≤z) && decide (z < b.Hi.Z)
def Zl (b : qk) : qd:={X0:=b.Lo.X,Y0:=b.Lo.Y,X1:=b.Hi.X,Y1:=b.Hi.Y}
def atB (l : List qk) (z : Int) : List qd:=l.flatMap fun b=>if covB z b = true then [Zl b] else []
theorem Je (l : List qk) (x : Int) : (atB l x).length≤l.length:=by
  unfold atB
  induction l with
  | nil=>simp
  | cons r l ih=>
    simp only [List.flatMap_cons,List.length_append,List.length_cons];have : (if covB x r = true then [Zl r] else []).length≤1:=by split <;> simp
    omega
theorem q9v (l : List qk) (d : l.length≤1000000) (z : Int) : J6 l z = some (atB l z):=by
  have:=Yu l d (fun b=>if covB z b = true then [Zl b] else []) [] (fun o=>o) (q6n l z) (fun k a o g=>by
    have h : o.length≤k:=by rw [g,List.nil_append];have:=Je (l.take k) z;rw [List.length_take,Nat.min_eq_left q6] at this;exact this
    simp only [q6n,dlt a,qz,Qq a,qj,w64s a d];by_cases c : l[k].Lo.Z≤z
    · by_cases f : z < l[k].Hi.Z
      · simp only [c,f,decide_true,qz,qj,covB,Bool.and_self,if_true];rw [Ke (by simp;omega)];rfl
      · simp only [c,f,decide_true,decide_false,qz,qx,qj,covB,Bool.and_false,if_false,Bool.false_eq_true,List.append_nil]
    · simp only [c,decide_false,qx,qj,covB,Bool.false_and,if_false,Bool.false_eq_true,List.append_nil]) (fun o=>by simp only [q6n,dnl,qx])
  rw [List.nil_append] at this;unfold J6;rw [this];rfl
def zsOf (l : List qk) : List Int:=l.flatMap fun b=>[b.Lo.Z,b.Hi.Z]
theorem Zx (l : List qk) : (zsOf l).length = 2 * l.length:=by
  unfold zsOf;induction l with
  | nil=>rfl
  | cons r l ih=>simp only [List.flatMap_cons,List.length_append,List.length_cons,List.length_nil];omega
theorem qgp {p q : List qk} (h : p.length + q.length≤100000) : q37 p q = some (Qt (zsOf p ++ zsOf q)):=by
  have c : loop (q4o p) (0,[]) = some (zsOf p):=by
    have:=Yu p q6 (fun r=>[r.Lo.Z,r.Hi.Z]) [] (fun o=>o) (q4o p) (fun k a o b=>by
      have d : o.length = 2 * k:=by rw [b,List.nil_append];have:=Zx (p.take k);rw [List.length_take,Nat.min_eq_left q6] at this;exact this
      simp only [q4o,dlt a,qz,Qq a,qj,w64s a q6];rw [Ke (by simp;omega)]
      rfl) (fun o=>by simp only [q4o,dnl,qx])
    rw [List.nil_append] at this;exact this
  have f : loop (q4p q) (0,zsOf p) = some (zsOf p ++ zsOf q):=by
    have hp:=Zx p
    exact Yu q q6 (fun r=>[r.Lo.Z,r.Hi.Z]) (zsOf p) (fun o=>o) (q4p q) (fun k a o b=>by
      have d : o.length = 2 * p.length + 2 * k:=by
        rw [b,List.length_append,hp];have:=Zx (q.take k);rw [List.length_take,Nat.min_eq_left q6] at this;unfold zsOf at this;omega
      simp only [q4p,dlt a,qz,Qq a,qj,w64s a q6];rw [Ke (by simp;omega)]
      rfl) (fun o=>by simp only [q4p,dnl,qx])
  have j:=Zx p;have g:=Zx q;unfold q37;simp only [c,f,qj,(Zq (l:=zsOf p ++ zsOf q) (by simp;omega)).1]
structure qcl (kind : Int) (p q : List qk) (z : Int) : Prop where
  n : (atB p z).length + (atB q z).length≤490
  m : (mrgR kind (atB p z) (atB q z)).length≤400
  mp : (mrgR 2 (atB p z) []).length≤400
  mq : (mrgR 2 (atB q z) []).length≤400
noncomputable def secB (kind : Int) (p q : List qk) (z : Int) : List qd:=mrgR kind (atB p z) (atB q z)
theorem ql1 (kind : Int) {p q : List qk} (h : p.length + q.length≤100000) {xs : List Int} (hx : xs.length≤1000000) {i : Nat} (hi : i + 1 < xs.length) (x : qcl kind p q xs[i]) (s : Mg qd qk) (hl : (s.flat putB).length + 400≤1000000)
    (h0 : i = 0→s.sec = []) (h1 : 0 < i→s.hi = xs[i]) :
    Ug xs p q kind (s.sec,(s.done.length : Int),(i : Int),s.flat putB) =
      some (.inl ((addM putB s xs[i] xs[i + 1] (secB kind p q xs[i])).sec,((addM putB s xs[i] xs[i + 1] (secB kind p q xs[i])).done.length : Int),((i + 1 : Nat) : Int),(addM putB s xs[i] xs[i + 1] (secB kind p q xs[i])).flat putB)):=by
  have g : i < xs.length:=by omega
  have w : w64 ((i : Int) + 1) = ((i + 1 : Nat) : Int):=w64s g hx;have ao : (s.flat putB).length = s.done.length + s.sec.length:=by simp [Mg.flat]
  obtain ⟨z,hm,ah,ar⟩:=x;have ap : J6 p xs[i] = some (atB p xs[i]):=q9v p q6 _;have aq : J6 q xs[i] = some (atB q xs[i]):=q9v q q6 _;have jj : Z8 kind (atB p xs[i]) (atB q xs[i]) = some (secB kind p q xs[i]):=q33 kind z;have jp : Z8 2 (atB p xs[i]) [] = some (mrgR 2 (atB p xs[i]) []):=q33 2 (by simp;omega);have jq : Z8 2 (atB q xs[i]) [] = some (mrgR 2 (atB q xs[i]) []):=q33 2 (by simp;omega);have hm : (secB kind p q xs[i]).length≤400:=hm;have d1 : decide (((secB kind p q xs[i]).length : Int) > 400) = false:=Qe q6;have d2 : decide (((mrgR 2 (atB p xs[i]) []).length : Int) > 400) = false:=Qe q6;have d3 : decide (((mrgR 2 (atB q xs[i]) []).length : Int) > 400) = false:=Qe q6;unfold Ug;simp only [w,dlt hi,qz,Qq g,ap,aq,jj,jp,jq,d1,d2,d3,qx,qj];generalize hc : secB kind p q xs[i] = c at hm ⊢;by_cases a : 0 < i∧c = s.sec
  · obtain ⟨b,l⟩:=a;have hb : decide ((i : Int) > 0) = true:=Qc q6
    have d:=q3z (fun v : qk=>({Lo:=v.Lo,Hi:=({X:=v.Hi.X,Y:=v.Hi.Y,Z:=xs[i + 1]} : K7)} : qk)) s.done (s.sec.map (putB s.lo s.hi)) (by simp;omega) (q4q xs (s.sec,(s.done.length : Int),(i : Int),s.flat putB)) (fun k o j ho=>by
      have h5 : (s.done ++ s.sec.map (putB s.lo s.hi)).length = (s.flat putB).length:=rfl
      simp only [q4q,dlt j,qz,Qq j,Qq hi,w,qj,w64s j q6,Int.toNat_natCast]) (fun o=>by simp only [q4q,dnl,qx])
    have y : q34 c s.sec = some true:=by rw [qe1 _ _ q6];simp [l]
    have d : loop (q4q xs (s.sec,(s.done.length : Int),(i : Int),s.flat putB)) ((s.done.length : Int),s.flat putB) = _:=d;simp only [hb,qz,y,qj,d];rcases Jc putB s xs[i] xs[i + 1] c with ⟨_,_,_,f⟩ | ⟨h3,f⟩
    · rw [f];simp only [Mg.flat,List.map_map];rfl
    · have m : c = []:=Classical.byContradiction fun z=>h3 ⟨z,l,h1 b⟩;rw [f];simp [Mg.flat,← l,m]
  · have n : (cond (decide ((i : Int) > 0)) ((q34 c s.sec).bind fun r=>some r) (some false)) = some false:=by
      by_cases b : 0 < i
      · have hb : decide ((i : Int) > 0) = true:=Qc q6;have t : c≠s.sec:=fun h=>a ⟨b,h⟩;rw [hb,qz,qe1 _ _ q6];simp [t]
      · have hb : decide ((i : Int) > 0) = false:=Qe q6;rw [hb,qx]
    have u:=Zu c (putB xs[i] xs[i + 1]) (s.flat putB) (fun o=>(c,((s.flat putB).length : Int),o)) (q6r c xs (s.sec,(s.done.length : Int),(i : Int),s.flat putB)) (fun k j o ho=>by
      simp only [q6r,dlt j,qz,Qq j,Qq g,Qq hi,w,qj,w64s j q6];rw [Ke (by simp;omega)]
      rfl) (fun o=>by simp only [q6r,dnl,qx])
    have f : addM putB s xs[i] xs[i + 1] c = ⟨s.flat putB,c,xs[i],xs[i + 1]⟩:=by
      rcases Jc putB s xs[i] xs[i + 1] c with ⟨g1,g2,_,_⟩ | ⟨_,f⟩
      · refine absurd ?_ a;refine ⟨Nat.pos_of_ne_zero fun h=>g1 ?_,g2⟩;rw [g2,h0 h]
      · exact f
    rw [f];simp only [n,qj,qx,u];simp [Mg.flat]
noncomputable def mrgB (kind : Int) (p q : List qk) : List qk:=(Qy putB Qu (K5 (Qt (zsOf p ++ zsOf q)) (secB kind p q))).flat putB
theorem qxi (kind : Int) {p q : List qk} (h : p.length + q.length≤100000) (c : ∀ z,qcl kind p q z) (g : (Qt (zsOf p ++ zsOf q)).length≤2000) :
    q22 kind p q = some (mrgB kind p q,decide (((mrgB kind p q).length : Int)≤400)):=by
  unfold q22;rw [qgp h];simp only [qj];unfold mrgB;generalize Qt (zsOf p ++ zsOf q) = xs at g ⊢;generalize a : K5 xs (secB kind p q) = steps;have v : steps.length = xs.length - 1:=by rw [← a];exact J8 _ _
  have d : ∀ i,((Qy putB Qu (steps.take i)).flat putB).length≤2000 * 400:=fun i=>by
    have y:=q98 putB (s0:=Qu) (M:=400) (steps:=steps.take i) (fun t r=>by
      subst a
      exact qhi (M:=400) (fun x=>(c x).m) t (List.mem_of_mem_take r))
    have o : (steps.take i).length≤2000:=by rw [List.length_take];omega
    have h3 : (Qu.flat putB : List qk).length = 0:=rfl;have w : (steps.take i).length * 400≤2000 * 400:=Nat.mul_le_mul_right _ o;omega
  have key:=Yr (f:=Ug xs p q kind) (fun k=>((Qy putB Qu (steps.take k)).sec,((Qy putB Qu (steps.take k)).done.length : Int),(k : Int),(Qy putB Qu (steps.take k)).flat putB))
    steps.length (.inl ((Qy putB Qu steps).flat putB)) (fun k j=>by
      have b : k + 1 < xs.length:=by omega
      have u : steps[k] = (xs[k],xs[k + 1],secB kind p q xs[k]):=by subst a;exact Zd j b
      have n:=d k
      have:=ql1 kind h (xs:=xs) q6 b (c _) (Qy putB Qu (steps.take k)) q6 (fun s=>by subst s;rfl) (fun l=>by
        obtain ⟨m,rfl⟩ : ∃ m,k = m + 1:=⟨k - 1,q6⟩
        rw [Uq putB q6,q8m];subst a
        rw [Zd q6 q6])
      rw [this,Uq putB j,u]) (by
      rw [List.take_length]
      have hb : decide (w64 ((steps.length : Int) + 1) < (xs.length : Int)) = false:=by
        rw [Ql q6];exact Qe q6
      unfold Ug
      simp only [hb,qx]) (Nat.zero_le _)
  have key : loop (Ug xs p q kind) ([],0,0,[]) = some (.inl ((Qy putB Qu steps).flat putB)):=key;rw [key];rfl
section
variable {σ β : Type} (put : Int→Int→σ→β)
def Alike (s t : Mg σ β) : Prop:=s = t∨(s.flat put = t.flat put∧s.sec = []∧t.sec = [])
theorem Alike.flat {s t : Mg σ β} (h : Alike put s t) : s.flat put = t.flat put:=by
  rcases h with rfl | h
  · rfl
  · exact h.1
end
section
variable {σ β : Type} [DecidableEq σ] (put : Int→Int→σ→β)
def runM (sec : Int→List σ) : Mg σ β→List Int→Mg σ β
  | s,a::b::r=>runM sec (addM put s a b (sec a)) (b::r)
  | s,_=>s
theorem qju (sec : Int→List σ) : ∀ (c : List Int) (s : Mg σ β),Qy put s (K5 c sec) = runM put sec s c
  | [],s=>rfl
  | [a],s=>rfl
  | a::b::r,s=>by
    have:=qju sec (b::r) (addM put s a b (sec a))
    simp only [runM,← this]
    rfl
theorem Alike.add {s t : Mg σ β} (h : Alike put s t) (a b : Int) (c : List σ) : Alike put (addM put s a b c) (addM put t a b c):=by
  rcases h with rfl | ⟨m,k,n⟩
  · exact .inl rfl
  · refine .inl ?_;rcases Jc put s a b c with ⟨g,f,_,_⟩ | ⟨_,d⟩
    · exact absurd (f.trans k) g
    · rcases Jc put t a b c with ⟨j,o,_,_⟩ | ⟨_,l⟩
      · exact absurd (o.trans n) j
      · rw [d,l,m]
end
end Go.Sh
namespace Go.Sh
open Go Go.Am
structure Grp (σ : Type) where
  lo : Int
  hi : Int
  sec : List σ
section
variable {σ β : Type}
def CanG (gs : List (Grp σ)) : Prop:=(∀ g∈gs,g.lo < g.hi∧g.sec≠[])∧gs.Pairwise (fun g h=>g.hi≤h.lo∧(g.hi = h.lo→g.sec≠h.sec))
def secG : List (Grp σ)→Int→List σ
  | [],_=>[]
  | g::r,x=>if g.lo≤x∧x < g.hi then g.sec else secG r x
def K3 (put : Int→Int→σ→β) (gs : List (Grp σ)) : List β:=gs.flatMap fun g=>g.sec.map (put g.lo g.hi)
theorem q5s (put : Int→Int→σ→β) (a b : List (Grp σ)) : K3 put (a ++ b) = K3 put a ++ K3 put b:=by simp [K3]
theorem q2n {y x : Int} : ∀ {r : List (Grp σ)},(∀ h∈r,y≤h.lo)→x < y→secG r x = []
  | [],_,_=>rfl
  | g::r,h,hx=>by
    have:=h g qe
    rw [secG,Q3 q6]
    exact q2n (fun k a=>h k (by simp [a])) hx
theorem q3h {y x : Int} : ∀ {r : List (Grp σ)},(∀ h∈r,h.hi≤y)→y≤x→secG r x = []
  | [],_,_=>rfl
  | g::r,h,hx=>by
    have:=h g qe
    rw [secG,Q3 q6]
    exact q3h (fun k a=>h k (by simp [a])) hx
theorem qae {x : Int} : ∀ {a b : List (Grp σ)},secG a x = []→(∀ g∈a,g.sec≠[])→secG (a ++ b) x = secG b x
  | [],_,_,_=>rfl
  | g::a,b,h,hne=>by
    rw [secG] at h
    split at h
    · exact absurd h (hne g qe)
    · rename_i d
      rw [List.cons_append,secG,Q3 d]
      exact qae h fun k c=>hne k (by simp [c])
theorem qgx {y x : Int} {a b : List (Grp σ)} (hb : ∀ h∈b,y≤h.lo) (c : x < y) : secG (a ++ b) x = secG a x:=by
  induction a with
  | nil=>exact q2n hb c
  | cons g a ih=>simp only [List.cons_append,secG,ih]
theorem CanG.tail {g : Grp σ} {r : List (Grp σ)} (h : CanG (g::r)) : CanG r:=⟨fun k a=>h.1 k (by simp [a]),(List.pairwise_cons.1 h.2).2⟩
theorem CanG.nxt {g : Grp σ} {r : List (Grp σ)} (h : CanG (g::r)) : ∀ k∈r,g.hi≤k.lo∧(g.hi = k.lo→g.sec≠k.sec):=(List.pairwise_cons.1 h.2).1
theorem q3g {g : Grp σ} {r : List (Grp σ)} {x : Int} (a : g.lo≤x) (b : x < g.hi) : secG (g::r) x = g.sec:=by rw [secG,qy ⟨a,b⟩]
theorem qzw {g : Grp σ} {r : List (Grp σ)} (h : CanG (g::r)) : secG (g::r) g.hi≠g.sec:=by
  rw [secG,Q3 q6]
  cases r with
  | nil=>exact fun e=>(h.1 g qe).2 e.symm
  | cons k r=>
    have b:=h.nxt k qe;have c:=h.tail.1 k qe;by_cases d : g.hi = k.lo
    · rw [q3g q6 q6];exact fun e=>b.2 d e.symm
    · rw [secG,Q3 q6,q2n (y:=k.hi) (fun m a=>(h.tail.nxt m a).1) q6];exact fun e=>(h.1 g qe).2 e.symm
theorem qf2 : ∀ {a b : List (Grp σ)},CanG a→CanG b→(∀ x,secG a x = secG b x)→a = b
  | [],[],_,_,_=>rfl
  | [],g::r,_,hb,h=>by
    have:=h g.lo
    rw [q3g (Int.le_refl _) (hb.1 g qe).1] at this
    exact absurd this.symm (hb.1 g qe).2
  | g::r,[],c,_,h=>by
    have:=h g.lo
    rw [q3g (Int.le_refl _) (c.1 g qe).1] at this
    exact absurd this (c.1 g qe).2
  | g::r,k::s,c,hb,h=>by
    have q:=c.1 g qe
    have t:=hb.1 k qe
    have low : ∀ {g k : Grp σ} {r s : List (Grp σ)},CanG (g::r)→CanG (k::s)→(∀ x,secG (g::r) x = secG (k::s) x)→k.lo≤g.lo:=by
      intro g k r s c hb h;refine Int.not_lt.1 fun f=>?_;have d:=h g.lo;rw [q3g (Int.le_refl _) (c.1 g qe).1,q2n (y:=k.lo) (fun m j=>?_) f] at d
      · exact (c.1 g qe).2 d
      · rcases List.mem_cons.1 j with rfl | j
        · exact Int.le_refl _
        · have:=(hb.nxt m j).1;have:=(hb.1 k qe).1;omega
    have n : g.lo = k.lo:=Int.le_antisymm (low hb c fun x=>(h x).symm) (low c hb h)
    have l : g.sec = k.sec:=by
      have d:=h g.lo
      rwa [q3g (Int.le_refl _) q.1,q3g q6 q6] at d
    have hi : ∀ {g k : Grp σ} {r s : List (Grp σ)},CanG (g::r)→CanG (k::s)→(∀ x,secG (g::r) x = secG (k::s) x)→g.lo = k.lo→g.sec = k.sec→k.hi≤g.hi:=by
      intro g k r s c hb h n l;refine Int.not_lt.1 fun f=>?_;have d:=h g.hi;have:=(c.1 g qe).1;rw [q3g (g:=k) q6 f,← l] at d;exact qzw c d
    have p : g.hi = k.hi:=Int.le_antisymm (hi hb c (fun x=>(h x).symm) n.symm l.symm) (hi c hb h n l)
    have e : g = k:=by cases g;cases k;simp at n l p;simp [n,l,p]
    subst e
    have : r = s:=qf2 c.tail hb.tail fun x=>by
      by_cases o : x < g.hi
      · rw [q2n (y:=g.hi) (fun m j=>(c.nxt m j).1) o,q2n (y:=g.hi) (fun m j=>(hb.nxt m j).1) o]
      · have d:=h x
        rwa [secG,secG,Q3 q6,Q3 q6] at d
    rw [this]
def curG (s : Mg σ β) : List (Grp σ):=if s.sec = [] then [] else [⟨s.lo,s.hi,s.sec⟩]
def secC (sec : Int→List σ) : List Int→Int→List σ
  | a::b::r,x=>if a≤x∧x < b then sec a else secC sec (b::r) x
  | _,_=>[]
theorem qfk (put : Int→Int→σ→β) (s : Mg σ β) (a : List (Grp σ)) (h : s.done = K3 put a) : s.flat put = K3 put (a ++ curG s):=by
  rw [q5s,Mg.flat,h];unfold curG;split
  · rename_i b;simp [b,K3]
  · simp [K3]
theorem qdj {s : Mg σ β} {g : Grp σ} (h : g∈curG s) : s.sec≠[]∧g = ⟨s.lo,s.hi,s.sec⟩:=by
  unfold curG at h;split at h
  · cases h
  · rename_i a;exact ⟨a,by simpa using h⟩
theorem qe3 (sec : Int→List σ) {x : Int} : ∀ {d : List Int},d.Pairwise (· < ·)→
    (∀ a∈d,a≤x→(∀ c∈d,c≤a∨x < c)→sec a = sec x)→((∀ c∈d,x < c)→sec x = [])→((∀ c∈d,c≤x)→sec x = [])→secC sec d x = sec x
  | [],_,_,h2,_=>(h2 qe).symm
  | [a],_,_,h2,h3=>by
    rw [secC]
    · by_cases k : x < a
      · exact (h2 (by simpa using k)).symm
      · exact (h3 (by simpa using k)).symm
    · intro a b r h;simp at h
  | a::b::r,hp,h1,h2,h3=>by
    have o : a < b:=(List.pairwise_cons.1 hp).1 b qe
    have m:=(List.pairwise_cons.1 (List.pairwise_cons.1 hp).2).1
    rw [secC]
    split
    · rename_i k
      refine h1 a qe k.1 fun c f=>?_
      rcases List.mem_cons.1 f with rfl | f
      · exact .inl (Int.le_refl _)
      · rcases List.mem_cons.1 f with rfl | f
        · exact .inr k.2
        · have:=m c f;exact .inr q6
    · rename_i k
      by_cases n : x < a
      · have e : sec x = []:=h2 fun c f=>by
          rcases List.mem_cons.1 f with rfl | f
          · exact n
          · have:=(List.pairwise_cons.1 hp).1 c f;omega
        have:=qe3 sec (x:=x) (List.pairwise_cons.1 hp).2 (fun a' j l _=>by
          exfalso;have:=(List.pairwise_cons.1 hp).1 a' j;omega) (fun _=>e) (fun _=>e)
        exact this
      · have p : b≤x:=by omega
        exact qe3 sec (List.pairwise_cons.1 hp).2 (fun a' j l g=>h1 a' (by simp [j]) l fun c f=>by
          rcases List.mem_cons.1 f with rfl | f
          · have:=(List.pairwise_cons.1 hp).1 a' j;exact .inl q6
          · exact g c f) (fun g=>by have:=g b qe;omega) (fun g=>h3 fun c f=>by
          rcases List.mem_cons.1 f with rfl | f
          · omega
          · exact g c f)
variable [DecidableEq σ] (put : Int→Int→σ→β)
structure InvG (s : Mg σ β) (gs : List (Grp σ)) (c : Int) : Prop where
  done : s.done = K3 put gs
  can : CanG (gs ++ curG s)
  le : ∀ g∈gs ++ curG s,g.hi≤c
  gap : s.sec = []→∀ g∈gs,g.hi = c→False
theorem ql0 {s : Mg σ β} {l : List (Grp σ)} {a b : Int} {c : List σ} (v : a < b) (hi : InvG put s l a) :
    ∃ p,InvG put (addM put s a b c) p b∧∀ x,secG (p ++ curG (addM put s a b c)) x = if a≤x∧x < b then c else secG (l ++ curG s) x:=by
  rcases Jc put s a b c with ⟨h1,h2,h3,z⟩ | ⟨h1,z⟩
  · rw [z];have hs : s.sec≠[]:=h2 ▸ h1;have c1 : curG s = [⟨s.lo,s.hi,s.sec⟩]:=by unfold curG;rw [Q3 hs]
    have c2 : curG (⟨s.done,s.sec,s.lo,b⟩ : Mg σ β) = [⟨s.lo,b,s.sec⟩]:=by unfold curG;rw [Q3 hs]
    have f:=hi.can;rw [c1] at f;have ai : s.lo < s.hi:=(f.1 ⟨s.lo,s.hi,s.sec⟩ qe).1;refine ⟨l,⟨hi.done,?_,?_,fun h=>absurd h hs⟩,?_⟩
    · rw [c2];refine ⟨fun g d=>?_,?_⟩
      · rcases List.mem_append.1 d with d | d
        · exact f.1 g (by simp [d])
        · obtain rfl:=List.mem_singleton.1 d;exact ⟨by simp only;omega,hs⟩
      · have:=List.pairwise_append.1 f.2;refine List.pairwise_append.2 ⟨this.1,qe,fun g d k w=>?_⟩;obtain rfl:=List.mem_singleton.1 w;exact this.2.2 g d ⟨s.lo,s.hi,s.sec⟩ qe
    · rw [c2];intro g d;rcases List.mem_append.1 d with d | d
      · have:=hi.le g (by simp [d]);omega
      · obtain rfl:=List.mem_singleton.1 d;exact Int.le_refl _
    · intro x;rw [c1,c2];have ad : ∀ g∈l,g.hi≤s.lo:=fun g d=>((List.pairwise_append.1 f.2).2.2 g d ⟨s.lo,s.hi,s.sec⟩ qe).1;have r : ∀ g∈l,g.sec≠[]:=fun g d=>(f.1 g (by simp [d])).2;by_cases n : x < s.lo
      · rw [Q3 q6,qgx (y:=s.lo) qe n,qgx (y:=s.lo) qe n]
      · have e : secG l x = []:=q3h ad q6;rw [qae e r,qae e r];simp only [secG];by_cases u : x < s.hi
        · rw [qy ⟨q6,q6⟩,Q3 q6,qy ⟨q6,u⟩]
        · by_cases o : x < b
          · rw [qy ⟨q6,o⟩,qy ⟨q6,o⟩,h2]
          · rw [Q3 q6,Q3 q6,Q3 q6]
  · rw [z];have hd : s.flat put = K3 put (l ++ curG s):=qfk put s l hi.done;refine ⟨l ++ curG s,⟨hd,?_,?_,?_⟩,?_⟩
    · by_cases m : c = []
      · have : curG (⟨s.flat put,c,a,b⟩ : Mg σ β) = []:=by unfold curG;rw [qy m]
        rw [this,List.append_nil];exact hi.can
      · have : curG (⟨s.flat put,c,a,b⟩ : Mg σ β) = [⟨a,b,c⟩]:=by unfold curG;rw [Q3 m]
        rw [this];refine ⟨fun g d=>?_,List.pairwise_append.2 ⟨hi.can.2,qe,fun g d k w=>?_⟩⟩
        · rcases List.mem_append.1 d with d | d
          · exact hi.can.1 g d
          · obtain rfl:=List.mem_singleton.1 d;exact ⟨v,m⟩
        · obtain rfl:=List.mem_singleton.1 w;refine ⟨hi.le g d,fun t q=>?_⟩;rcases List.mem_append.1 d with j | j
          · by_cases hs : s.sec = []
            · exact hi.gap hs g j t
            · have h5 : (⟨s.lo,s.hi,s.sec⟩ : Grp σ)∈curG s:=by unfold curG;rw [Q3 hs];simp
              have h6:=((List.pairwise_append.1 hi.can.2).2.2 g j _ h5).1;have h7:=(hi.can.1 _ (List.mem_append.2 (.inr h5))).1;have h8:=hi.le _ (List.mem_append.2 (.inr h5));simp only at t h6 h7 h8;omega
          · obtain ⟨hs,rfl⟩:=qdj j;exact h1 ⟨m,q.symm,t⟩
    · intro g d;rcases List.mem_append.1 d with d | d
      · have:=hi.le g d;omega
      · obtain ⟨_,rfl⟩:=qdj d;exact Int.le_refl _
    · intro m g d t;have:=hi.le g d;omega
    · intro x;by_cases n : a≤x∧x < b
      · rw [qy n,qae (q3h hi.le n.1) fun g d=>(hi.can.1 g d).2];unfold curG;split
        · rename_i m;simp only at m;rw [m];rfl
        · simp only [secG];rw [qy n]
      · rw [Q3 n];by_cases ac : x < a
        · exact qgx (y:=a) (fun g d=>by obtain ⟨_,rfl⟩:=qdj d;exact Int.le_refl _) ac
        · have e:=q3h (x:=x) hi.le q6;rw [qae e fun g d=>(hi.can.1 g d).2,e];exact q3h (y:=b) (fun g d=>by obtain ⟨_,rfl⟩:=qdj d;exact Int.le_refl _) q6
theorem qnh (sec : Int→List σ) : ∀ (d : List Int) (c : Int) (s : Mg σ β) (h : List (Grp σ)),(c::d).Pairwise (· < ·)→InvG put s h c→
    ∃ f,(runM put sec s (c::d)).flat put = K3 put f∧CanG f∧∀ x,secG f x = if x < c then secG (h ++ curG s) x else secC sec (c::d) x
  | [],c,s,h,_,hi=>by
    refine ⟨h ++ curG s,qfk put s h hi.done,hi.can,fun x=>?_⟩
    by_cases k : x < c
    · rw [qy k]
    · rw [Q3 k];exact q3h hi.le q6
  | b::d,a,s,h,hp,hi=>by
    have n : a < b:=(List.pairwise_cons.1 hp).1 b qe
    obtain ⟨f,l,j⟩:=ql0 (b:=b) (c:=sec a) put n hi
    obtain ⟨m,o,q,p⟩:=qnh sec d b _ f (List.pairwise_cons.1 hp).2 l
    refine ⟨m,o,q,fun x=>?_⟩
    rw [p x]
    by_cases k : x < a
    · rw [qy q6,qy k,j,Q3 q6]
    · rw [Q3 k]
      simp only [secC]
      by_cases g : x < b
      · rw [qy g,j,qy ⟨q6,g⟩,qy ⟨q6,g⟩]
      · rw [Q3 g,Q3 q6]
theorem qlk (sec : Int→List σ) {a : List Int} (f : a.Pairwise (· < ·)) :
    ∃ d,(Qy put Qu (K5 a sec)).flat put = K3 put d∧CanG d∧∀ x,secG d x = secC sec a x:=by
  rw [qju]
  cases a with
  | nil=>exact ⟨[],rfl,⟨qe,qe⟩,fun x=>rfl⟩
  | cons c a=>
    obtain ⟨d,h,k,j⟩:=qnh put sec a c (Qu : Mg σ β) [] f ⟨rfl,⟨by simp [curG,Qu],by simp [curG,Qu]⟩,by simp [curG,Qu],qe⟩;refine ⟨d,h,k,fun x=>?_⟩;rw [j x];split
    · rename_i g
      have : ∀ (a : List Int) (c : Int),(c::a).Pairwise (· < ·)→x < c→secC sec (c::a) x = []:=by
        intro a
        induction a with
        | nil=>intros;rfl
        | cons b r ih=>
          intro c hp g;rw [secC,Q3 q6];exact ih b (List.pairwise_cons.1 hp).2 (by have:=(List.pairwise_cons.1 hp).1 b qe;omega)
      rw [this a c f g];rfl
    · rfl
end
end Go.Sh
