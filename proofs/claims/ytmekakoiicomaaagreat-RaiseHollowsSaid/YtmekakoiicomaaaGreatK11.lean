/- Pj3 Po1 Pt1 Pt2 Pt3 Pt4 Pt5 Pt6 Pt7 -/
import Derived.Test.YtmekakoiicomaaaGreatK10
namespace Go.Sh
open Go Go.Am
noncomputable def Zw (kind : Int) (p q : List ql) : List ql:=(qek kind p q).getD []
theorem q4h (kind : Int) (p q : List ql) (hp : p.length≤100000) (b : q.length≤100000) : qek kind p q = some (Zw kind p q)∧qfo kind p q (Zw kind p q):=by
  obtain ⟨out,a,c⟩:=quw kind p q hp b;unfold Zw;rw [a];exact ⟨rfl,c⟩
noncomputable def opS (kind : Int) (p q : List ql) : List ql × Int:=
  if Yu p≠0 then ([],Yu p) else if Yu q≠0 then ([],Yu q) else if 400 < (Zw kind p q).length then ([],4) else (Zw kind p q,0)
open Classical in
theorem quq (kind : Int) (f : Bool→Bool→Bool) (c : f false false = false) (d : ∀ a b : Prop,(f (decide a) (decide b) = true↔Y9 kind a b)) (p2 : Bool→Bool→Option Bool) (hp2 : ∀ a b,p2 a b = some (f a b))
    (p q : List ql) (hp : p.length≤500) (l : q.length≤500) (m : ∀ t∈p,vld t) (h : ∀ t∈q,vld t) : q3y p q p2 = some (Zw kind p q):=by
  obtain ⟨out,n,g,k⟩:=qmf f c p2 hp2 p q hp l m h;obtain ⟨_,j⟩:=q4h kind p q q6 q6;rw [n];congr 1;refine q35 g j.can fun x=>?_;rw [k,j.pts,d]
open Classical in
theorem qsb (kind : Int) (f : Bool→Bool→Bool) (j : f false false = false) (m : ∀ a b : Prop,(f (decide a) (decide b) = true↔Y9 kind a b)) (p2 : Bool→Bool→Option Bool) (hp2 : ∀ a b,p2 a b = some (f a b))
    (p q : List ql) : qcw p q p2 = some (opS kind p q):=by
  unfold qcw opS;simp only [qg8,qn];by_cases d : Yu p = 0
  · have g : (Yu p != 0) = false:=by simpa using d
    simp only [g,Q4];simp only [d,ne_eq,not_true_eq_false,if_false];by_cases c : Yu q = 0
    · have l : (Yu q != 0) = false:=by simpa using c
      obtain ⟨r,n⟩:=qg7 d;obtain ⟨s,o⟩:=qg7 c;simp only [c,not_true_eq_false,if_false,quq kind f j m p2 hp2 p q q6 q6 n.1 o.1,qn];by_cases k : 400 < (Zw kind p q).length
      · have h : decide (((Zw kind p q).length : Int) > 400) = true:=Qr q6;rw [h,Q1 k];rfl
      · have h : decide (((Zw kind p q).length : Int) > 400) = false:=Qs q6;rw [h,Q2 k];rfl
    · have l : (Yu q != 0) = true:=by simpa using c
      simp only [l,Q5,c,not_false_eq_true,if_true]
  · have g : (Yu p != 0) = true:=by simpa using d
    simp only [g,Q5,d,ne_eq,not_false_eq_true,if_true]
theorem qvb (p q : List ql) : q8z p q = some (opS 3 p q):=by
  classical
  unfold q8z;rw [qsb 3 (fun a b=>a && !b) rfl (by intro a b;by_cases c : a <;> by_cases hb : b <;> simp [Y9,c,hb]) _ (by intro a b;cases a <;> rfl)];rfl
theorem qui (s : List ql) (b : ql→Option Bool) (c : ql→Bool) (h : ∀ t,b t = some (c t)) (q : s.length≤1000000) :
    ∃ r,qb3 s b = some r∧decide (r ≥ 0) = s.any c:=by
  have:=J6 (f:=q3s s b) (σ:=Unit) (fun k _=>(k : Int)) s.length (fun k _=>∀ i (h : i < s.length),i < k→c s[i] = false)
    (fun m=>∃ r : Int,(match m with | .inl b22=>some (-1) | .inr x1=>some x1) = some r∧decide (r ≥ 0) = s.any c) ?_ ?_ (k0:=0) (c0:=()) q6 (fun i _ hi=>q6)
  · obtain ⟨m,j,r,l,o⟩:=this;have j : loop (q3s s b) 0 = some m:=j;exact ⟨r,by unfold qb3;rw [j];exact l,o⟩
  · rintro k _ g hi;have hb : decide ((k : Int) < (s.length : Int)) = true:=Qr q6
    cases d : c s[k] with
    | true=>
      refine .inr ⟨.inr (k : Int),?_,(k : Int),rfl,?_⟩
      · simp only [q3s,hb,Q5,K3 g,qn,h,d]
      · have : s.any c = true:=List.any_eq_true.2 ⟨s[k],Kf g,d⟩;rw [this];exact Qr q6
    | false=>
      refine .inl ⟨(),?_,?_⟩
      · simp only [q3s,hb,Q5,K3 g,qn,h,d,Q4];rw [Qm q6];rfl
      · intro i a p;by_cases e : i = k
        · subst e;exact d
        · exact hi i a q6
  · rintro _ hi;have hb : decide ((s.length : Int) < (s.length : Int)) = false:=Qs q6;refine ⟨.inl (),by simp only [q3s,hb,Q4],-1,rfl,?_⟩
    have : s.any c = false:=by
      rw [List.any_eq_false];intro t n;obtain ⟨i,a,rfl⟩:=List.mem_iff_getElem.1 n;simp [hi i a a]
    rw [this];rfl
theorem qss (s : List ql) (a : ql→Option Bool) (c : ql→Bool) (h : ∀ t,a t = some (c t)) (b : s.length≤1000000) : qaz s a = some (s.any c):=by
  obtain ⟨r,f,d⟩:=qui s a c h b;unfold qaz;rw [f,qn,d]
open Classical in
noncomputable def qe6 (s : List ql) : List ql × Int:=if 400 < s.length then ([],4) else if ∀ t∈s,vld t then (Zw 2 s [],0) else ([],8)
theorem qv8 (s : List ql) (k : s.length≤400) (c : ∀ t∈s,vld t) (p2 : Bool→Bool→Option Bool) (hp2 : ∀ a b,p2 a b = some a) : q3y s [] p2 = some (Zw 2 s []):=by
  classical
  obtain ⟨out,f,d,h⟩:=qmf (fun a _=>a) rfl p2 hp2 s [] q6 qg c (fun t g=>by cases g);obtain ⟨_,j⟩:=q4h 2 s [] q6 qg;rw [f];congr 1;refine q35 d j.can fun x=>?_;rw [h,j.pts];simp [Y9,q2p]
theorem qms (s : List ql) : q3x s = some (qe6 s):=by
  classical
  unfold q3x qe6;by_cases f : 400 < s.length
  · have e : decide ((s.length : Int) > 400) = true:=Qr q6;rw [e,Q1 f];rfl
  · have e : decide ((s.length : Int) > 400) = false:=Qs q6;rw [e,Q2 f,Q4,qss s _ (fun t=>!decide (vld t)) (fun t=>by show (q3z t).bind _ = _;rw [qqc];rfl) q6,qn];by_cases c : ∀ t∈s,vld t
    · have : (s.any fun t=>!decide (vld t)) = false:=by
        rw [List.any_eq_false];intro t d;simp [c t d]
      rw [this,Q4,Q1 c,qv8 s q6 c (fun g j=>qcv g j) (fun a b=>rfl)];rfl
    · have : (s.any fun t=>!decide (vld t)) = true:=by
        rw [List.any_eq_true];obtain ⟨t,c⟩:=Classical.not_forall.1 c;obtain ⟨d,h⟩:=Classical.not_imp.1 c;exact ⟨t,d,by simp [h]⟩
      rw [this,Q5,Q2 c]
def lenL : List ql→Int
  | []=>0
  | t::s=>(t.Hi - t.Lo) + lenL s
theorem qml (a b : List ql) : lenL (a ++ b) = lenL a + lenL b:=by
  induction a with
  | nil=>simp [lenL]
  | cons t a ih=>simp only [List.cons_append,lenL,ih];omega
theorem qmm : ∀ {s : List ql},(∀ t∈s,vld t)→0≤lenL s∧lenL s≤2000000 * (s.length : Int)
  | [],_=>by simp [lenL]
  | t::s,h=>by
    obtain ⟨d,b⟩:=qmm (fun t a=>h t (List.mem_cons_of_mem _ a))
    obtain ⟨g,f,c⟩:=h t qg
    simp only [lenL,List.length_cons]
    omega
noncomputable def qh8 (s : List ql) : Int × Int:=if Yu s = 0 then (lenL s,0) else (0,Yu s)
theorem quz (s : List ql) (o : s.length≤400) (g : ∀ t∈s,vld t) : loop (qcu s) (0,0) = some (lenL s)∧loop (qad s) (0,0) = some (lenL s):=by
  have d : ∀ k,0≤lenL (s.take k)∧lenL (s.take k)≤800000000:=by
    intro k;have:=qmm (s:=s.take k) (fun t n=>g t (List.mem_of_mem_take n));have : (s.take k).length≤400:=by rw [List.length_take];omega
    omega
  constructor
  · have:=J6 (f:=qcu s) (σ:=Int) (fun k c=>(c,(k : Int))) s.length (fun k c=>c = lenL (s.take k)) (fun r=>r = lenL s) ?_ ?_ (k0:=0) (c0:=0) q6 (by simp [lenL])
    · obtain ⟨b,h,rfl⟩:=this;exact h
    · rintro k c a rfl;have hb : decide ((k : Int) < (s.length : Int)) = true:=Qr q6;obtain ⟨m,l,j⟩:=g _ (Kf a);have:=d k;refine .inl ⟨lenL (s.take (k + 1)),?_,rfl⟩;simp only [qcu,hb,Q5,K3 a,qn];rw [Qm (x:=s[k].Hi - s[k].Lo) q6,Qm (x:=lenL (s.take k) + _) q6,Qm q6,List.take_succ_eq_append_getElem a,qml];simp only [lenL,Int.add_zero];rfl
    · rintro c rfl;have hb : decide ((s.length : Int) < (s.length : Int)) = false:=Qs q6;exact ⟨_,by simp only [qcu,hb,Q4];rfl,by rw [List.take_length]⟩
  · have:=J6 (f:=qad s) (σ:=Int) (fun k c=>(c,(k : Int))) s.length (fun k c=>c = lenL (s.take k)) (fun r=>r = lenL s) ?_ ?_ (k0:=0) (c0:=0) q6 (by simp [lenL])
    · obtain ⟨b,h,rfl⟩:=this;exact h
    · rintro k c a rfl;have hb : decide ((k : Int) < (s.length : Int)) = true:=Qr q6;obtain ⟨m,l,j⟩:=g _ (Kf a);have:=d k;refine .inl ⟨lenL (s.take (k + 1)),?_,rfl⟩;simp only [qad,hb,Q5,K3 a,qn];rw [Qm (x:=lenL (s.take k) + s[k].Hi) q6,Qm (x:=lenL (s.take k) + s[k].Hi - _) q6,Qm q6,List.take_succ_eq_append_getElem a,qml];have : lenL (s.take k) + s[k].Hi - s[k].Lo = lenL (s.take k) + lenL [s[k]]:=by simp only [lenL];omega
      rw [this];rfl
    · rintro c rfl;have hb : decide ((s.length : Int) < (s.length : Int)) = false:=Qs q6;exact ⟨_,by simp only [qad,hb,Q4];rfl,by rw [List.take_length]⟩
theorem q17l (s : List ql) : qpr s = some (qh8 s)∧qo3 s = some (qh8 s):=by
  unfold qpr qo3 qh8;simp only [qg8,qyq,qn];by_cases h : Yu s = 0
  · obtain ⟨c,d⟩:=qg7 h;obtain ⟨a,b⟩:=quz s c d.1;have e : (Yu s != 0) = false:=by simpa using h
    simp only [e,Q4,a,b,qn];simp only [h,if_true];exact ⟨trivial,trivial⟩
  · have e : (Yu s != 0) = true:=by simpa using h
    simp only [e,Q5,Q2 h];exact ⟨trivial,trivial⟩
end Go.Sh
set_option maxHeartbeats 4000000
namespace Go.Sh
open Go Go.Am
def sg (a b : Int) : Int:=if a < b then -1 else 0
theorem Jl {a b : Int} : decide (sg a b < 0) = decide (a < b):=by
  unfold sg;by_cases h : a < b <;> simp [h]
def qO (a b : Int) : Option Int:=some (sg a b)
theorem U6 (a b : Int) : qO a b = some (sg a b):=rfl
theorem U2 (a b : Int) : Zh a b = some (decide (a < b)):=by
  unfold Zh q99;have : (a != a) = false:=by simp
  simp []
theorem q150 : qd2 = q4d:=rfl
theorem q133 : (fun a=>q27 a) = (fun a=>q2o a):=by
  funext a;simp only [q27,q2o,q150]
  all_goals exact Qy
theorem q134  : ∀ a,q27 a = q2o a:=fun a=>(congrFun q133 a)
theorem q132 : (fun a=>U3 a) = (fun a=>q18 a):=by
  funext a;simp only [U3,q18,q134]
  all_goals exact Qy
theorem qpg  : ∀ a,U3 a = q18 a:=fun a=>(congrFun q132 a)
theorem q13n : (fun a=>q7y a) = (fun a=>Jy a qO):=by
  funext a a443;simp only [q7y,Jy,U2,U6,qn,Jl]
  all_goals exact Qy
theorem q13o  : ∀ a,q7y a = Jy a qO:=fun a=>(congrFun q13n a)
theorem q13l : (fun p2 a=>q7x p2 a) = (fun p2 a=>q1d p2 a qO):=by
  funext p2 a a270;simp only [q7x,q1d,q13o]
  all_goals exact Qy
theorem q13m  : ∀ p2 a,q7x p2 a = q1d p2 a qO:=fun p2 a=>(congrFun (congrFun q13l p2) a)
theorem q13j : (fun b a p2=>q7w b a p2) = (fun b a p2=>q1x qO b a p2):=by
  funext b a p2;simp only [q7w,q1x,q13m]
  all_goals exact Qy
theorem q13k  : ∀ b a p2,q7w b a p2 = q1x qO b a p2:=fun b a p2=>(congrFun (congrFun (congrFun q13j b) a) p2)
theorem q14y : (fun p2 p3=>q8r p2 p3) = (fun p2 p3=>U1 p2 p3 qO):=by
  funext p2 p3 a193;simp only [q8r,U1,U2,U6,qn,Jl]
  all_goals exact Qy
theorem q14z  : ∀ p2 p3,q8r p2 p3 = U1 p2 p3 qO:=fun p2 p3=>(congrFun (congrFun q14y p2) p3)
theorem q14x : (fun b a p2 p3=>q5x b a p2 p3) = (fun b a p2 p3=>Ur qO b a p2 p3):=by
  funext b a p2 p3;simp only [q5x,Ur,q14z]
  all_goals exact Qy
theorem qpi  : ∀ b a p2 p3,q5x b a p2 p3 = Ur qO b a p2 p3:=fun b a p2 p3=>(congrFun (congrFun (congrFun (congrFun q14x b) a) p2) p3)
theorem q13f : (fun p2 a=>q7u p2 a) = (fun p2 a=>q1b qO p2 a):=by
  funext p2 a a123;simp only [q7u,q1b,qpi]
  all_goals exact Qy
theorem q13g  : ∀ p2 a,q7u p2 a = q1b qO p2 a:=fun p2 a=>(congrFun (congrFun q13f p2) a)
theorem q13h : (fun a=>q7v a) = (fun a=>q1c a qO):=by
  funext a a191;simp only [q7v,q1c,qpi]
  all_goals exact Qy
theorem q13i  : ∀ a,q7v a = q1c a qO:=fun a=>(congrFun q13h a)
theorem q13d : (fun b a p2=>q7t b a p2) = (fun b a p2=>q1w qO b a p2):=by
  funext b a p2;simp only [q7t,q1w,q13g,q13i]
  all_goals exact Qy
theorem q13e  : ∀ b a p2,q7t b a p2 = q1w qO b a p2:=fun b a p2=>(congrFun (congrFun (congrFun q13d b) a) p2)
theorem q13s : (fun a=>q10 a) = (fun a=>q1y a):=by
  funext a;simp only [q10,q1y,qpg]
  all_goals exact Qy
theorem q13t  : ∀ a,q10 a = q1y a:=fun a=>(congrFun q13s a)
theorem q151 : (fun a=>q11 a) = (fun a=>q22 a):=by
  funext a;simp only [q11,q22]
  all_goals exact Qy
theorem q152  : ∀ a,q11 a = q22 a:=fun a=>(congrFun q151 a)
theorem q139 : (fun b p2 a=>q7r b p2 a) = (fun b p2 a=>Uj b p2 a):=by
  funext b p2 a a153;simp only [q7r,Uj,q152]
  all_goals exact Qy
theorem q13a  : ∀ b p2 a,q7r b p2 a = Uj b p2 a:=fun b p2 a=>(congrFun (congrFun (congrFun q139 b) p2) a)
theorem q137 : (fun b a p2=>q7q b a p2) = (fun b a p2=>q1a qO b a p2):=by
  funext b a p2;simp only [q7q,q1a,q13t,q13a]
  all_goals exact Qy
theorem q138  : ∀ b a p2,q7q b a p2 = q1a qO b a p2:=fun b a p2=>(congrFun (congrFun (congrFun q137 b) a) p2)
theorem q13u : (fun b a p2 p3=>q3u b a p2 p3) = (fun b a p2 p3=>Ul qO b a p2 p3):=by
  funext b a p2 p3;simp only [q3u,Ul,U2,U6,qn,Jl]
  all_goals exact Qy
theorem q13v  : ∀ b a p2 p3,q3u b a p2 p3 = Ul qO b a p2 p3:=fun b a p2 p3=>(congrFun (congrFun (congrFun (congrFun q13u b) a) p2) p3)
theorem q13p : (fun b a p2 p3 p4=>q5q b a p2 p3 p4) = (fun b a p2 p3 p4=>Uk qO b a p2 p3 p4):=by
  funext b a p2 p3 p4;simp only [q5q,Uk,q13v]
  all_goals exact Qy
theorem qph  : ∀ b a p2 p3 p4,q5q b a p2 p3 p4 = Uk qO b a p2 p3 p4:=fun b a p2 p3 p4=>(congrFun (congrFun (congrFun (congrFun (congrFun q13p b) a) p2) p3) p4)
theorem q13q : (fun b a p2=>q3t b a p2) = (fun b a p2=>Jz qO b a p2):=by
  funext b a p2;simp only [q3t,Jz,qph]
  all_goals exact Qy
theorem q13r  : ∀ b a p2,q3t b a p2 = Jz qO b a p2:=fun b a p2=>(congrFun (congrFun (congrFun q13q b) a) p2)
theorem q13b : (fun b a p2=>q7s b a p2) = (fun b a p2=>q1v b a p2 qO):=by
  funext b a p2;simp only [q7s,q1v,qph,q13r]
  all_goals exact Qy
theorem q13c  : ∀ b a p2,q7s b a p2 = q1v b a p2 qO:=fun b a p2=>(congrFun (congrFun (congrFun q13b b) a) p2)
theorem q14w : qci = q21:=by
  funext a119;simp only [qci,q21]
  all_goals exact Qy
theorem q14u : (fun b a p2=>q8o b a p2) = (fun b a p2=>q1i qO b a p2):=by
  funext b a p2;simp only [q8o,q1i,q14w]
  all_goals exact Qy
theorem q14v  : ∀ b a p2,q8o b a p2 = q1i qO b a p2:=fun b a p2=>(congrFun (congrFun (congrFun q14u b) a) p2)
theorem q140 : (fun p2 a=>q85 p2 a) = (fun p2 a=>Um p2 a qO):=by
  funext p2 a a667;simp only [q85,Um,U2,U6,qn,Jl]
  all_goals exact Qy
theorem q141  : ∀ p2 a,q85 p2 a = Um p2 a qO:=fun p2 a=>(congrFun (congrFun q140 p2) a)
theorem q142 : qbt = Un qO:=by
  funext a822;simp only [qbt,Un,U2,U6,qn,Jl]
  all_goals exact Qy
theorem q143 : (fun p2 a=>q86 p2 a) = (fun p2 a=>Uo p2 qO a):=by
  funext p2 a a912;simp only [q86,Uo,U2,U6,qn,Jl]
  all_goals exact Qy
theorem q144  : ∀ p2 a,q86 p2 a = Uo p2 qO a:=fun p2 a=>(congrFun (congrFun q143 p2) a)
theorem q13y : (fun p2 a=>q5u p2 a) = (fun p2 a=>Zm p2 qO a):=by
  funext p2 a a432;have b : @q5u.match_1.{1} = @Zm.match_1.{1} Int:=by funext motive m f g;cases m <;> rfl
  unfold q5u Zm;rw [b];simp only [q141,q142,q144]
  all_goals repeat' first | with_reducible rfl | (congr 1) | funext _
  done
theorem q13z  : ∀ p2 a,q5u p2 a = Zm p2 qO a:=fun p2 a=>(congrFun (congrFun q13y p2) a)
theorem q13w : (fun b a p2=>q5t b a p2) = (fun b a p2=>Ji qO b a p2):=by
  funext b a p2;have c : @q5t.match_1.{1} = @Ji.match_1.{1} Int:=by funext motive m f g;cases m <;> rfl
  unfold q5t Ji;rw [c];simp only [q13z]
  all_goals repeat' first | with_reducible rfl | (congr 1) | funext _
  done
theorem q13x  : ∀ b a p2,q5t b a p2 = Ji qO b a p2:=fun b a p2=>(congrFun (congrFun (congrFun q13w b) a) p2)
theorem q14a : (fun a b=>q89 a b) = (fun a b=>Up a b qO):=by
  funext a b a360;simp only [q89,Up,U2,U6,qn,Jl]
  all_goals exact Qy
theorem q14b  : ∀ a b,q89 a b = Up a b qO:=fun a b=>(congrFun (congrFun q14a a) b)
theorem q14c : (fun a b c=>q8a a b c) = (fun a b c=>Uq a b c qO):=by
  funext a b c a439;simp only [q8a,Uq,U2,U6,qn,Jl]
  all_goals exact Qy
theorem q14d  : ∀ a b c,q8a a b c = Uq a b c qO:=fun a b c=>(congrFun (congrFun (congrFun q14c a) b) c)
theorem q148 : (fun a=>q88 a) = (fun a=>q1g a qO):=by
  funext a a304;simp only [q88,q1g,q14b,q14d]
  all_goals exact Qy
theorem q149  : ∀ a,q88 a = q1g a qO:=fun a=>(congrFun q148 a)
theorem q146 : (fun b a p2 p3=>q87 b a p2 p3) = (fun b a p2 p3=>q1f qO b a p2 p3):=by
  funext b a p2 p3;simp only [q87,q1f,q149]
  all_goals exact Qy
theorem q147  : ∀ b a p2 p3,q87 b a p2 p3 = q1f qO b a p2 p3:=fun b a p2 p3=>(congrFun (congrFun (congrFun (congrFun q146 b) a) p2) p3)
theorem q14f : (fun p2 d c b p3 a=>q8c p2 d c b p3 a) = (fun p2 d c b p3 a=>q1z p2 d c b p3 a qO):=by
  funext p2 d c b p3 a a159;simp only [q8c,q1z,U2,U6,qn,Jl]
  all_goals exact Qy
theorem q14g  : ∀ p2 d c b p3 a,q8c p2 d c b p3 a = q1z p2 d c b p3 a qO:=fun p2 d c b p3 a=>(congrFun (congrFun (congrFun (congrFun (congrFun (congrFun q14f p2) d) c) b) p3) a)
theorem q14h : (fun a f d c p3 b=>q8d a f d c p3 b) = (fun a f d c p3 b=>q20 a f d c p3 b qO):=by
  funext a f d c p3 b a239;simp only [q8d,q20,U2,U6,qn,Jl]
  all_goals exact Qy
theorem q14i  : ∀ a f d c p3 b,q8d a f d c p3 b = q20 a f d c p3 b qO:=fun a f d c p3 b=>(congrFun (congrFun (congrFun (congrFun (congrFun (congrFun q14h a) f) d) c) p3) b)
theorem q14l : (fun a b=>q8f a b) = (fun a b=>J3 a b qO):=by
  funext a b a542;simp only [q8f,J3,U2,U6,qn,Jl]
  all_goals exact Qy
theorem q14m  : ∀ a b,q8f a b = J3 a b qO:=fun a b=>(congrFun (congrFun q14l a) b)
theorem q14n : (fun a b c=>q8g a b c) = (fun a b c=>J4 a b c qO):=by
  funext a b c a622;simp only [q8g,J4,U2,U6,qn,Jl]
  all_goals exact Qy
theorem q14o  : ∀ a b c,q8g a b c = J4 a b c qO:=fun a b c=>(congrFun (congrFun (congrFun q14n a) b) c)
theorem q14j : (fun a=>q8e a) = (fun a=>q1h a qO):=by
  funext a a488;simp only [q8e,q1h,q14m,q14o]
  all_goals exact Qy
theorem q14k  : ∀ a,q8e a = q1h a qO:=fun a=>(congrFun q14j a)
theorem q145 : (fun b a p2 p3=>q8b b a p2 p3) = (fun b a p2 p3=>q1e qO b a p2 p3):=by
  funext b a p2 p3;simp only [q8b,q1e,q14g,q14i,q14k]
  all_goals exact Qy
theorem q14e  : ∀ b a p2 p3,q8b b a p2 p3 = q1e qO b a p2 p3:=fun b a p2 p3=>(congrFun (congrFun (congrFun (congrFun q145 b) a) p2) p3)
theorem q14q : (fun a=>q5v a) = (fun a=>Zd qO a):=by
  funext a a305;have b : @q5v.match_1.{1} = @Zd.match_1.{1} Int:=by funext motive m f g;cases m <;> rfl
  unfold q5v Zd;rw [b];simp only [q13k,q13e,q138,q13c,q14v,q13x,q147,q14e,U2,U6,qn,Jl]
  all_goals repeat' first | with_reducible rfl | (congr 1) | funext _
  done
theorem q14r  : ∀ a,q5v a = Zd qO a:=fun a=>(congrFun q14q a)
theorem q14s : (fun a c b p2 p3=>q5w a c b p2 p3) = (fun a c b p2 p3=>U0 a qO c b p2 p3):=by
  funext a c b p2 p3;simp only [q5w,U0,q14r]
  all_goals exact Qy
theorem q14t  : ∀ a c b p2 p3,q5w a c b p2 p3 = U0 a qO c b p2 p3:=fun a c b p2 p3=>(congrFun (congrFun (congrFun (congrFun (congrFun q14s a) c) b) p2) p3)
theorem q14p : ∀ N,q8n N = Zc N qO:=by
  intro N
  induction N with
  | zero=>rfl
  | succ N ih=>
    funext a b c d;show q5w (q8n N) a b c d = U0 (Zc N qO) qO a b c d;rw [ih,q14t]
theorem q135 : (fun a=>Jm a) = (fun a=>q19 qO a):=by
  funext a;simp only [Jm,q19,qpg,q14p]
  all_goals exact Qy
theorem q136  : ∀ a,Jm a = q19 qO a:=fun a=>(congrFun q135 a)
end Go.Sh
namespace Go.Sh
open Go Go.Am
theorem Z6 {α β : Type} {f : α→Option (α ⊕ β)} (st : Nat→α) (n : Nat) (b : β) (hs : ∀ k,k < n→f (st k) = some (.inl (st (k + 1)))) (hd : f (st n) = some (.inr b)) : ∀ {k : Nat},k≤n→loop f (st k) = some b:=by
  have key : ∀ m k,n - k = m→k≤n→loop f (st k) = some b:=by
    intro m
    induction m with
    | zero => intro k c a; obtain rfl : k = n := by omega
              exact Km hd
    | succ m ih=>intro k c a;rw [Kn (hs k q6)];exact ih (k + 1) q6 q6
  intro k a;exact key _ k rfl a
theorem w64s {k : Nat} {n : Nat} (h : k < n) (a : n≤1000000) : w64 ((k : Int) + 1) = ((k + 1 : Nat) : Int):=by rw [Qm q6];omega
theorem dlt {k n : Nat} (h : k < n) : decide ((k : Int) < (n : Int)) = true:=Qr q6
theorem dnl {n : Nat} : decide ((n : Int) < (n : Int)) = false:=Qs q6
theorem J0 {α β γ : Type} (src : List α) (_ : src.length≤1000000) (h : α→List γ) (out : List γ) (fin : List γ→β) (f : Int × List γ→Option ((Int × List γ) ⊕ β))
    (hs : ∀ (k : Nat) (a : k < src.length) (o : List γ),o = out ++ (src.take k).flatMap h→f ((k : Int),o) = some (.inl (((k + 1 : Nat) : Int),o ++ h src[k])))
    (hd : ∀ o,f ((src.length : Int),o) = some (.inr (fin o))) : loop f (0,out) = some (fin (out ++ src.flatMap h)):=by
  have e : ∀ k (a : k < src.length),(src.take (k + 1)).flatMap h = (src.take k).flatMap h ++ h src[k]:=fun k a=>by
    rw [List.take_succ_eq_append_getElem a,List.flatMap_append,List.flatMap_cons,List.flatMap_nil,List.append_nil]
  have:=Z6 (f:=f) (fun k=>((k : Int),out ++ (src.take k).flatMap h)) src.length (fin (out ++ src.flatMap h)) (fun k a=>by
    rw [hs k a _ rfl,e k a,List.append_assoc]) (by simp only [List.take_length];exact hd _) (Nat.zero_le _)
  simpa using this
theorem q3f {α β γ : Type} (src : List α) (h : α→γ) (out : List γ) (fin : List γ→β) (f : Int × List γ→Option ((Int × List γ) ⊕ β))
    (hs : ∀ (k : Nat) (a : k < src.length) (o : List γ),o.length = out.length + k→f ((k : Int),o) = some (.inl (((k + 1 : Nat) : Int),o ++ [h src[k]])))
    (hd : ∀ o,f ((src.length : Int),o) = some (.inr (fin o))) : loop f (0,out) = some (fin (out ++ src.map h)):=by
  have e : ∀ k (a : k < src.length),(src.take (k + 1)).map h = (src.take k).map h ++ [h src[k]]:=fun k a=>by
    rw [List.take_succ_eq_append_getElem a,List.map_append,List.map_cons,List.map_nil]
  have:=Z6 (f:=f) (fun k=>((k : Int),out ++ (src.take k).map h)) src.length (fin (out ++ src.map h)) (fun k a=>by
    rw [hs k a _ (by simp;omega),e k a,List.append_assoc]) (by simp only [List.take_length];exact hd _) (Nat.zero_le _)
  simpa using this
theorem q6g {γ : Type} (g : γ→γ) (a b : List γ) (l : (a ++ b).length≤1000000) (f : Int × List γ→Option ((Int × List γ) ⊕ (List γ)))
    (hs : ∀ (k : Nat) (o : List γ) (h : k < o.length),o.length = (a ++ b).length→f ((k : Int),o) = some (.inl (((k + 1 : Nat) : Int),o.set k (g o[k]))))
    (hd : ∀ o : List γ,f ((o.length : Int),o) = some (.inr o)) : loop f ((a.length : Int),a ++ b) = some (a ++ b.map g):=by
  have m : a.length + b.length≤1000000:=by simpa using l
  have key:=Z6 (f:=f) (fun k=>(((a.length + k : Nat) : Int),a ++ ((b.take k).map g ++ b.drop k))) b.length (a ++ b.map g) (fun k h=>by
    have c : (a ++ ((b.take k).map g ++ b.drop k)).length = (a ++ b).length:=by simp;omega
    have d : a.length + k < (a ++ ((b.take k).map g ++ b.drop k)).length:=by rw [c];simp;omega
    rw [hs (a.length + k) _ d c];have j : ((b.take k).map g).length = k:=by simp;omega
    have e : (a ++ ((b.take k).map g ++ b.drop k))[a.length + k]'d = b[k]:=by
      rw [List.getElem_append_right q6];rw [List.getElem_append_right (by rw [j];omega)];simp [List.length_take,Nat.min_eq_left (Nat.le_of_lt h)]
    rw [e];congr 4;rw [List.set_append,Q2 q6,List.set_append,Q2 (by rw [j];omega),j];have z : a.length + k - a.length - k = 0:=by omega
    rw [z,List.take_succ_eq_append_getElem h,List.drop_eq_getElem_cons h,List.set_cons_zero,List.map_append,List.map_cons,List.map_nil,List.append_assoc]
    rfl) (by
    simp only [List.take_length,List.drop_length,List.append_nil];have:=hd (a ++ b.map g)
    simpa using this) (Nat.zero_le _)
  simpa using key
theorem q1u {α γ υ : Type} (l : List α) (c : α→Bool) (m : (k : Nat)→k < l.length→γ) (u : υ) (f : Int→Option (Int ⊕ (υ ⊕ γ)))
    (hs : ∀ (k : Nat) (h : k < l.length),f (k : Int) = some (if c l[k] = true then .inr (.inr (m k h)) else .inl ((k + 1 : Nat) : Int))) (hd : f (l.length : Int) = some (.inr (.inl u))) :
    ((∀ v∈l,c v = false)∧loop f 0 = some (.inl u))∨∃ k,∃ h : k < l.length,c l[k] = true∧(∀ j (d : j < k),c (l[j]'(q6)) = false)∧loop f 0 = some (.inr (m k h)):=by
  by_cases p : ∀ v∈l,c v = false
  · refine .inl ⟨p,?_⟩;exact Z6 (f:=f) (fun k=>(k : Int)) l.length _ (fun k b=>by rw [hs k b,p _ (Kf b)];rfl) hd (Nat.zero_le _)
  · refine .inr ?_
    have : ∃ k,∃ h : k < l.length,c l[k] = true:=by
      refine Classical.byContradiction fun r=>p fun v s=>?_;obtain ⟨k,b,rfl⟩:=List.getElem_of_mem s;cases o : c l[k]
      · rfl
      · exact absurd ⟨k,b,o⟩ r
    have g : ∃ k,(∃ h : k < l.length,c l[k] = true)∧∀ j,j < k→¬ ∃ h : j < l.length,c l[j] = true:=by
      obtain ⟨k,b⟩:=this
      induction k using Nat.strongRecOn with
      | _ k ih=>
        by_cases d : ∃ j,j < k∧∃ h : j < l.length,c l[j] = true
        · obtain ⟨j,q,g⟩:=d;exact ih j q g
        · exact ⟨k,b,fun j q g=>d ⟨j,q,g⟩⟩
    obtain ⟨k,⟨b,o⟩,n⟩:=g
    have a : ∀ j (d : j < k),c (l[j]'(q6)) = false:=fun j d=>by
      cases h : c (l[j]'(q6))
      · rfl
      · exact absurd ⟨q6,h⟩ (n j d)
    refine ⟨k,b,o,a,?_⟩;exact Z6 (f:=f) (fun k=>(k : Int)) k _ (fun j d=>by rw [hs j q6,a j d];rfl) (by rw [hs k b,Q1 o]) (Nat.zero_le _)
theorem qpo : ∀ {l a b : List Int},Z8 l a→Z8 l b→a = b:=by
  have key : ∀ (a b : List Int),a.Pairwise (· < ·)→b.Pairwise (· < ·)→(∀ x,x∈a↔x∈b)→a = b:=by
    intro a
    induction a with
    | nil=>intro b _ _ h;cases b with
      | nil=>rfl
      | cons y b=>exact absurd ((h y).2 qg) qg
    | cons x a ih=>
      intro b d hb h
      cases b with
      | nil=>exact absurd ((h x).1 qg) qg
      | cons y b=>
        rw [List.pairwise_cons] at d hb
        have g : x = y:=by
          rcases List.mem_cons.1 ((h x).1 qg) with c | c
          · exact c
          · rcases List.mem_cons.1 ((h y).2 qg) with j | j
            · exact j.symm
            · have:=hb.1 _ c;have:=d.1 _ j;omega
        subst g;rw [ih b d.2 hb.2 fun z=>?_];constructor
        · intro f;rcases List.mem_cons.1 ((h z).1 (by simp [f])) with c | c
          · have:=d.1 _ f;omega
          · exact c
        · intro f;rcases List.mem_cons.1 ((h z).2 (by simp [f])) with c | c
          · have:=hb.1 _ f;omega
          · exact c
  intro l a b d hb;exact key a b d.1 hb.1 fun x=>(d.2 x).trans (hb.2 x).symm
def ltI (a b : Int) : Bool:=decide (a < b)
theorem swoI : Sort.SWO ltI where
  irrefl:=by intro x;simp [ltI]
  trans:=by intro x y z;simp only [ltI,decide_eq_true_eq];omega
  ntrans:=by intro x y z;simp only [ltI,decide_eq_false_iff_not];omega
theorem cmpI : Y5 qO ltI (fun _=>True):=by
  intro x y _ _;refine ⟨sg x y,rfl,?_⟩;rw [Jl];rfl
theorem qpn (l : List Int) (c : l.length≤1000000) : ∃ ys,Jm l = some ys∧ys.Perm l∧ys.Pairwise (·≤·):=by
  obtain ⟨ys,f,d,g⟩:=qim cmpI swoI l c (fun _ _=>trivial);refine ⟨ys,by rw [q136];exact f,d,g.imp ?_⟩;intro a b h;simp only [ltI,decide_eq_false_iff_not] at h;omega
end Go.Sh
namespace Go.Sh
open Go Go.Am
structure CInv (p : List Int) (k k2 i : Nat) (a : List Int) : Prop where
  len : a.length = p.length
  hi : i≤k + k2 - 1
  same : ∀ j (h : j < p.length),k + k2 - 1≤j→a[j]? = some p[j]
  so : Z8 (p.take (k + k2)) (a.take i)
theorem qsp {p : List Int} (hp : p.Pairwise (·≤·)) (hl : p.length≤1000000) {k b i : Nat} {a : List Int} (hk : 0 < k) (h2 : 0 < b) (u : k + b < p.length) (h : CInv p k b i a) :
    ∃ (i' : Nat) (a' : List Int),q2z ((i : Int),(k,p.length - k),(b : Int),a) = some (.inl ((i' : Int),(k,p.length - k),((b + 1 : Nat) : Int),a'))∧CInv p k (b + 1) i' a':=by
  obtain ⟨h1,h3,o,h5,v⟩:=h;have hb : decide ((b : Int) < ((p.length - k : Nat) : Int)) = true:=dlt q6
  have z : idxW a (k,p.length - k) (b : Int) = some (p[k + b]):=by
    unfold idxW;rw [Q1 ⟨q6,q6⟩];simp only [Int.toNat_natCast];exact o (k + b) u q6
  have r2 : idxW a (k,p.length - k) (w64 ((b : Int) - 1)) = some (p[k + b - 1]):=by
    rw [Qm q6];have e : (b : Int) - 1 = ((b - 1 : Nat) : Int):=by omega
    rw [e];unfold idxW;rw [Q1 ⟨q6,q6⟩];simp only [Int.toNat_natCast];have:=o (k + b - 1) q6 q6;rw [show k + (b - 1) = k + b - 1 by omega];exact this
  have ai : p[k + b - 1]≤p[k + b]:=List.pairwise_iff_getElem.1 hp _ _ q6 u q6
  have l : p[k + b - 1]∈p.take (k + b):=by
    rw [List.mem_take_iff_getElem];exact ⟨k + b - 1,q6,rfl⟩
  have f : p.take (k + (b + 1)) = p.take (k + b) ++ [p[k + b]]:=by rw [← Nat.add_assoc,List.take_succ_eq_append_getElem u]
  have hw : w64 ((b : Int) + 1) = ((b + 1 : Nat) : Int):=w64s (n:=p.length) q6 hl;by_cases w : p[k + b] = p[k + b - 1]
  · refine ⟨i,a,?_,h1,q6,fun j q r=>o j q q6,?_⟩
    · have c : (p[k + b] != p[k + b - 1]) = false:=by rw [w];simp
      simp only [q2z,hb,Q5,z,r2,qn,c,Q4,hw]
    · rw [f];refine ⟨h5,fun x=>?_⟩;rw [v x];constructor
      · intro g;exact List.mem_append.2 (.inl g)
      · intro g;rcases List.mem_append.1 g with h | h
        · exact h
        · simp only [List.mem_singleton] at h;rw [h,w];exact l
  · have c : (p[k + b] != p[k + b - 1]) = true:=by simpa using w
    have m : i < a.length:=by omega
    have r3 : idx a (i : Int) = some a[i]:=K3 m;have s : w64 ((i : Int) + 1) = ((i + 1 : Nat) : Int):=w64s (n:=p.length) q6 hl;refine ⟨i + 1,a.set i p[k + b],?_,by simpa using h1,q6,fun j q r=>?_,?_⟩
    · simp only [q2z,hb,Q5,z,r2,qn,c,r3,hw,s,Int.toNat_natCast]
    · rw [List.getElem?_set_ne q6];exact o j q q6
    · have e : (a.set i p[k + b]).take (i + 1) = a.take i ++ [p[k + b]]:=by
        rw [List.take_succ_eq_append_getElem (by simpa using m)];simp [List.take_set_of_le]
      rw [e,f];refine ⟨?_,fun x=>?_⟩
      · rw [List.pairwise_append];refine ⟨h5,qg,fun x g y hy=>?_⟩;simp only [List.mem_singleton] at hy;subst hy;have d:=(v x).1 g;rw [List.mem_take_iff_getElem] at d;obtain ⟨j,q,rfl⟩:=d
        have : p[j]≤p[k + b - 1]:=by
          by_cases t : j = k + b - 1
          · subst t;exact Int.le_refl _
          · exact List.pairwise_iff_getElem.1 hp _ _ q6 q6 q6
        omega
      · rw [List.mem_append,List.mem_append,v x]
theorem qso {p : List Int} (hp : p.Pairwise (·≤·)) (o : p.length≤1000000) {k : Nat} (s : 0 < k) (m : k < p.length) (r : Z8 (p.take (k + 1)) (p.take k)) :
    ∃ i : Nat,∃ a : List Int,loop q2z ((k : Int),(k,p.length - k),1,p) = some ((i : Int),a)∧a.length = p.length∧i≤p.length∧Z8 p (a.take i):=by
  have h:=J6 (f:=q2z) (mk:=fun d (c : Nat × List Int)=>((c.1 : Int),(k,p.length - k),((d : Nat) : Int),c.2)) (p.length - k) (fun d c=>0 < d∧CInv p k d c.1 c.2)
    (fun b=>∃ i : Nat,∃ a : List Int,b = ((i : Int),a)∧a.length = p.length∧i≤p.length∧Z8 p (a.take i))
    (fun d c n g=>by
      obtain ⟨v,a',t,y⟩:=qsp hp o s g.1 q6 g.2
      exact .inl ⟨(v,a'),t,q6,y⟩)
    (fun c g=>by
      obtain ⟨l,w,z,h4,x⟩:=g;refine ⟨((c.1 : Int),c.2),?_,c.1,c.2,rfl,w,q6,?_⟩
      · simp only [q2z,dnl,Q4]
      · rwa [List.take_of_length_le q6] at x)
    (k0:=1) (c0:=(k,p)) q6 ⟨q6,rfl,qg,fun j u _=>by simp [u],r⟩
  obtain ⟨b,hb,i,a,rfl,q⟩:=h;exact ⟨i,a,hb,q⟩
theorem qkf {p : List Int} (hp : p.Pairwise (·≤·)) (y : p.length≤1000000) :
    ∃ w a,Uz p = some ((0,w),a)∧a.length = p.length∧w≤p.length∧Z8 p (a.take w):=by
  unfold Uz;by_cases hs : p.length < 2
  · rw [Qr (by omega : (p.length : Int) < 2),Q5];refine ⟨p.length,p,rfl,rfl,Nat.le_refl _,?_⟩;rw [List.take_length];refine ⟨?_,fun x=>Iff.rfl⟩
    match p,hs with
    | [],_=>simp
    | [x],_=>simp
  rw [Qs (by omega : ¬ (p.length : Int) < 2),Q4]
  have b : ∀ k,k≤p.length→(∀ j (n : j < k),0 < j→∀ h : j < p.length,p[j]≠p[j - 1])→Z8 (p.take k) (p.take k):=by
    intro k g q;refine ⟨?_,fun x=>Iff.rfl⟩;rw [List.pairwise_iff_getElem];intro i j hi n z;simp only [List.length_take] at hi n;simp only [List.getElem_take];have m : p[j - 1]≤p[j]:=List.pairwise_iff_getElem.1 hp _ _ q6 q6 q6;have r:=q j q6 q6 q6
    have h3 : p[i]≤p[j - 1]:=by
      by_cases e : i = j - 1
      · subst e;exact Int.le_refl _
      · exact List.pairwise_iff_getElem.1 hp _ _ q6 q6 q6
    omega
  have c : ∀ k,0 < k→∀ h : k < p.length,p[k]≠p[k - 1]→U9 p (k : Int) = some (.inl ((k + 1 : Nat) : Int)):=by
    intro k d h q;have u : idx p (w64 ((k : Int) - 1)) = some (p[k - 1]):=by rw [Qm q6];exact Zu q6 q6
    have hb : (p[k] == p[k - 1]) = false:=by simpa using q
    simp only [U9,dlt h,Q5,K3 h,u,qn,hb,Q4,w64s h y]
  by_cases t : ∀ j,0 < j→∀ h : j < p.length,p[j]≠p[j - 1]
  · have m : loop (U9 p) 1 = some (.inl ()):=by
      exact Z6 (f:=U9 p) (fun k=>((k + 1 : Nat) : Int)) (p.length - 1) _ (fun k g=>by
        exact c (k + 1) q6 q6 (t (k + 1) q6 q6)) (by
        show U9 p (((p.length - 1) + 1 : Nat) : Int) = _;rw [show p.length - 1 + 1 = p.length by omega]
        simp only [U9,dnl,Q4]) (Nat.zero_le _)
    rw [m];refine ⟨p.length,p,rfl,rfl,Nat.le_refl _,?_⟩;have:=b p.length (Nat.le_refl _) fun j _ d h=>t j d h;rw [List.take_length] at this ⊢;exact this
  · have r : ∃ k,(0 < k∧∃ h : k < p.length,p[k] = p[k - 1])∧∀ j,j < k→¬ (0 < j∧∃ h : j < p.length,p[j] = p[j - 1]):=by
      have : ∃ k,0 < k∧∃ h : k < p.length,p[k] = p[k - 1]:=by
        refine Classical.byContradiction fun hn=>t fun j d h o=>hn ⟨j,d,h,o⟩
      obtain ⟨k,g⟩:=this
      induction k using Nat.strongRecOn with
      | _ k ih=>
        by_cases n : ∃ j,j < k∧(0 < j∧∃ h : j < p.length,p[j] = p[j - 1])
        · obtain ⟨j,m,r⟩:=n;exact ih j m r
        · exact ⟨k,g,fun j m r=>n ⟨j,m,r⟩⟩
    obtain ⟨k,⟨d,g,o⟩,l⟩:=r;have v : Z8 (p.take k) (p.take k):=b k q6 fun j n d h o=>l j n ⟨d,h,o⟩
    have s : Z8 (p.take (k + 1)) (p.take k):=by
      refine ⟨v.1,fun x=>?_⟩;rw [List.take_succ_eq_append_getElem g,List.mem_append];refine ⟨.inl,fun h=>h.elim id fun h=>?_⟩;simp only [List.mem_singleton] at h;rw [h,o,List.mem_take_iff_getElem];exact ⟨k - 1,q6,rfl⟩
    obtain ⟨i,a,e1,e2,e3,e4⟩:=qso hp y d g s;have s1 : sub2 p.length (k : Int) (p.length : Int) = some (k,p.length - k):=by unfold sub2;rw [Q1 ⟨q6,q6,q6⟩];simp
    have s2 : sub2 a.length (i : Int) (a.length : Int) = some (i,a.length - i):=by unfold sub2;rw [Q1 ⟨q6,q6,q6⟩];simp
    have s3 : sub2 a.length 0 (i : Int) = some (0,i):=by unfold sub2;rw [Q1 ⟨q6,q6,q6⟩];simp
    have u : idx p (w64 ((k : Int) - 1)) = some (p[k - 1]):=by rw [Qm q6];exact Zu q6 q6
    have m : loop (U9 p) 1 = some (.inr ((0,i),clrw a (i,a.length - i) 0)):=by
      exact Z6 (f:=U9 p) (fun k=>((k + 1 : Nat) : Int)) (k - 1) _ (fun j n=>by
        exact c (j + 1) q6 q6 fun o=>l (j + 1) q6 ⟨q6,q6,o⟩) (by
        show U9 p (((k - 1) + 1 : Nat) : Int) = _;rw [show k - 1 + 1 = k by omega];have hb : (p[k] == p[k - 1]) = true:=by simpa using o
        simp only [U9,dlt g,Q5,K3 g,u,qn,hb,s1,e1,s2,s3]) (Nat.zero_le _)
    rw [m];refine ⟨i,clrw a (i,a.length - i) 0,rfl,by rw [qdi (by simp;omega)];exact e2,e3,?_⟩
    have : (clrw a (i,a.length - i) 0).take i = a.take i:=by
      unfold clrw splice;rw [List.append_assoc,List.take_append_of_le_length (by simp;omega)];simp [List.take_take]
    rw [this];exact e4
end Go.Sh
namespace Go.Sh
open Go Go.Am
theorem q9i {α : Type} [DecidableEq α] (e : α→α→Bool) (j : ∀ v w,e v w = decide (v = w)) (p q : List α) (s : p.length≤1000000) (f : Int→Option (Int ⊕ (Unit ⊕ Bool)))
    (d : ∀ k,f k = cond (decide (k < (p.length : Int))) ((idx p k).bind fun v=>(idx q k).bind fun w=>cond (!(e v w)) (some (.inr (.inr false))) (some (.inl (w64 (k + 1))))) (some (.inr (.inl ())))) :
    cond ((p.length : Int) != (q.length : Int)) (some false) ((loop f 0).bind fun m=>(match m with | .inl _=>some true | .inr x=>some x)) = some (decide (p = q)):=by
  by_cases a : p.length = q.length
  · have : ((p.length : Int) != (q.length : Int)) = false:=by rw [a];simp
    rw [this,Q4]
    let c : Nat→Bool:=fun k=>if h : k < p.length then !(e p[k] (q[k]'(q6))) else false
    have hs : ∀ (k : Nat) (h : k < (List.range p.length).length),f (k : Int) = some (if c (List.range p.length)[k] = true then .inr (.inr false) else .inl ((k + 1 : Nat) : Int)):=by
      intro k h;have h : k < p.length:=by simpa using h
      rw [d];simp only [dlt h,Q5,K3 h,K3 (xs:=q) (k:=k) q6,qn,List.getElem_range,c,dif_pos h,w64s h s];cases e p[k] (q[k]'(q6)) <;> simp
    have hd : f ((List.range p.length).length : Int) = some (.inr (.inl ())):=by rw [d];simp []
    rcases q1u (List.range p.length) c (fun _ _=>false) () f hs hd with ⟨r,b⟩ | ⟨k,n,l,_,b⟩
    · rw [b]
      have : p = q:=by
        refine List.ext_getElem a fun k g t=>?_;have:=r k (by simpa using g);simp only [c,dif_pos g,j,Bool.not_eq_false',decide_eq_true_eq] at this;exact this
      simp [this]
    · rw [b];have o : k < p.length:=by simpa using n
      have : p≠q:=by
        intro h;simp only [List.getElem_range,c,j,h] at l;simp at l
      simp [this]
  · have : ((p.length : Int) != (q.length : Int)) = true:=by simpa using (fun h : (p.length : Int) = q.length=>a q6)
    rw [this,Q5];have : p≠q:=fun h=>a (by rw [h]);simp [this]
theorem qdp (p q : List ql) (a : p.length≤1000000) : q3r p q = some (decide (p = q)):=
  q9i (fun v w=>((v.Lo == w.Lo) && ((v.Hi == w.Hi) && true))) (fun v w=>by cases v;cases w;rw [Bool.eq_iff_iff];simp) p q a (qf4 p q) (fun _=>rfl)
theorem qi8 (p q : List ql) (a : p.length≤1000000) : q4y p q = some (decide (p = q)):=
  q9i (fun v w=>((v.Lo == w.Lo) && ((v.Hi == w.Hi) && true))) (fun v w=>by cases v;cases w;rw [Bool.eq_iff_iff];simp) p q a (qel p q) (fun _=>rfl)
theorem q6e (p q : List qf) (a : p.length≤1000000) : q2c p q = some (decide (p = q)):=
  q9i (fun v w=>((v.X0 == w.X0) && ((v.Y0 == w.Y0) && ((v.X1 == w.X1) && ((v.Y1 == w.Y1) && true))))) (fun v w=>by cases v;cases w;rw [Bool.eq_iff_iff];simp) p q a (qf1 p q) (fun _=>rfl)
theorem qor (p q : List qf) (a : p.length≤1000000) : q70 p q = some (decide (p = q)):=
  q9i (fun v w=>((v.X0 == w.X0) && ((v.Y0 == w.Y0) && ((v.X1 == w.X1) && ((v.Y1 == w.Y1) && true))))) (fun v w=>by cases v;cases w;rw [Bool.eq_iff_iff];simp) p q a (qem p q) (fun _=>rfl)
theorem sameBox (p q : List qk) (a : p.length≤1000000) : qep p q = some (decide (p = q)):=
  q9i (fun v w=>((v.Lo.X == w.Lo.X) && ((v.Lo.Y == w.Lo.Y) && ((v.Lo.Z == w.Lo.Z) && ((v.Hi.X == w.Hi.X) && ((v.Hi.Y == w.Hi.Y) && ((v.Hi.Z == w.Hi.Z) && true))))))) (fun v w=>by rcases v with ⟨⟨_,_,_⟩,⟨_,_,_⟩⟩;rcases w with ⟨⟨_,_,_⟩,⟨_,_,_⟩⟩;rw [Bool.eq_iff_iff];simp [and_assoc]) p q a (qeq p q) (fun _=>rfl)
structure Mg (σ β : Type) where
  done : List β
  sec : List σ
  lo : Int
  hi : Int
section
variable {σ β : Type} [DecidableEq σ] (put : Int→Int→σ→β)
def Mg.flat (s : Mg σ β) : List β:=s.done ++ s.sec.map (put s.lo s.hi)
def addM (s : Mg σ β) (a b : Int) (c : List σ) : Mg σ β:=if c≠[]∧c = s.sec∧s.hi = a then ⟨s.done,s.sec,s.lo,b⟩ else ⟨s.flat put,c,a,b⟩
def Qt : Mg σ β:=⟨[],[],0,0⟩
def Qv (s0 : Mg σ β) (steps : List (Int × Int × List σ)) : Mg σ β:=steps.foldl (fun s t=>addM put s t.1 t.2.1 t.2.2) s0
theorem q2m {s0 : Mg σ β} {steps : List (Int × Int × List σ)} {i : Nat} (h : i < steps.length) : Qv put s0 (steps.take (i + 1)) = addM put (Qv put s0 (steps.take i)) steps[i].1 steps[i].2.1 steps[i].2.2:=by
  unfold Qv;rw [List.take_succ_eq_append_getElem h,List.foldl_append];rfl
theorem qfp (s : Mg σ β) (a b : Int) (c : List σ) : (addM put s a b c).hi = b:=by unfold addM;split <;> rfl
theorem qjb (s : Mg σ β) (a b : Int) (c : List σ) : ((addM put s a b c).flat put).length≤(s.flat put).length + c.length:=by
  unfold addM;split
  · simp [Mg.flat]
  · simp [Mg.flat];omega
theorem q9l {s0 : Mg σ β} {M : Nat} : ∀ {steps : List (Int × Int × List σ)},(∀ t∈steps,t.2.2.length≤M)→((Qv put s0 steps).flat put).length≤(s0.flat put).length + steps.length * M:=by
  intro steps
  induction steps generalizing s0 with
  | nil=>intro _;simp [Qv]
  | cons t r ih=>
    intro h;have f:=ih (s0:=addM put s0 t.1 t.2.1 t.2.2) fun u a=>h u (by simp [a]);have c:=qjb put s0 t.1 t.2.1 t.2.2;have d:=h t qg;have b : Qv put s0 (t::r) = Qv put (addM put s0 t.1 t.2.1 t.2.2) r:=rfl;rw [b];simp only [List.length_cons,Nat.succ_mul];omega
end
section
variable {σ : Type}
def Yt (cuts : List Int) (sec : Int→List σ) : List (Int × Int × List σ):=(cuts.zip cuts.tail).map fun c=>(c.1,c.2,sec c.1)
theorem q64 (a : List Int) (sec : Int→List σ) : (Yt a sec).length = a.length - 1:=by simp [Yt]
theorem q63 {a : List Int} {sec : Int→List σ} {i : Nat} (h : i < (Yt a sec).length) (b : i + 1 < a.length) : (Yt a sec)[i] = (a[i],a[i + 1],sec a[i]):=by
  simp [Yt]
theorem q16b {a : List Int} {sec : Int→List σ} {M : Nat} (h : ∀ x,(sec x).length≤M) : ∀ t∈Yt a sec,t.2.2.length≤M:=by
  intro t b;simp only [Yt,List.mem_map] at b;obtain ⟨c,_,rfl⟩:=b;exact h _
end
theorem q15 {σ β : Type} [DecidableEq σ] (put : Int→Int→σ→β) (s : Mg σ β) (a b : Int) (c : List σ) : (c≠[]∧c = s.sec∧s.hi = a∧addM put s a b c = ⟨s.done,s.sec,s.lo,b⟩)∨(¬ (c≠[]∧c = s.sec∧s.hi = a)∧addM put s a b c = ⟨s.flat put,c,a,b⟩):=by
  unfold addM;split
  · rename_i h;exact .inl ⟨h.1,h.2.1,h.2.2,rfl⟩
  · rename_i h;exact .inr ⟨h,rfl⟩
def putR (a b : Int) (t : ql) : qf:={X0:=a,Y0:=t.Lo,X1:=b,Y1:=t.Hi}
theorem qjp (s : Mg ql qf) (a b : Int) (c : List ql) (z : (s.flat putR).length + c.length≤1000000) :
    q7g (s.flat putR) s.sec (s.done.length : Int) s.hi a b c = some ((addM putR s a b c).sec,((addM putR s a b c).done.length : Int),(addM putR s a b c).hi,(addM putR s a b c).flat putR):=by
  have d : s.sec.length≤1000000:=by have : (s.flat putR).length = s.done.length + s.sec.length:=(by simp [Mg.flat]);omega
  unfold q7g;rcases q15 putR s a b c with ⟨p,r,w,m⟩ | ⟨p,m⟩
  · have hb : decide ((c.length : Int) > 0) = true:=Qr (by have:=List.length_pos_iff.2 p;omega);have x : (s.hi == a) = true:=by simpa using w
    rw [r] at hb;rw [m,r];simp only [hb,Q5,x,qn,qdp _ _ d,decide_true]
    have:=q6g (fun v : qf=>({X0:=v.X0,Y0:=v.Y0,X1:=b,Y1:=v.Y1} : qf)) s.done (s.sec.map (putR s.lo s.hi)) (by have : (s.done ++ s.sec.map (putR s.lo s.hi)).length = (s.flat putR).length:=rfl;omega) (q7h b) (fun k o f u=>by
      have l : (s.done ++ s.sec.map (putR s.lo s.hi)).length = (s.flat putR).length:=rfl
      simp only [q7h,dlt f,Q5,K3 f,qn,w64s f q6,Int.toNat_natCast]) (fun o=>by simp only [q7h,dnl,Q4])
    rw [show s.flat putR = s.done ++ s.sec.map (putR s.lo s.hi) from rfl,this];simp only [qn,Mg.flat,List.map_map];rfl
  · rw [m]
    have y : ((cond (decide ((c.length : Int) > 0)) (some (s.hi == a)) (some false)).bind fun g=>(cond g ((q3r s.sec c).bind fun j=>some j) (some false))) = some false:=by
      by_cases l : c = []
      · subst l;simp
      · have hb : decide ((c.length : Int) > 0) = true:=Qr (by have:=List.length_pos_iff.2 l;omega);simp only [hb,Q5,qn,qdp _ _ d];by_cases q : s.hi = a
        · have t : s.sec≠c:=fun h=>p ⟨l,h.symm,q⟩;simp [q,t]
        · have : (s.hi == a) = false:=by simpa using q
          simp [this]
    have n:=q3f c (putR a b) (s.flat putR) (fun o=>(c,((s.flat putR).length : Int),b,o)) (q7i c a b (s.flat putR)) (fun k f o u=>by
      simp only [q7i,dlt f,Q5,K3 f,qn,w64s f q6];rw [Y3 (by simp;omega)]
      rfl) (fun o=>by simp only [q7i,dnl,Q4])
    rw [← Option.bind_assoc,y];simp only [qn,Q4,n];simp [Mg.flat]
end Go.Sh
namespace Go.Sh
open Go Go.Am
def vR (r : qf) : Prop:=r.X0 < r.X1∧r.Y0 < r.Y1∧-1000000≤r.X0∧r.X0≤1000000∧-1000000≤r.X1∧r.X1≤1000000∧-1000000≤r.Y0∧r.Y0≤1000000∧-1000000≤r.Y1∧r.Y1≤1000000
instance (r : qf) : Decidable (vR r):=by unfold vR;infer_instance
theorem ql6 (x : Int) : q3m x = some (decide (-1000000≤x∧x≤1000000)):=by
  unfold q3m;by_cases h : x ≥ -1000000 <;> by_cases a : x≤1000000 <;> simp [h,a] <;> omega
theorem qqb (r : qf) : q7k r = some (decide (vR r)):=by
  unfold q7k;simp only [ql6,qsq,qn,vR];by_cases d : r.X0 < r.X1 <;> by_cases b : r.Y0 < r.Y1 <;> by_cases g : -1000000≤r.X0∧r.X0≤1000000 <;> by_cases c : -1000000≤r.X1∧r.X1≤1000000 <;> by_cases f : -1000000≤r.Y0∧r.Y0≤1000000 <;> by_cases a : -1000000≤r.Y1∧r.Y1≤1000000 <;> simp [d,b,g,c,f,a] <;> omega
def covR (x : Int) (r : qf) : Bool:=decide (r.X0≤x) && decide (x < r.X1)
def ysp (r : qf) : ql:={Lo:=r.Y0,Hi:=r.Y1}
def covS (l : List qf) (x : Int) : List ql:=l.flatMap fun r=>if covR x r = true then [ysp r] else []
def hasR (l : List qf) (x y : Int) : Prop:=∃ r∈l,r.X0≤x∧x < r.X1∧r.Y0≤y∧y < r.Y1
theorem q9y {l : List qf} {x : Int} {t : ql} : t∈covS l x↔∃ r∈l,covR x r = true∧t = ysp r:=by
  unfold covS;rw [List.mem_flatMap];constructor
  · rintro ⟨r,a,h⟩;split at h
    · rename_i b;simp only [List.mem_singleton] at h;exact ⟨r,a,b,h⟩
    · cases h
  · rintro ⟨r,a,b,rfl⟩;exact ⟨r,a,by simp [b]⟩
theorem q24 {l : List qf} {x y : Int} : has (covS l x) y↔hasR l x y:=by
  unfold has hasR;constructor
  · rintro ⟨t,g,c,a⟩;obtain ⟨r,b,d,rfl⟩:=q9y.1 g;simp only [covR,Bool.and_eq_true,decide_eq_true_eq] at d;exact ⟨r,b,d.1,d.2,c,a⟩
  · rintro ⟨r,b,c,a,h,f⟩;exact ⟨ysp r,q9y.2 ⟨r,b,by simp [covR,c,a],rfl⟩,h,f⟩
theorem Jf (l : List qf) (x : Int) : (covS l x).length≤l.length:=by
  unfold covS
  induction l with
  | nil=>simp
  | cons r l ih=>
    simp only [List.flatMap_cons,List.length_append,List.length_cons];have : (if covR x r = true then [ysp r] else []).length≤1:=by split <;> simp
    omega
theorem qkl {l : List qf} (h : ∀ r∈l,vR r) (x : Int) : ∀ t∈covS l x,vld t:=by
  intro t d;obtain ⟨r,c,_,rfl⟩:=q9y.1 d;obtain ⟨_,a,_,_,_,_,f,_,_,b⟩:=h r c;exact ⟨a,f,b⟩
def xsOf (l : List qf) : List Int:=l.flatMap fun r=>[r.X0,r.X1]
def ysOf (l : List qf) : List Int:=l.flatMap fun r=>[r.Y0,r.Y1]
theorem J7 (l : List qf) : (xsOf l).length = 2 * l.length:=by
  unfold xsOf;induction l with
  | nil=>rfl
  | cons r l ih=>simp only [List.flatMap_cons,List.length_append,List.length_cons,List.length_nil];omega
theorem qd8 (l : List qf) : (ysOf l).length = 2 * l.length:=by
  unfold ysOf;induction l with
  | nil=>rfl
  | cons r l ih=>simp only [List.flatMap_cons,List.length_append,List.length_cons,List.length_nil];omega
theorem qku {l : List qf} {x y : Int} (h : y∈ends (covS l x)) : y∈ysOf l:=by
  obtain ⟨t,b,h⟩:=q9z.1 h;obtain ⟨r,a,_,rfl⟩:=q9y.1 b;unfold ysOf;rw [List.mem_flatMap];exact ⟨r,a,by rcases h with h | h <;> simp [h,ysp]⟩
noncomputable def K6 (l : List Int) : List Int:=(Uv l).getD []
theorem Ui {l : List Int} (c : l.length≤1000000) : Uv l = some (K6 l)∧Z8 l (K6 l)∧(K6 l).length≤l.length:=by
  obtain ⟨t,a,d,b⟩:=qpp l c;unfold K6;rw [a];exact ⟨rfl,d,b⟩
noncomputable def secJ (kind : Int) (p q : List qf) (x : Int) : List ql:=Zw kind (covS p x) (covS q x)
theorem qey (kind : Int) {p q : List qf} (h : p.length + q.length≤100000) (x : Int) : (secJ kind p q x).length≤2 * (p.length + q.length):=by
  have a:=Jf p x;have b:=Jf q x;have:=(q4h kind (covS p x) (covS q x) q6 q6).2.len;unfold secJ;omega
noncomputable def mrg (kind : Int) (p q : List qf) : Mg ql qf:=Qv putR Qt (Yt (K6 (xsOf p ++ xsOf q)) (secJ kind p q))
noncomputable def mrgR (kind : Int) (p q : List qf) : List qf:=(mrg kind p q).flat putR
theorem q9d {p q : List qf} (h : p.length + q.length≤490) : Uv (xsOf p ++ xsOf q) = some (K6 (xsOf p ++ xsOf q))∧Z8 (xsOf p ++ xsOf q) (K6 (xsOf p ++ xsOf q))∧(K6 (xsOf p ++ xsOf q)).length≤2 * (p.length + q.length):=by
  have f:=J7 p;have d:=J7 q;obtain ⟨a,b,c⟩:=Ui (l:=xsOf p ++ xsOf q) (by simp;omega);exact ⟨a,b,by simp at c;omega⟩
theorem qgh {p q : List qf} (h : p.length + q.length≤490) : Uv (ysOf p ++ ysOf q) = some (K6 (ysOf p ++ ysOf q))∧Z8 (ysOf p ++ ysOf q) (K6 (ysOf p ++ ysOf q))∧(K6 (ysOf p ++ ysOf q)).length≤2 * (p.length + q.length):=by
  have f:=qd8 p;have d:=qd8 q;obtain ⟨a,b,c⟩:=Ui (l:=ysOf p ++ ysOf q) (by simp;omega);exact ⟨a,b,by simp at c;omega⟩
theorem qhm (kind : Int) {p q : List qf} (h : p.length + q.length≤490) (i : Nat) :
    ((Qv putR Qt ((Yt (K6 (xsOf p ++ xsOf q)) (secJ kind p q)).take i)).flat putR).length≤980 * 980:=by
  have d:=q9l putR (s0:=Qt) (M:=980) (steps:=(Yt (K6 (xsOf p ++ xsOf q)) (secJ kind p q)).take i) (fun t b=>by
    have:=q16b (M:=2 * (p.length + q.length)) (fun x=>qey kind q6 x) t (List.mem_of_mem_take b)
    omega)
  have a : ((Yt (K6 (xsOf p ++ xsOf q)) (secJ kind p q)).take i).length≤980:=by
    have:=(q9d h).2.2;rw [List.length_take,q64];omega
  have f : (Qt.flat putR : List qf).length = 0:=rfl;have c : ((Yt (K6 (xsOf p ++ xsOf q)) (secJ kind p q)).take i).length * 980≤980 * 980:=Nat.mul_le_mul_right _ a;omega
theorem qv7 (l : List qf) (z : l.length≤400) :
    (((idx [l] 0).bind fun g=>(loop (Jk g) (0,[])).bind fun n=>some n).bind fun f=>(Jm f).bind fun c=>(K5 c.length f.length).bind fun _=>(Uz c).bind fun b=>(K5 b.2.length c.length).bind fun _=>(Jn b.2.length b.1).bind fun _=>some ((b.2.drop b.1.1).take b.1.2)) = some (K6 (xsOf l)):=by
  have q : idx [l] 0 = some l:=rfl
  have v : loop (Jk l) (0,[]) = some (xsOf l):=by
    have:=J0 l q6 (fun r=>[r.X0,r.X1]) [] (fun o=>o) (Jk l) (fun k h o s=>by
      have y : o.length = 2 * k:=by rw [s,List.nil_append];have:=J7 (l.take k);rw [List.length_take,Nat.min_eq_left q6] at this;exact this
      simp only [Jk,dlt h,Q5,K3 h,qn,w64s h q6];rw [Y3 (by simp;omega)]
      rfl) (fun o=>by simp only [Jk,dnl,Q4])
    rw [List.nil_append] at this;exact this
  have hx:=J7 l;obtain ⟨ys,t,m,u⟩:=qpn (xsOf l) q6;have j : ys.length = (xsOf l).length:=m.length_eq;obtain ⟨w,a,c1,c2,c3,c4⟩:=qkf u q6;obtain ⟨_,p,_⟩:=Ui (l:=xsOf l) q6
  have d : a.take w = K6 (xsOf l):=by
    refine qpo (l:=xsOf l) ⟨c4.1,fun x=>?_⟩ p;rw [c4.2 x];exact m.mem_iff
  simp only [q,qn,v,t,K5,j,if_true,c1,c2,Jn];rw [Q1 q6];simp only [qn,List.drop_zero,d]
theorem qhb (l : List qf) (g : l.length≤400) (x : Int) : loop (q1o l x) (0,[]) = some (covS l x):=by
  have:=J0 l q6 (fun r=>if covR x r = true then [ysp r] else []) [] (fun o=>o) (q1o l x) (fun k a o d=>by
    have f : o.length≤k:=by rw [d,List.nil_append];have:=Jf (l.take k) x;rw [List.length_take,Nat.min_eq_left q6] at this;exact this
    simp only [q1o,dlt a,Q5,K3 a,qn,w64s a q6];by_cases b : l[k].X0≤x
    · by_cases c : x < l[k].X1
      · simp only [b,c,decide_true,Q5,qn,covR,Bool.and_self,if_true];rw [Y3 (by simp;omega)];rfl
      · simp only [b,c,decide_true,decide_false,Q5,Q4,qn,covR,Bool.and_false,if_false,Bool.false_eq_true,List.append_nil]
    · simp only [b,decide_false,Q4,qn,covR,Bool.false_and,if_false,Bool.false_eq_true,List.append_nil]) (fun o=>by simp only [q1o,dnl,Q4])
  rw [List.nil_append] at this;exact this
theorem qmr (l : List qf) (v : l.length≤400) (z : ∀ r∈l,vR r) : q7j l = some (if 400 < (mrgR 2 l []).length then ([],4) else (mrgR 2 l [],0)):=by
  unfold q7j;rw [qv7 l v];simp only [qn];have c : K6 (xsOf l ++ xsOf []) = K6 (xsOf l):=by simp [xsOf]
  obtain ⟨_,o,a⟩:=q9d (p:=l) (q:=[]) (by simp;omega);have g:=fun i=>qhm 2 (p:=l) (q:=[]) (by simp;omega) i;rw [c] at o a;have a : (K6 (xsOf l)).length≤2 * l.length:=by simpa using a
  have d : loop (q3n (K6 (xsOf l)) l) (1,[],0,0,[]) = some ((mrg 2 l []).sec,((mrg 2 l []).done.length : Int),(mrg 2 l []).hi,mrgR 2 l []):=by
    unfold mrgR mrg;rw [c] at g ⊢;generalize h : Yt (K6 (xsOf l)) (secJ 2 l []) = steps at g ⊢;have x : steps.length = (K6 (xsOf l)).length - 1:=by rw [← h];exact q64 _ _
    have j : Qv putR Qt (steps.take steps.length) = Qv putR Qt steps:=by rw [List.take_length]
    have key:=Z6 (f:=q3n (K6 (xsOf l)) l) (fun k=>(((k + 1 : Nat) : Int),(Qv putR Qt (steps.take k)).sec,((Qv putR Qt (steps.take k)).done.length : Int),(Qv putR Qt (steps.take k)).hi,(Qv putR Qt (steps.take k)).flat putR))
      steps.length ((Qv putR Qt steps).sec,((Qv putR Qt steps).done.length : Int),(Qv putR Qt steps).hi,(Qv putR Qt steps).flat putR) (fun k s=>by
        have b : k + 1 < (K6 (xsOf l)).length:=by omega
        have w : steps[k] = ((K6 (xsOf l))[k],(K6 (xsOf l))[k + 1],secJ 2 l [] (K6 (xsOf l))[k]):=by
          subst h;exact q63 s b
        have y : idx (K6 (xsOf l)) (w64 (((k + 1 : Nat) : Int) - 1)) = some (K6 (xsOf l))[k]:=by rw [Qm q6];exact Zu q6 q6
        have aa:=Jf l (K6 (xsOf l))[k]
        have n : q3x (covS l (K6 (xsOf l))[k]) = some (secJ 2 l [] (K6 (xsOf l))[k],0):=by
          rw [qms];unfold qe6;rw [Q2 q6,Q1 (qkl z _)];rfl
        have m:=qey 2 (p:=l) (q:=[]) (by simp;omega) (K6 (xsOf l))[k];have u:=g k;have hb:=qjp (Qv putR Qt (steps.take k)) (K6 (xsOf l))[k] (K6 (xsOf l))[k + 1] (secJ 2 l [] (K6 (xsOf l))[k]) (by simp at m;omega);rw [q2m putR s,w];simp only [q3n,dlt b,Q5,y,K3 b,qn,show idx [l] 0 = some l from rfl,qhb l v,n,hb]
        rw [w64s b q6]) (by
        rw [j];by_cases h0 : (K6 (xsOf l)).length = 0
        · have : decide (((steps.length + 1 : Nat) : Int) < ((K6 (xsOf l)).length : Int)) = false:=Qs q6;simp only [q3n,this,Q4]
        · have : decide (((steps.length + 1 : Nat) : Int) < ((K6 (xsOf l)).length : Int)) = false:=Qs q6
          simp only [q3n,this,Q4]) (Nat.zero_le _)
    exact key
  rw [d];simp only [qn];by_cases t : 400 < (mrgR 2 l []).length
  · rw [Qr (by omega : ((mrgR 2 l []).length : Int) > 400),Q1 t];rfl
  · rw [Qs (by omega : ¬ ((mrgR 2 l []).length : Int) > 400),Q2 t];rfl
end Go.Sh
namespace Go.Sh
open Go Go.Am
theorem qyt {p q : List qf} (h : p.length + q.length≤490) : qae p q = some (K6 (xsOf p ++ xsOf q)):=by
  have c : loop (q53 p) (0,[]) = some (xsOf p):=by
    have:=J0 p q6 (fun r=>[r.X0,r.X1]) [] (fun o=>o) (q53 p) (fun k a o b=>by
      have d : o.length = 2 * k:=by rw [b,List.nil_append];have:=J7 (p.take k);rw [List.length_take,Nat.min_eq_left q6] at this;exact this
      simp only [q53,dlt a,Q5,K3 a,qn,w64s a q6];rw [Y3 (by simp;omega)]
      rfl) (fun o=>by simp only [q53,dnl,Q4])
    rw [List.nil_append] at this;exact this
  have f : loop (q54 q) (0,xsOf p) = some (xsOf p ++ xsOf q):=by
    have hp:=J7 p
    exact J0 q q6 (fun r=>[r.X0,r.X1]) (xsOf p) (fun o=>o) (q54 q) (fun k a o b=>by
      have d : o.length = 2 * p.length + 2 * k:=by
        rw [b,List.length_append,hp];have:=J7 (q.take k);rw [List.length_take,Nat.min_eq_left q6] at this;unfold xsOf at this;omega
      simp only [q54,dlt a,Q5,K3 a,qn,w64s a q6];rw [Y3 (by simp;omega)]
      rfl) (fun o=>by simp only [q54,dnl,Q4])
  unfold qae;simp only [c,f,qn,(q9d h).1]
theorem qyv {p q : List qf} (h : p.length + q.length≤490) : qaf p q = some (K6 (ysOf p ++ ysOf q)):=by
  have c : loop (q55 p) (0,[]) = some (ysOf p):=by
    have:=J0 p q6 (fun r=>[r.Y0,r.Y1]) [] (fun o=>o) (q55 p) (fun k a o b=>by
      have d : o.length = 2 * k:=by rw [b,List.nil_append];have:=qd8 (p.take k);rw [List.length_take,Nat.min_eq_left q6] at this;exact this
      simp only [q55,dlt a,Q5,K3 a,qn,w64s a q6];rw [Y3 (by simp;omega)]
      rfl) (fun o=>by simp only [q55,dnl,Q4])
    rw [List.nil_append] at this;exact this
  have f : loop (q56 q) (0,ysOf p) = some (ysOf p ++ ysOf q):=by
    have hp:=qd8 p
    exact J0 q q6 (fun r=>[r.Y0,r.Y1]) (ysOf p) (fun o=>o) (q56 q) (fun k a o b=>by
      have d : o.length = 2 * p.length + 2 * k:=by
        rw [b,List.length_append,hp];have:=qd8 (q.take k);rw [List.length_take,Nat.min_eq_left q6] at this;unfold ysOf at this;omega
      simp only [q56,dlt a,Q5,K3 a,qn,w64s a q6];rw [Y3 (by simp;omega)]
      rfl) (fun o=>by simp only [q56,dnl,Q4])
  unfold qaf;simp only [c,f,qn,(qgh h).1]
open Classical in
theorem qo6 (l : List qf) (x y : Int) (g : l.length≤1000000) : q6x l x y = some (decide (hasR l x y)):=by
  let c : qf→Bool:=fun r=>decide (r.X0≤x) && (decide (x < r.X1) && (decide (r.Y0≤y) && decide (y < r.Y1)))
  have hs : ∀ (k : Nat) (h : k < l.length),q3g l x y (k : Int) = some (if c l[k] = true then .inr (.inr true) else .inl ((k + 1 : Nat) : Int)):=by
    intro k h;simp only [q3g,dlt h,Q5,K3 h,qn,w64s h g,c];by_cases d : l[k].X0≤x <;> by_cases a : x < l[k].X1 <;> by_cases m : l[k].Y0≤y <;> by_cases q : y < l[k].Y1 <;> simp [d,a,m,q]
  have hd : q3g l x y (l.length : Int) = some (.inr (.inl ())):=by simp only [q3g,dnl,Q4]
  unfold q6x;rcases q1u l c (fun _ _=>true) () (q3g l x y) hs hd with ⟨d,a⟩ | ⟨k,n,b,_,a⟩
  · rw [a]
    have : ¬ hasR l x y:=by
      rintro ⟨r,j,o,p,s,f⟩;have:=d r j;simp [c,o,p,s,f] at this
    simp [this]
  · rw [a]
    have : hasR l x y:=by
      simp only [c,Bool.and_eq_true,decide_eq_true_eq] at b;exact ⟨l[k],Kf n,b.1,b.2.1,b.2.2.1,b.2.2.2⟩
    simp [this]
theorem qh1 {kind : Int} {a b : Prop} (h : Y9 kind a b) : a∨b:=by
  rcases h with ⟨_,h,_⟩ | ⟨_,h⟩ | ⟨_,_,h,_⟩
  · exact .inl h
  · exact h
  · exact .inl h
theorem qm2 {kind : Int} {a b a' c : Prop} (d : a↔a') (f : b↔c) : Y9 kind a b↔Y9 kind a' c:=by
  unfold Y9;rw [d,f]
open Classical in
theorem qrh (kind : Int) {p q : List qf} (h : p.length + q.length≤490) (x : Int) :
    q4w (K6 (ysOf p ++ ysOf q)) ((K6 (ysOf p ++ ysOf q)).map fun y=>decide (Y9 kind (hasR p x y) (hasR q x y))) = some (secJ kind p q x):=by
  obtain ⟨_,a,g⟩:=qgh h;generalize K6 (ysOf p ++ ysOf q) = ys at a g ⊢;obtain ⟨c,o,k⟩:=qjt ys (ys.map fun y=>decide (Y9 kind (hasR p x y) (hasR q x y))) a.1 q6 qg;rw [o];have s:=Jf p x;have r:=Jf q x;have m:=(q4h kind (covS p x) (covS q x) q6 q6).2;have mp : ∀ z∈ends (covS p x),z∈ys:=fun z j=>(a.2 z).2 (List.mem_append.2 (.inl (qku j)));have mq : ∀ z∈ends (covS q x),z∈ys:=fun z j=>(a.2 z).2 (List.mem_append.2 (.inr (qku j)));congr 1;refine q35 k.can m.can fun z=>?_;unfold secJ;rw [k.pts z,m.pts z];constructor
  · rintro ⟨i,hi,n,_,f,b,d⟩;simp only [List.getElem_map,decide_eq_true_eq] at f;refine (qm2 ?_ ?_).2 f
    · rw [q3q a.1 mp hi b d,q24]
    · rw [q3q a.1 mq hi b d,q24]
  · intro l
    have : ∃ i,∃ (h : i + 1 < ys.length),ys[i]≤z∧z < ys[i + 1]:=by
      rcases qh1 l with h | h
      · exact qdz a.1 mp h
      · exact qdz a.1 mq h
    obtain ⟨i,hi,b,d⟩:=this;refine ⟨i,hi,by simp;omega,q6,?_,b,d⟩;simp only [List.getElem_map,decide_eq_true_eq];refine (qm2 ?_ ?_).1 l
    · rw [q3q a.1 mp hi b d,q24]
    · rw [q3q a.1 mq hi b d,q24]
open Classical in
theorem qut (kind : Int) {p q : List qf} (h : p.length + q.length≤490) (ys xs : List Int) (d : ys.length≤1000000) (i : Nat) (hi : i < xs.length) (a : List ql × Int × Int × List qf) (f : a.2.2.1 = i) :
    loop (q51 ys xs a p q kind) (0,[]) = some (ys.map fun y=>decide (Y9 kind (hasR p xs[i] y) (hasR q xs[i] y))):=by
  have:=q3f ys (fun y=>decide (Y9 kind (hasR p xs[i] y) (hasR q xs[i] y))) [] (fun o=>o) (q51 ys xs a p q kind) (fun k b o c=>by
    simp only [q51,dlt b,Q5,f,K3 b,K3 hi,qn,qo6 p _ _ q6,qo6 q _ _ q6,qm3,w64s b d];rw [Y3 (by simp at c ⊢;omega)]
    rfl) (fun o=>by simp only [q51,dnl,Q4])
  rw [List.nil_append] at this;exact this
theorem quu (kind : Int) {p q : List qf} (h : p.length + q.length≤490) {xs : List Int} (hx : xs.length≤1000000) {i : Nat} (hi : i + 1 < xs.length) (s : Mg ql qf) (hl : (s.flat putR).length + (secJ kind p q xs[i]).length≤1000000)
    (h0 : i = 0→s.sec = []) (h1 : 0 < i→s.hi = xs[i]) :
    q3h xs (K6 (ysOf p ++ ysOf q)) p q kind (s.sec,(s.done.length : Int),(i : Int),s.flat putR) =
      some (.inl ((addM putR s xs[i] xs[i + 1] (secJ kind p q xs[i])).sec,((addM putR s xs[i] xs[i + 1] (secJ kind p q xs[i])).done.length : Int),((i + 1 : Nat) : Int),(addM putR s xs[i] xs[i + 1] (secJ kind p q xs[i])).flat putR)):=by
  have j : i < xs.length:=by omega
  have x : w64 ((i : Int) + 1) = ((i + 1 : Nat) : Int):=w64s j hx;have hy:=(qgh h).2.2;have ae : (s.flat putR).length = s.done.length + s.sec.length:=by simp [Mg.flat]
  have t:=qut kind h (K6 (ysOf p ++ ysOf q)) xs q6 i j (s.sec,(s.done.length : Int),(i : Int),s.flat putR) rfl;unfold q3h;simp only [x,dlt hi,Q5,t,qn,qrh kind h];generalize hc : secJ kind p q xs[i] = c at hl ⊢;by_cases a : 0 < i∧c = s.sec
  · obtain ⟨b,l⟩:=a;have hb : decide ((i : Int) > 0) = true:=Qr q6
    have d:=q6g (fun v : qf=>({X0:=v.X0,Y0:=v.Y0,X1:=xs[i + 1],Y1:=v.Y1} : qf)) s.done (s.sec.map (putR s.lo s.hi)) (by simp;omega) (q52 xs (s.sec,(s.done.length : Int),(i : Int),s.flat putR)) (fun k o f ho=>by
      have h5 : (s.done ++ s.sec.map (putR s.lo s.hi)).length = (s.flat putR).length:=rfl
      simp only [q52,dlt f,Q5,K3 f,K3 hi,x,qn,w64s f q6,Int.toNat_natCast]) (fun o=>by simp only [q52,dnl,Q4])
    have y : q4y c s.sec = some true:=by rw [qi8 _ _ q6];simp [l]
    have d : loop (q52 xs (s.sec,(s.done.length : Int),(i : Int),s.flat putR)) ((s.done.length : Int),s.flat putR) = _:=d;simp only [hb,Q5,y,qn,d];rcases q15 putR s xs[i] xs[i + 1] c with ⟨_,_,_,g⟩ | ⟨h3,g⟩
    · rw [g];simp only [Mg.flat,List.map_map];rfl
    · have m : c = []:=Classical.byContradiction fun hn=>h3 ⟨hn,l,h1 b⟩;rw [g];simp [Mg.flat,← l,m]
  · have r : (cond (decide ((i : Int) > 0)) ((q4y c s.sec).bind fun n=>some n) (some false)) = some false:=by
      by_cases b : 0 < i
      · have hb : decide ((i : Int) > 0) = true:=Qr q6;have u : c≠s.sec:=fun h=>a ⟨b,h⟩;rw [hb,Q5,qi8 _ _ q6];simp [u]
      · have hb : decide ((i : Int) > 0) = false:=Qs q6;rw [hb,Q4]
    have w:=q3f c (putR xs[i] xs[i + 1]) (s.flat putR) (fun o=>(c,((s.flat putR).length : Int),o)) (q6y c xs (s.sec,(s.done.length : Int),(i : Int),s.flat putR)) (fun k f o ho=>by
      simp only [q6y,dlt f,Q5,K3 f,K3 j,K3 hi,x,qn,w64s f q6];rw [Y3 (by simp;omega)]
      rfl) (fun o=>by simp only [q6y,dnl,Q4])
    have g : addM putR s xs[i] xs[i + 1] c = ⟨s.flat putR,c,xs[i],xs[i + 1]⟩:=by
      rcases q15 putR s xs[i] xs[i + 1] c with ⟨g1,z,_,_⟩ | ⟨_,g⟩
      · refine absurd ?_ a;refine ⟨Nat.pos_of_ne_zero fun h=>g1 ?_,z⟩;rw [z,h0 h]
      · exact g
    rw [g];simp only [r,qn,Q4,w];simp [Mg.flat]
theorem q6z (kind : Int) {p q : List qf} (h : p.length + q.length≤490) : U7 kind p q = some (mrgR kind p q):=by
  unfold U7;rw [qyt h,qyv h];simp only [qn];obtain ⟨_,g,d⟩:=q9d h;have b:=fun i=>qhm kind h i;unfold mrgR mrg;generalize K6 (xsOf p ++ xsOf q) = xs at g d b ⊢;generalize a : Yt xs (secJ kind p q) = steps at b ⊢;have t : steps.length = xs.length - 1:=by rw [← a];exact q64 _ _
  have key:=Z6 (f:=q3h xs (K6 (ysOf p ++ ysOf q)) p q kind) (fun k=>((Qv putR Qt (steps.take k)).sec,((Qv putR Qt (steps.take k)).done.length : Int),(k : Int),(Qv putR Qt (steps.take k)).flat putR))
    steps.length ((Qv putR Qt steps).flat putR) (fun k j=>by
      have c : k + 1 < xs.length:=by omega
      have s : steps[k] = (xs[k],xs[k + 1],secJ kind p q xs[k]):=by subst a;exact q63 j c
      have o:=qey kind (p:=p) (q:=q) q6 xs[k];have n:=b k
      have:=quu kind h (xs:=xs) q6 c (Qv putR Qt (steps.take k)) q6 (fun r=>by subst r;rfl) (fun l=>by
        obtain ⟨m,rfl⟩ : ∃ m,k = m + 1:=⟨k - 1,q6⟩
        rw [q2m putR q6,qfp];subst a
        rw [q63 q6 q6])
      rw [this,q2m putR j,s]) (by
      rw [List.take_length]
      have hb : decide (w64 ((steps.length : Int) + 1) < (xs.length : Int)) = false:=by
        rw [Qm q6];exact Qs q6
      unfold q3h
      simp only [hb,Q4]) (Nat.zero_le _)
  have key : loop (q3h xs (K6 (ysOf p ++ ysOf q)) p q kind) ([],0,0,[]) = some ((Qv putR Qt steps).flat putR):=key;rw [key];rfl
end Go.Sh
namespace Go.Sh
open Go Go.Am
noncomputable def Kr (l : List qf) : Int:=if 400 < l.length then 4 else if ∀ r∈l,vR r then (if mrgR 2 l [] = l then 0 else 8) else 8
theorem qk0 {l : List qf} (h : Kr l = 0) : l.length≤400∧(∀ r∈l,vR r)∧mrgR 2 l [] = l:=by
  unfold Kr at h;split at h
  · omega
  · split at h
    · split at h
      · rename_i a b c;exact ⟨q6,b,c⟩
      · omega
    · omega
theorem qzz (l : List qf) (f : l.length≤1000000) : q5k l (fun a=>q3k a) = some (decide (¬ ∀ r∈l,vR r)):=by
  have hs : ∀ (k : Nat) (h : k < l.length),q2d l (fun a=>q3k a) (k : Int) = some (if (fun r=>!decide (vR r)) l[k] = true then .inr (.inr (k : Int)) else .inl ((k + 1 : Nat) : Int)):=by
    intro k h;simp only [q2d,dlt h,Q5,K3 h,qn,w64s h f,q3k,qqb];by_cases d : vR l[k] <;> simp [d]
  have hd : q2d l (fun a=>q3k a) (l.length : Int) = some (.inr (.inl ())):=by simp only [q2d,dnl,Q4]
  unfold q5k qb1;rcases q1u l (fun r=>!decide (vR r)) (fun k _=>(k : Int)) () _ hs hd with ⟨j,b⟩ | ⟨k,c,m,_,b⟩
  · rw [b];have : ∀ r∈l,vR r:=fun r g=>by simpa using j r g
    simp [];omega
  · rw [b];have : ¬ ∀ r∈l,vR r:=fun h=>by simp [h _ (Kf c)] at m
    simp only [qn];rw [Qr this,Qr q6]
theorem qao (l : List qf) : q2b l = some (Kr l):=by
  unfold q2b Kr;by_cases d : 400 < l.length
  · rw [Qr (by omega : (l.length : Int) > 400),Q5,Q1 d]
  rw [Qs (by omega : ¬ (l.length : Int) > 400),Q4,Q2 d,qzz l q6,qn];by_cases a : ∀ r∈l,vR r
  · rw [Qs (fun h=>h a),Q4,qmr l q6 a,Q1 a,qn];by_cases b : 400 < (mrgR 2 l []).length
    · have c : mrgR 2 l []≠l:=fun h=>by rw [h] at b;exact d b
      rw [Q1 b,Q2 c];rfl
    · rw [Q2 b];simp only [q6e (mrgR 2 l []) l q6];by_cases f : mrgR 2 l [] = l <;> simp [f]
  · rw [Qr a,Q5,Q2 a]
def putB (a b : Int) (r : qf) : qk:={Lo:={X:=r.X0,Y:=r.Y0,Z:=a},Hi:={X:=r.X1,Y:=r.Y1,Z:=b}}
def q17 (z : Int) : Prop:=-1000000≤z∧z≤1000000
instance (z : Int) : Decidable (q17 z):=by unfold q17;infer_instance
end Go.Sh
namespace Go.Sh
open Go Go.Am
def covB (z : Int) (b : qk) : Bool:=decide (b.Lo.Z≤z) && decide (z < b.Hi.Z)
def U8 (b : qk) : qf:={X0:=b.Lo.X,Y0:=b.Lo.Y,X1:=b.Hi.X,Y1:=b.Hi.Y}
def atB (l : List qk) (z : Int) : List qf:=l.flatMap fun b=>if covB z b = true then [U8 b] else []
theorem Jb (l : List qk) (x : Int) : (atB l x).length≤l.length:=by
  unfold atB
  induction l with
  | nil=>simp
  | cons r l ih=>
    simp only [List.flatMap_cons,List.length_append,List.length_cons];have : (if covB x r = true then [U8 r] else []).length≤1:=by split <;> simp
    omega
theorem qen (l : List qk) (d : l.length≤1000000) (z : Int) : Uw l z = some (atB l z):=by
  have:=J0 l d (fun b=>if covB z b = true then [U8 b] else []) [] (fun o=>o) (q72 l z) (fun k a o g=>by
    have h : o.length≤k:=by rw [g,List.nil_append];have:=Jb (l.take k) z;rw [List.length_take,Nat.min_eq_left q6] at this;exact this
    simp only [q72,dlt a,Q5,K3 a,qn,w64s a d];by_cases c : l[k].Lo.Z≤z
    · by_cases f : z < l[k].Hi.Z
      · simp only [c,f,decide_true,Q5,qn,covB,Bool.and_self,if_true];rw [Y3 (by simp;omega)];rfl
      · simp only [c,f,decide_true,decide_false,Q5,Q4,qn,covB,Bool.and_false,if_false,Bool.false_eq_true,List.append_nil]
    · simp only [c,decide_false,Q4,qn,covB,Bool.false_and,if_false,Bool.false_eq_true,List.append_nil]) (fun o=>by simp only [q72,dnl,Q4])
  rw [List.nil_append] at this;unfold Uw;rw [this];rfl
def zsOf (l : List qk) : List Int:=l.flatMap fun b=>[b.Lo.Z,b.Hi.Z]
theorem J8 (l : List qk) : (zsOf l).length = 2 * l.length:=by
  unfold zsOf;induction l with
  | nil=>rfl
  | cons r l ih=>simp only [List.flatMap_cons,List.length_append,List.length_cons,List.length_nil];omega
theorem qyz {p q : List qk} (h : p.length + q.length≤100000) : qag p q = some (K6 (zsOf p ++ zsOf q)):=by
  have c : loop (q57 p) (0,[]) = some (zsOf p):=by
    have:=J0 p q6 (fun r=>[r.Lo.Z,r.Hi.Z]) [] (fun o=>o) (q57 p) (fun k a o b=>by
      have d : o.length = 2 * k:=by rw [b,List.nil_append];have:=J8 (p.take k);rw [List.length_take,Nat.min_eq_left q6] at this;exact this
      simp only [q57,dlt a,Q5,K3 a,qn,w64s a q6];rw [Y3 (by simp;omega)]
      rfl) (fun o=>by simp only [q57,dnl,Q4])
    rw [List.nil_append] at this;exact this
  have f : loop (q58 q) (0,zsOf p) = some (zsOf p ++ zsOf q):=by
    have hp:=J8 p
    exact J0 q q6 (fun r=>[r.Lo.Z,r.Hi.Z]) (zsOf p) (fun o=>o) (q58 q) (fun k a o b=>by
      have d : o.length = 2 * p.length + 2 * k:=by
        rw [b,List.length_append,hp];have:=J8 (q.take k);rw [List.length_take,Nat.min_eq_left q6] at this;unfold zsOf at this;omega
      simp only [q58,dlt a,Q5,K3 a,qn,w64s a q6];rw [Y3 (by simp;omega)]
      rfl) (fun o=>by simp only [q58,dnl,Q4])
  have j:=J8 p;have g:=J8 q;unfold qag;simp only [c,f,qn,(Ui (l:=zsOf p ++ zsOf q) (by simp;omega)).1]
structure qja (kind : Int) (p q : List qk) (z : Int) : Prop where
  n : (atB p z).length + (atB q z).length≤490
  m : (mrgR kind (atB p z) (atB q z)).length≤400
  mp : (mrgR 2 (atB p z) []).length≤400
  mq : (mrgR 2 (atB q z) []).length≤400
noncomputable def secB (kind : Int) (p q : List qk) (z : Int) : List qf:=mrgR kind (atB p z) (atB q z)
theorem qus (kind : Int) {p q : List qk} (h : p.length + q.length≤100000) {xs : List Int} (hx : xs.length≤1000000) {i : Nat} (hi : i + 1 < xs.length) (x : qja kind p q xs[i]) (s : Mg qf qk) (hl : (s.flat putB).length + 400≤1000000)
    (h0 : i = 0→s.sec = []) (h1 : 0 < i→s.hi = xs[i]) :
    q2u xs p q kind (s.sec,(s.done.length : Int),(i : Int),s.flat putB) =
      some (.inl ((addM putB s xs[i] xs[i + 1] (secB kind p q xs[i])).sec,((addM putB s xs[i] xs[i + 1] (secB kind p q xs[i])).done.length : Int),((i + 1 : Nat) : Int),(addM putB s xs[i] xs[i + 1] (secB kind p q xs[i])).flat putB)):=by
  have g : i < xs.length:=by omega
  have w : w64 ((i : Int) + 1) = ((i + 1 : Nat) : Int):=w64s g hx;have ao : (s.flat putB).length = s.done.length + s.sec.length:=by simp [Mg.flat]
  obtain ⟨z,hm,ah,ar⟩:=x;have ap : Uw p xs[i] = some (atB p xs[i]):=qen p q6 _;have aq : Uw q xs[i] = some (atB q xs[i]):=qen q q6 _;have jj : U7 kind (atB p xs[i]) (atB q xs[i]) = some (secB kind p q xs[i]):=q6z kind z;have jp : U7 2 (atB p xs[i]) [] = some (mrgR 2 (atB p xs[i]) []):=q6z 2 (by simp;omega);have jq : U7 2 (atB q xs[i]) [] = some (mrgR 2 (atB q xs[i]) []):=q6z 2 (by simp;omega);have hm : (secB kind p q xs[i]).length≤400:=hm;have d1 : decide (((secB kind p q xs[i]).length : Int) > 400) = false:=Qs q6;have d2 : decide (((mrgR 2 (atB p xs[i]) []).length : Int) > 400) = false:=Qs q6;have d3 : decide (((mrgR 2 (atB q xs[i]) []).length : Int) > 400) = false:=Qs q6;unfold q2u;simp only [w,dlt hi,Q5,K3 g,ap,aq,jj,jp,jq,d1,d2,d3,Q4,qn];generalize hc : secB kind p q xs[i] = c at hm ⊢;by_cases a : 0 < i∧c = s.sec
  · obtain ⟨b,l⟩:=a;have hb : decide ((i : Int) > 0) = true:=Qr q6
    have d:=q6g (fun v : qk=>({Lo:=v.Lo,Hi:=({X:=v.Hi.X,Y:=v.Hi.Y,Z:=xs[i + 1]} : Q0)} : qk)) s.done (s.sec.map (putB s.lo s.hi)) (by simp;omega) (q5a xs (s.sec,(s.done.length : Int),(i : Int),s.flat putB)) (fun k o j ho=>by
      have h5 : (s.done ++ s.sec.map (putB s.lo s.hi)).length = (s.flat putB).length:=rfl
      simp only [q5a,dlt j,Q5,K3 j,K3 hi,w,qn,w64s j q6,Int.toNat_natCast]) (fun o=>by simp only [q5a,dnl,Q4])
    have y : q70 c s.sec = some true:=by rw [qor _ _ q6];simp [l]
    have d : loop (q5a xs (s.sec,(s.done.length : Int),(i : Int),s.flat putB)) ((s.done.length : Int),s.flat putB) = _:=d;simp only [hb,Q5,y,qn,d];rcases q15 putB s xs[i] xs[i + 1] c with ⟨_,_,_,f⟩ | ⟨h3,f⟩
    · rw [f];simp only [Mg.flat,List.map_map];rfl
    · have m : c = []:=Classical.byContradiction fun z=>h3 ⟨z,l,h1 b⟩;rw [f];simp [Mg.flat,← l,m]
  · have n : (cond (decide ((i : Int) > 0)) ((q70 c s.sec).bind fun r=>some r) (some false)) = some false:=by
      by_cases b : 0 < i
      · have hb : decide ((i : Int) > 0) = true:=Qr q6;have t : c≠s.sec:=fun h=>a ⟨b,h⟩;rw [hb,Q5,qor _ _ q6];simp [t]
      · have hb : decide ((i : Int) > 0) = false:=Qs q6;rw [hb,Q4]
    have u:=q3f c (putB xs[i] xs[i + 1]) (s.flat putB) (fun o=>(c,((s.flat putB).length : Int),o)) (q75 c xs (s.sec,(s.done.length : Int),(i : Int),s.flat putB)) (fun k j o ho=>by
      simp only [q75,dlt j,Q5,K3 j,K3 g,K3 hi,w,qn,w64s j q6];rw [Y3 (by simp;omega)]
      rfl) (fun o=>by simp only [q75,dnl,Q4])
    have f : addM putB s xs[i] xs[i + 1] c = ⟨s.flat putB,c,xs[i],xs[i + 1]⟩:=by
      rcases q15 putB s xs[i] xs[i + 1] c with ⟨g1,g2,_,_⟩ | ⟨_,f⟩
      · refine absurd ?_ a;refine ⟨Nat.pos_of_ne_zero fun h=>g1 ?_,g2⟩;rw [g2,h0 h]
      · exact f
    rw [f];simp only [n,qn,Q4,u];simp [Mg.flat]
noncomputable def mrgB (kind : Int) (p q : List qk) : List qk:=(Qv putB Qt (Yt (K6 (zsOf p ++ zsOf q)) (secB kind p q))).flat putB
section
variable {σ β : Type} (put : Int→Int→σ→β)
def Alike (s t : Mg σ β) : Prop:=s = t∨(s.flat put = t.flat put∧s.sec = []∧t.sec = [])
theorem Alike.flat {s t : Mg σ β} (h : Alike put s t) : s.flat put = t.flat put:=by
  rcases h with rfl | h
  · rfl
  · exact h.1
end
section
variable {σ β : Type} [DecidableEq σ] (put : Int→Int→σ→β)
def runM (sec : Int→List σ) : Mg σ β→List Int→Mg σ β
  | s,a::b::r=>runM sec (addM put s a b (sec a)) (b::r)
  | s,_=>s
theorem ql9 (sec : Int→List σ) : ∀ (c : List Int) (s : Mg σ β),Qv put s (Yt c sec) = runM put sec s c
  | [],s=>rfl
  | [a],s=>rfl
  | a::b::r,s=>by
    have:=ql9 sec (b::r) (addM put s a b (sec a))
    simp only [runM,← this]
    rfl
theorem Alike.add {s t : Mg σ β} (h : Alike put s t) (a b : Int) (c : List σ) : Alike put (addM put s a b c) (addM put t a b c):=by
  rcases h with rfl | ⟨m,k,n⟩
  · exact .inl rfl
  · refine .inl ?_;rcases q15 put s a b c with ⟨g,f,_,_⟩ | ⟨_,d⟩
    · exact absurd (f.trans k) g
    · rcases q15 put t a b c with ⟨j,o,_,_⟩ | ⟨_,l⟩
      · exact absurd (o.trans n) j
      · rw [d,l,m]
end
end Go.Sh
