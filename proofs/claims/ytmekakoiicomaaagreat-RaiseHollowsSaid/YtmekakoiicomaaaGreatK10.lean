/- Rh0 Pl1 Pl2 Pl3 Pg6 Pj1 Pj2 Rh1 Pl4 -/
import Derived.Test.YtmekakoiicomaaaGreatK9
namespace Go.Sh
open Go Go.Am
theorem qww : qd2 = q4d:=rfl
theorem qvx : q27 = q2o:=by
  funext p0;simp only [q27,q2o,qww]
  all_goals exact Qy
theorem qn8 : U3 = q18:=by
  funext p0;simp only [U3,q18,qvx]
  all_goals exact Qy
theorem qw9 : q10 = q1y:=by
  funext p0;simp only [q10,q1y,qn8]
  all_goals exact Qy
theorem qwx : q11 = q22:=by
  funext p0;simp only [q11,q22]
  all_goals exact Qy
theorem qw7 : qbj = Jy:=by
  funext p1 q1 a459;simp only [qbj,Jy]
  all_goals exact Qy
theorem qw6 : qbi = q1d:=by
  funext p2 p1 q1 a278;simp only [qbi,q1d,qw7]
  all_goals exact Qy
theorem qw5 : qbh = q1x:=by
  funext q1 p0 p1 p2;simp only [qbh,q1x,qw6]
  all_goals exact Qy
theorem qwv : qcj = U1:=by
  funext p2 p3 q1 a197;simp only [qcj,U1]
  all_goals exact Qy
theorem qna : q8p = Ur:=by
  funext q1 p0 p1 p2 p3;simp only [q8p,Ur,qwv]
  all_goals exact Qy
theorem qw3 : qbc = q1b:=by
  funext q1 p2 p1 a123;simp only [qbc,q1b,qna]
  all_goals exact Qy
theorem qw4 : qbd = q1c:=by
  funext p1 q1 a191;simp only [qbd,q1c,qna]
  all_goals exact Qy
theorem qw2 : qbb = q1w:=by
  funext q1 p0 p1 p2;simp only [qbb,q1w,qw3,qw4]
  all_goals exact Qy
theorem qwa : q5r = Ul:=by
  funext q1 p0 p1 p2 p3;simp only [q5r,Ul]
  all_goals exact Qy
theorem qn9 : q7z = Uk:=by
  funext q1 p0 p1 p2 p3 p4;simp only [q7z,Uk,qwa]
  all_goals exact Qy
theorem qw8 : q5o = Jz:=by
  funext q1 p0 p1 p2;simp only [q5o,Jz,qn9]
  all_goals exact Qy
theorem qw1 : qb9 = q1v:=by
  funext p0 p1 p2 p3;simp only [qb9,q1v,qn9,qw8]
  all_goals exact Qy
theorem qwu : qcf = q21:=by
  funext a119;simp only [qcf,q21]
  all_goals exact Qy
theorem qwt : qce = q1i:=by
  funext q1 p0 p1 p2;simp only [qce,q1i,qwu]
  all_goals exact Qy
theorem qwd : qbn = Um:=by
  funext p2 a438 q1 a681;simp only [qbn,Um]
  all_goals exact Qy
theorem qwe : qbo = Un:=by
  funext q1 a838;simp only [qbo,Un]
  all_goals exact Qy
theorem qwf : qbp = Uo:=by
  funext p2 q1 b684 a928;simp only [qbp,Uo]
  all_goals exact Qy
theorem qwc : q82 = Zm:=by
  funext p2 q1 p1 a438;have a : @q82.match_1.{1} = @Zm.match_1.{1} qu:=by funext motive m f g;cases m <;> rfl
  unfold q82 Zm;rw [a];simp only [qwd,qwe,qwf]
theorem qwb : q81 = Ji:=by
  funext q1 p0 p1 p2;have a : @q81.match_1.{1} = @Ji.match_1.{1} qu:=by funext motive m f g;cases m <;> rfl
  unfold q81 Ji;rw [a];simp only [qwc]
theorem qwj : qc8 = Up:=by
  funext a318 p1 q1 a378;simp only [qc8,Up]
  all_goals exact Qy
theorem qwk : qc9 = Uq:=by
  funext b381 a318 p1 q1 a463;simp only [qc9,Uq]
  all_goals exact Qy
theorem qwi : qc7 = q1g:=by
  funext p1 q1 a318;simp only [qc7,q1g,qwj,qwk]
  all_goals exact Qy
theorem qwh : qc6 = q1f:=by
  funext q1 p0 p1 p2 p3;simp only [qc6,q1f,qwi]
  all_goals exact Qy
theorem qwl : qbv = q1z:=by
  funext p2 p0 p1 v101 p3 v103 q1 a163;simp only [qbv,q1z]
  all_goals exact Qy
theorem qwm : qbw = q20:=by
  funext b166 p0 p1 v101 p3 v103 q1 a249;simp only [qbw,q20]
  all_goals exact Qy
theorem qwo : qby = J3:=by
  funext a514 p1 q1 a572;simp only [qby,J3]
  all_goals exact Qy
theorem qwp : qbz = J4:=by
  funext b575 a514 p1 q1 a658;simp only [qbz,J4]
  all_goals exact Qy
theorem qwn : qbx = q1h:=by
  funext p1 q1 a514;simp only [qbx,q1h,qwo,qwp]
  all_goals exact Qy
theorem qwg : qbu = q1e:=by
  funext q1 p0 p1 p2 p3;simp only [qbu,q1e,qwl,qwm,qwn]
  all_goals exact Qy
theorem qw0 : qb6 = Uj:=by
  funext p1 p2 r101 a153;simp only [qb6,Uj,qwx]
  all_goals exact Qy
theorem qvz : qb5 = q1a:=by
  funext q1 p0 p1 p2;simp only [qb5,q1a,qw9,qw0]
  all_goals exact Qy
theorem qwr : q8i = Zd:=by
  funext q1 rec a412;have a : @q8i.match_1.{1} = @Zd.match_1.{1} qu:=by funext motive m f g;cases m <;> rfl
  unfold q8i Zd;rw [a];simp only [qw5,qw2,qw1,qwt,qwb,qwh,qwg,qvz]
theorem qws : q8j = U0:=by
  funext rec q1 p0 p1 p2 p3;simp only [q8j,U0,qwr]
  all_goals exact Qy
theorem qwq : ∀ N q,q8h N q = Zc N q:=by
  intro N q
  induction N with
  | zero=>rfl
  | succ N ih=>
    funext a b c d;show q8j (q8h N q) q a b c d = U0 (Zc N q) q a b c d;rw [ih,qws]
theorem qvy : q7o = q19:=by
  funext q1 p0;simp only [q7o,q19,qn8,qwq]
  all_goals exact Qy
end Go.Sh
namespace Go.Sh
open Go Go.Am
def has (s : List ql) (x : Int) : Prop:=∃ t∈s,t.Lo≤x∧x < t.Hi
def Can (s : List ql) : Prop:=(∀ t∈s,t.Lo < t.Hi)∧s.Pairwise (fun a b=>a.Hi < b.Lo)
def vld (t : ql) : Prop:=t.Lo < t.Hi∧-1000000≤t.Lo∧t.Hi≤1000000
instance (t : ql) : Decidable (vld t):=by unfold vld;exact inferInstance
def Good (s : List ql) : Prop:=(∀ t∈s,vld t)∧s.Pairwise (fun a b=>a.Hi < b.Lo)
theorem Good.can {s : List ql} (h : Good s) : Can s:=⟨fun t a=>(h.1 t a).1,h.2⟩
theorem q2p (x : Int) : ¬ has [] x:=by rintro ⟨t,h,_⟩;cases h
theorem Zt {a : ql} {s : List ql} {x : Int} : has (a::s) x↔(a.Lo≤x∧x < a.Hi)∨has s x:=by
  constructor
  · rintro ⟨t,b,h⟩;rcases List.mem_cons.1 b with rfl | b
    · exact .inl h
    · exact .inr ⟨t,b,h⟩
  · rintro (h | ⟨t,b,h⟩)
    · exact ⟨a,qg,h⟩
    · exact ⟨t,by simp [b],h⟩
theorem qua {a b : List ql} {x : Int} : has (a ++ b) x↔has a x∨has b x:=by
  induction a with
  | nil=>simp [q2p]
  | cons t r ih=>simp only [List.cons_append,Zt,ih,or_assoc]
theorem Can.tail {a : ql} {s : List ql} (h : Can (a::s)) : Can s:=⟨fun t b=>h.1 t (by simp [b]),(List.pairwise_cons.1 h.2).2⟩
theorem Can.lt {a : ql} {s : List ql} (h : Can (a::s)) : ∀ t∈s,a.Hi < t.Lo:=(List.pairwise_cons.1 h.2).1
theorem Can.tail_gt {a : ql} {s : List ql} (h : Can (a::s)) {x : Int} (c : has s x) : a.Hi < x:=by
  obtain ⟨t,b,f,d⟩:=c;have:=h.lt t b;omega
theorem q35 : ∀ {s t : List ql},Can s→Can t→(∀ x,has s x↔has t x)→s = t
  | [],[],_,_,_=>rfl
  | [],b::t,_,c,h=>absurd ((h b.Lo).2 (Zt.2 (.inl ⟨Int.le_refl _,c.1 b qg⟩))) (q2p _)
  | a::s,[],hs,_,h=>absurd ((h a.Lo).1 (Zt.2 (.inl ⟨Int.le_refl _,hs.1 a qg⟩))) (q2p _)
  | a::s,b::t,hs,c,h=>by
    have m:=hs.1 a qg
    have hb:=c.1 b qg
    have lo : ∀ {a b : ql} {s t : List ql},Can (a::s)→Can (b::t)→(∀ x,has (a::s) x↔has (b::t) x)→b.Lo≤a.Lo:=by
      intro a b s t hs c h;rcases Zt.1 ((h a.Lo).1 (Zt.2 (.inl ⟨Int.le_refl _,hs.1 a qg⟩))) with d | d
      · exact d.1
      · have:=c.tail_gt d;have:=c.1 b qg;omega
    have j : a.Lo = b.Lo:=Int.le_antisymm (lo c hs fun x=>(h x).symm) (lo hs c h)
    have hi : ∀ {a b : ql} {s t : List ql},Can (a::s)→Can (b::t)→(∀ x,has (a::s) x↔has (b::t) x)→a.Lo = b.Lo→b.Hi≤a.Hi:=by
      intro a b s t hs c h e;have m:=hs.1 a qg;have hb:=c.1 b qg;refine Int.not_lt.1 fun k=>?_;rcases Zt.1 ((h a.Hi).2 (Zt.2 (.inl ⟨q6,k⟩))) with d | d
      · omega
      · have:=hs.tail_gt d;omega
    have l : a.Hi = b.Hi:=Int.le_antisymm (hi c hs (fun x=>(h x).symm) j.symm) (hi hs c h j)
    have e : a = b:=by cases a;cases b;simp at j l;simp [j,l]
    subst e
    congr 1
    refine q35 hs.tail c.tail fun x=>⟨fun g=>?_,fun g=>?_⟩
    · have d:=hs.tail_gt g
      rcases Zt.1 ((h x).1 (Zt.2 (.inr g))) with f | f
      · omega
      · exact f
    · have d:=c.tail_gt g
      rcases Zt.1 ((h x).2 (Zt.2 (.inr g))) with f | f
      · omega
      · exact f
theorem qqc (t : ql) : q3z t = some (decide (vld t)):=by
  unfold q3z vld;by_cases a : t.Lo < t.Hi <;> by_cases b : -1000000≤t.Lo <;> by_cases c : t.Hi≤1000000 <;> simp [a,b,c]
open Classical in
noncomputable def Yu (s : List ql) : Int:=if 400 < s.length then 4 else if Good s then 0 else 8
def qj8 (s : List ql) (k : Nat) : Prop:=(∀ i (h : i < s.length),i < k→vld s[i])∧∀ i (h : i + 1 < s.length),i + 1 < k→s[i].Hi < s[i+1].Lo
theorem qu1 {s : List ql} (h : qj8 s s.length) : Good s:=by
  refine ⟨fun t d=>?_,?_⟩
  · obtain ⟨i,hi,rfl⟩:=List.mem_iff_getElem.1 d;exact h.1 i hi hi
  · have key : ∀ i j (hi : i < s.length) (a : j < s.length),i < j→s[i].Hi < s[j].Lo:=by
      intro i j hi a b
      induction j with
      | zero=>omega
      | succ j ih=>
        have c:=h.2 j a a;by_cases e : i = j
        · subst e;exact c
        · have f:=ih q6 q6;have g:=(h.1 j q6 q6).1;omega
    rw [List.pairwise_iff_getElem];exact key
theorem Good.get {s : List ql} (h : Good s) (i : Nat) (hi : i < s.length) : vld s[i]:=h.1 _ (Kf hi)
theorem Good.nxt {s : List ql} (h : Good s) (i j : Nat) (hi : i < s.length) (b : j < s.length) (a : i < j) : s[i].Hi < s[j].Lo:=List.pairwise_iff_getElem.1 h.2 i j hi b a
theorem qg8 (s : List ql) : q3w s = some (Yu s):=by
  unfold q3w Yu;by_cases n : 400 < s.length
  · have : decide ((s.length : Int) > 400) = true:=by simp;omega
    simp [this,n]
  · have hd : decide ((s.length : Int) > 400) = false:=by simp;omega
    simp only [hd,n,if_false,Q4];have:=J6 (f:=q31 s) (σ:=Unit) (fun k _=>(k : Int)) s.length (fun k _=>qj8 s k) (fun b=>(b = .inl ()∧Good s)∨(b = .inr 8∧¬ Good s)) ?_ ?_ (k0:=0) (c0:=()) q6 ⟨fun i _ h=>q6,fun i _ h=>q6⟩
    · obtain ⟨b,m,d⟩:=this;have m : loop (q31 s) 0 = some b:=m;rw [m];rcases d with ⟨rfl,d⟩ | ⟨rfl,d⟩ <;> simp [d]
    · intro k _ l g;have hb : decide ((k : Int) < (s.length : Int)) = true:=by simp;omega
      simp only [q31,hb,Q5,K3 l,qn,qqc];have bad : ¬ Good s→∃ b,(some (Sum.inr (Sum.inr 8)) : Option (Int ⊕ (Unit ⊕ Int))) = some (.inr b)∧((b = .inl ()∧Good s)∨(b = .inr 8∧¬ Good s)):=fun h=>⟨_,rfl,.inr ⟨rfl,h⟩⟩
      by_cases c : vld s[k]
      · simp only [c,decide_true,Bool.not_true,Q4];by_cases o : k = 0
        · subst o;refine .inl ⟨(),by simp [Qm],⟨fun i hi h=>?_,fun i hi h=>q6⟩⟩
          (obtain rfl : i = 0:=by omega)
          exact c
        · obtain ⟨j,rfl⟩ : ∃ j,k = j + 1:=⟨k - 1,q6⟩
          have hp : decide (((j + 1 : Nat) : Int) > 0) = true:=Qr q6
          have p : idx s (w64 (((j + 1 : Nat) : Int) - 1)) = some (s[j]'(q6)):=by
            rw [Qm q6];exact Zu q6 q6
          simp only [hp,Q5,p,qn];by_cases a : s[j].Hi < s[j+1].Lo
          · have : decide (s[j].Hi ≥ s[j+1].Lo) = false:=by simp;omega
            simp only [this,Q4];rw [Qm q6];refine .inl ⟨(),rfl,⟨fun i hi h=>?_,fun i hi h=>?_⟩⟩
            · by_cases e : i = j + 1
              · subst e;exact c
              · exact g.1 i hi q6
            · by_cases e : i = j
              · subst e;exact a
              · exact g.2 i hi q6
          · have : decide (s[j].Hi ≥ s[j+1].Lo) = true:=by simp;omega
            simp only [this,Q5];exact .inr (bad fun h=>a (h.nxt j (j + 1) q6 l q6))
      · simp only [c,decide_false,Bool.not_false,Q5,qn];exact .inr (bad fun h=>c (h.get k l))
    · intro _ g;have hb : decide ((s.length : Int) < (s.length : Int)) = false:=by simp
      simp only [q31,hb,Q4];exact ⟨_,rfl,.inl ⟨rfl,qu1 g⟩⟩
theorem qyr : qo5 = q3z:=rfl
theorem qyo (s : List ql) : qhy s = q31 s:=by
  funext a;unfold qhy q31;cases h : idx s a <;> simp [qyr]
theorem qyq (s : List ql) : qei s = some (Yu s):=by
  rw [← qg8];unfold qei q3w;rw [qyo]
open Classical in
theorem qo2 (s : List ql) (x : Int) (l : s.length≤1000000) : qej s x = some (decide (has s x)):=by
  have:=J6 (f:=qab s x) (σ:=Unit) (fun k _=>(k : Int)) s.length (fun k _=>∀ i (h : i < s.length),i < k→¬ (s[i].Lo≤x∧x < s[i].Hi)) (fun b=>(b = .inl ()∧¬ has s x)∨(b = .inr true∧has s x)) ?_ ?_ (k0:=0) (c0:=()) q6 (fun i _ h=>q6)
  · obtain ⟨b,c,a⟩:=this;have c : loop (qab s x) 0 = some b:=c;unfold qej;rw [c];rcases a with ⟨rfl,a⟩ | ⟨rfl,a⟩ <;> simp [a]
  · intro k _ g d;have hb : decide ((k : Int) < (s.length : Int)) = true:=Qr q6;simp only [qab,hb,Q5,K3 g,qn];by_cases c : s[k].Lo≤x <;> by_cases a : x < s[k].Hi
    · exact .inr ⟨.inr true,by simp [c,a],.inr ⟨rfl,s[k],Kf g,c,a⟩⟩
    all_goals
      refine .inl ⟨(),by simp [c,a];exact Qm q6,fun i hi h=>?_⟩
      by_cases e : i = k
      · subst e;omega
      · exact d i hi q6
  · intro _ d;have hb : decide ((s.length : Int) < (s.length : Int)) = false:=Qs q6;simp only [qab,hb,Q4];refine ⟨_,rfl,.inl ⟨rfl,?_⟩⟩;rintro ⟨t,j,h⟩;obtain ⟨i,hi,rfl⟩:=List.mem_iff_getElem.1 j;exact d i hi hi h
end Go.Sh
namespace Go.Sh
open Go Go.Am
theorem quk (out : List Int) (v : Int) (b : Nat) (hb : b≤out.length) :
    (cpyw (out ++ [0]) (b + 1,(out ++ [0]).length - (b + 1)) ((((out ++ [0]).drop b).take ((out ++ [0]).length - b)))).set b v = out.take b ++ v::out.drop b:=by
  have c : ((out ++ [0]).drop b).take ((out ++ [0]).length - b) = (out ++ [0]).drop b:=List.take_of_length_le qg;rw [c];unfold cpyw splice;have j : (min ((out ++ [0]).drop b).length ((out ++ [0]).length - (b + 1))) = out.length - b:=by simp;omega
  simp only [j]
  have d : ((out ++ [0]).drop b).take (out.length - b) = out.drop b:=by
    rw [List.drop_append_of_le_length hb,List.take_append_of_le_length qg];exact List.take_of_length_le qg
  rw [d]
  have h : (out ++ [0]).drop (b + 1 + (out.drop b).length) = []:=by
    apply List.drop_of_length_le;simp;omega
  rw [h,List.append_nil]
  have a : ∃ y,(out ++ [0]).take (b + 1) = out.take b ++ [y]:=by
    refine ⟨(out ++ [0])[b]'(by simp;omega),?_⟩;rw [List.take_succ_eq_append_getElem (by simp;omega),List.take_append_of_le_length hb]
  obtain ⟨y,g⟩:=a
  have key : ∀ (xs ys : List Int) (y v : Int),(xs ++ (y::ys)).set xs.length v = xs ++ v::ys:=by
    intro xs ys y v
    induction xs with
    | nil=>rfl
    | cons x xs ih=>simp [ih]
  have f : (out.take b).length = b:=by simp;omega
  rw [g,List.append_assoc];have:=key (out.take b) (out.drop b) y v;rw [f] at this;exact this
def Z8 (l out : List Int) : Prop:=out.Pairwise (· < ·)∧∀ x,x∈out↔x∈l
theorem q15l (a : Int × List Int) (l : List Int) (i : Nat) (hi : i < l.length) (r : a.1 = i) (o : a.2.length≤1000000) (hs : a.2.Pairwise (· < ·)) :
    ∃ b : Int,loop (q50 a l) (a.2.length : Int) = some b∧∃ k : Nat,b = k∧k≤a.2.length∧(∀ j (h : j < a.2.length),k≤j→l[i] < a.2[j])∧(∀ j (h : j < a.2.length),j < k→a.2[j]≤l[i]):=by
  refine qv4 (fun b : Int=>∃ k : Nat,b = k∧k≤a.2.length∧(∀ j (h : j < a.2.length),k≤j→l[i] < a.2[j])) (fun b=>b.toNat) _ ?_ ⟨a.2.length,rfl,q6,fun j h f=>q6⟩;rintro b ⟨k,rfl,q,c⟩
  cases k with
  | zero=>
    refine .inr ⟨0,?_,0,rfl,q6,c,fun j h f=>q6⟩;simp [q50]
  | succ k=>
    have n : decide (((k + 1 : Nat) : Int) > 0) = true:=Qr q6;have p : idx a.2 (w64 (((k + 1 : Nat) : Int) - 1)) = some (a.2[k]'(q6)):=by rw [Qm q6];exact Zu q6 q6
    have m : idx l a.1 = some l[i]:=by rw [r];exact K3 hi
    have d : k < a.2.length:=by omega
    by_cases g : a.2[k] > l[i]
    · refine .inl ⟨(k : Int),?_,⟨k,rfl,q6,fun j h f=>?_⟩,qg⟩
      · simp only [q50,n,p,m,Q5,qn,g,decide_true];rw [Qm q6];congr 2;omega
      · by_cases e : j = k
        · subst e;exact g
        · exact c j h q6
    · refine .inr ⟨((k + 1 : Nat) : Int),?_,k + 1,rfl,q,c,fun j h f=>?_⟩
      · simp only [q50,n,p,m,Q5,qn,g,decide_false,Q4]
      · by_cases e : j = k
        · subst e;omega
        · have : a.2[j] < a.2[k]:=List.pairwise_iff_getElem.1 hs j k h d q6;omega
theorem qq6 {l out : List Int} {v : Int} {i : Nat} (hi : i < l.length) (c : l[i] = v) (h : Z8 (l.take i) out) (a : List Int) (hs : a.Pairwise (· < ·)) (b : ∀ x,x∈a↔x∈out∨x = v) : Z8 (l.take (i + 1)) a:=by
  refine ⟨hs,fun x=>?_⟩;rw [b,h.2,List.take_succ_eq_append_getElem hi];simp [c]
theorem qpp (l : List Int) (hl : l.length≤1000000) : ∃ t,Uv l = some t∧Z8 l t∧t.length≤l.length:=by
  have:=J6 (f:=q4z l) (σ:=List Int) (fun k c=>((k : Int),c)) l.length (fun k c=>Z8 (l.take k) c∧c.length≤k) (fun t=>Z8 l t∧t.length≤l.length) ?_ ?_ (k0:=0) (c0:=[]) q6 ⟨⟨.nil,qg⟩,qg⟩
  · obtain ⟨b,g,n⟩:=this;have g : loop (q4z l) (0,[]) = some b:=g;exact ⟨b,by unfold Uv;rw [g];rfl,n⟩
  · intro k c hk a;obtain ⟨a,am⟩:=a;have hb : decide ((k : Int) < (l.length : Int)) = true:=Qr q6;obtain ⟨b,v,j,rfl,hj,p,q⟩:=q15l ((k : Int),c) l k hk rfl (by simp;omega) a.1;simp only at hj p q v;refine .inl ?_;simp only [q4z,hb,Q5,v,qn,K3 hk];have hw : w64 ((k : Int) + 1) = ((k + 1 : Nat) : Int):=by rw [Qm q6];omega
    by_cases o : 0 < j∧∃ h : j - 1 < c.length,c[j-1] = l[k]
    · obtain ⟨s,d,he⟩:=o;have u : decide ((j : Int) > 0) = true:=Qr q6;have g : idx c (w64 ((j : Int) - 1)) = some (c[j-1]):=by rw [Qm q6];exact Zu q6 d
      refine ⟨c,by simp only [u,g,Q5,qn,he,beq_self_eq_true,hw],?_,q6⟩;refine qq6 hk rfl a c a.1 fun x=>⟨.inl,?_⟩
      rintro (h | rfl)
      · exact h
      · rw [← he];exact Kf d
    · have hc : (cond (decide ((j : Int) > 0)) ((idx c (w64 ((j : Int) - 1))).bind fun w=>some (w == l[k])) (some false)) = some false:=by
        by_cases s : 0 < j
        · have d : j - 1 < c.length:=by omega
          have u : decide ((j : Int) > 0) = true:=Qr q6;have g : idx c (w64 ((j : Int) - 1)) = some (c[j-1]):=by rw [Qm q6];exact Zu q6 d
          simp only [u,g,Q5,qn];have : c[j-1]≠l[k]:=fun e=>o ⟨s,d,e⟩;simp [this]
        · have u : decide ((j : Int) > 0) = false:=Qs q6;simp only [u,Q4]
      have ab : app 8 c [0] = some (c ++ [0]):=Y3 (by simp;omega)
      have ad : sub2 (c ++ [0]).length (w64 ((j : Int) + 1)) ((c ++ [0]).length : Int) = some (j + 1,(c ++ [0]).length - (j + 1)):=by
        rw [Qm q6];unfold sub2;rw [Q1 ⟨q6,by simp;omega,q6⟩];congr 2
      have ae : sub2 (c ++ [0]).length (j : Int) ((c ++ [0]).length : Int) = some (j,(c ++ [0]).length - j):=by
        unfold sub2;rw [Q1 ⟨q6,by simp;omega,q6⟩];congr 2
      simp only [hc,qn,Q4,ab,ad,ae]
      have r : j < (cpyw (c ++ [0]) (j + 1,(c ++ [0]).length - (j + 1)) (((c ++ [0]).drop j).take ((c ++ [0]).length - j))).length:=by
        rw [qkn (by simp;omega)];simp;omega
      rw [K3 r];simp only [qn,Int.toNat_natCast,quk c l[k] j hj,hw];refine ⟨_,rfl,?_,by simp;omega⟩;refine qq6 hk rfl a _ ?_ fun x=>?_
      · rw [List.pairwise_append];refine ⟨a.1.sublist (List.take_sublist _ _),?_,?_⟩
        · rw [List.pairwise_cons];refine ⟨fun y hy=>?_,a.1.sublist (List.drop_sublist _ _)⟩;obtain ⟨i,hi,rfl⟩:=List.mem_iff_getElem.1 hy;rw [List.getElem_drop];exact p _ _ q6
        · intro y hy z hz;obtain ⟨i,hi,rfl⟩:=List.mem_iff_getElem.1 hy;rw [List.getElem_take];simp at hi;have g:=q i q6 q6;have n : c[i]≠l[k]∧c[i] < l[k]∨c[i] = l[k]:=by omega
          have h3 : c[i] < l[k]:=by
            rcases n with n | n
            · exact n.2
            · exfalso;by_cases e : i = j - 1
              · subst e;exact o ⟨q6,q6,n⟩
              · have : c[i] < c[j-1]'(q6):=List.pairwise_iff_getElem.1 a.1 i (j-1) q6 q6 q6;have:=q (j-1) q6 q6;omega
          rcases List.mem_cons.1 hz with rfl | hz
          · exact h3
          · obtain ⟨m,hm,rfl⟩:=List.mem_iff_getElem.1 hz;rw [List.getElem_drop];simp at hm;have:=p (j + m) q6 q6;omega
      · constructor
        · intro h;rcases List.mem_append.1 h with h | h
          · exact .inl (List.mem_of_mem_take h)
          · rcases List.mem_cons.1 h with h | h
            · exact .inr h
            · exact .inl (List.mem_of_mem_drop h)
        · rintro (h | rfl)
          · rw [← List.take_append_drop j c] at h;rcases List.mem_append.1 h with h | h
            · exact List.mem_append_left _ h
            · exact List.mem_append_right _ (List.mem_cons_of_mem _ h)
          · simp
  · intro c a;have hb : decide ((l.length : Int) < (l.length : Int)) = false:=Qs q6;simp only [q4z,hb,Q4];refine ⟨_,rfl,by simpa using a.1,a.2⟩
def ends (s : List ql) : List Int:=s.flatMap fun t=>[t.Lo,t.Hi]
theorem q9z {s : List ql} {x : Int} : x∈ends s↔∃ t∈s,x = t.Lo∨x = t.Hi:=by simp [ends]
theorem qt6 {s : List ql} {k : Nat} (h : k < s.length) : ends (s.take (k + 1)) = ends (s.take k) ++ [s[k].Lo,s[k].Hi]:=by
  unfold ends;rw [List.take_succ_eq_append_getElem h,List.flatMap_append];simp
theorem qdo (s : List ql) : (ends s).length = 2 * s.length:=by
  induction s with
  | nil=>rfl
  | cons t r ih=>simp only [ends,List.flatMap_cons,List.length_append,List.length_cons,List.length_nil] at ih ⊢;omega
theorem qks (s : List ql) (c0 : List Int) (hs : s.length≤100000) (g : c0.length≤200000) : loop (qaa s) (0,c0) = some (c0 ++ ends s):=by
  have:=J6 (f:=qaa s) (σ:=List Int) (fun k c=>((k : Int),c)) s.length (fun k c=>c = c0 ++ ends (s.take k)) (fun t=>t = c0 ++ ends s) ?_ ?_ (k0:=0) (c0:=c0) q6 (by simp [ends])
  · obtain ⟨b,d,rfl⟩:=this;exact d
  · rintro k c a rfl;have hb : decide ((k : Int) < (s.length : Int)) = true:=Qr q6;refine .inl ⟨c0 ++ ends (s.take (k + 1)),?_,rfl⟩;simp only [qaa,hb,Q5,K3 a,qn];rw [Y3 (by simp [qdo];omega),Qm q6,qt6 a];simp
  · rintro c rfl;have hb : decide ((s.length : Int) < (s.length : Int)) = false:=Qs q6;simp [qaa]
theorem qt5 (p q : List ql) (hp : p.length≤100000) (a : q.length≤100000) : ∃ t,qhz p q = some t∧Z8 (ends p ++ ends q) t∧t.length≤2 * (p.length + q.length):=by
  have b : loop (qo1 q) (0,ends p) = some (ends p ++ ends q):=qks q (ends p) a (by rw [qdo];omega);obtain ⟨t,f,c,d⟩:=qpp (ends p ++ ends q) (by simp [qdo];omega);refine ⟨t,?_,c,by simp [qdo] at d;omega⟩;unfold qhz;rw [qks p [] hp qg];simp only [List.nil_append,qn,b,f]
end Go.Sh
namespace Go.Sh
open Go Go.Am
def addS (c : List ql) (a b : Int) : List ql:=match c.getLast? with
  | some t=>if t.Hi = a then c.dropLast ++ [{Lo:=t.Lo,Hi:=b}] else c ++ [{Lo:=a,Hi:=b}]
  | none=>[{Lo:=a,Hi:=b}]
theorem qjd (a b : Int) : addS [] a b = [{Lo:=a,Hi:=b}]:=rfl
theorem q94 {c : List ql} {t : ql} {b : Int} : addS (c ++ [t]) t.Hi b = c ++ [{Lo:=t.Lo,Hi:=b}]:=by simp [addS]
theorem q95 {c : List ql} {t : ql} {a b : Int} (h : t.Hi≠a) : addS (c ++ [t]) a b = (c ++ [t]) ++ [{Lo:=a,Hi:=b}]:=by simp [addS,h]
theorem qcl {α : Type} (c : List α) : c = []∨∃ d t,c = d ++ [t]:=by
  rcases List.eq_nil_or_concat c with h | ⟨d,t,h⟩
  · exact .inl h
  · exact .inr ⟨d,t,by simpa using h⟩
theorem qg4 {d : List ql} {t : ql} : Can (d ++ [t])↔Can d∧t.Lo < t.Hi∧∀ s∈d,s.Hi < t.Lo:=by
  unfold Can;constructor
  · rintro ⟨b,a⟩;rw [List.pairwise_append] at a;exact ⟨⟨fun s hs=>b s (by simp [hs]),a.1⟩,b t qg,fun s hs=>a.2.2 s hs t qg⟩
  · rintro ⟨⟨b,a⟩,g,f⟩;refine ⟨fun s hs=>?_,?_⟩
    · rcases List.mem_append.1 hs with hs | hs
      · exact b s hs
      · simp at hs;subst hs;exact g
    · rw [List.pairwise_append];exact ⟨a,qg,fun s hs u c=>by simp at c;subst c;exact f s hs⟩
theorem qgy {d : List ql} {t : ql} {x : Int} : has (d ++ [t]) x↔has d x∨(t.Lo≤x∧x < t.Hi):=by
  rw [qua,Zt];simp [q2p]
theorem qfq {c : List ql} {a b : Int} (j : Can c) (g : ∀ t∈c,t.Hi≤a) (f : a < b) :
    Can (addS c a b)∧(∀ x,has (addS c a b) x↔has c x∨(a≤x∧x < b))∧(∀ t∈addS c a b,t.Hi≤b)∧(addS c a b).length≤c.length + 1∧
    (∀ t∈addS c a b,(t.Lo = a∨∃ u∈c,t.Lo = u.Lo)∧(t.Hi = b∨∃ u∈c,t.Hi = u.Hi)):=by
  rcases qcl c with rfl | ⟨d,t,rfl⟩
  · rw [qjd];refine ⟨⟨by simpa using f,qg⟩,fun x=>?_,qg,qg,qg⟩;rw [Zt];simp [q2p]
  · have h:=qg4.1 j;have k : t.Hi≤a:=g t qg;by_cases e : t.Hi = a
    · subst e;rw [q94];refine ⟨qg4.2 ⟨h.1,by simp;omega,h.2.2⟩,fun x=>?_,fun s hs=>?_,qg,fun s hs=>?_⟩
      · rw [qgy,qgy];by_cases hd : has d x <;> simp only [hd,true_or,false_or] <;> omega
      · rcases List.mem_append.1 hs with hs | hs
        · have:=g s (by simp [hs]);omega
        · simp at hs;subst hs;simp
      · rcases List.mem_append.1 hs with hs | hs
        · exact ⟨.inr ⟨s,by simp [hs],rfl⟩,.inr ⟨s,by simp [hs],rfl⟩⟩
        · simp at hs;subst hs;exact ⟨.inr ⟨t,qg,rfl⟩,.inl rfl⟩
    · rw [q95 e];refine ⟨qg4.2 ⟨j,f,fun s hs=>?_⟩,fun x=>?_,fun s hs=>?_,qg,fun s hs=>?_⟩
      · rcases List.mem_append.1 hs with hs | hs
        · have:=h.2.2 s hs;simp only;omega
        · simp at hs;subst hs;simp only;omega
      · rw [qgy]
      · rcases List.mem_append.1 hs with hs | hs
        · have:=g s hs;omega
        · simp at hs;subst hs;simp
      · rcases List.mem_append.1 hs with hs | hs
        · exact ⟨.inr ⟨s,hs,rfl⟩,.inr ⟨s,hs,rfl⟩⟩
        · simp at hs;subst hs;exact ⟨.inl rfl,.inl rfl⟩
theorem qic {d : List ql} {t u : ql} : (d ++ [t]).set d.length u = d ++ [u]:=by
  induction d with
  | nil=>rfl
  | cons x d ih=>simp [ih]
structure qfm (cuts : List Int) (ins : List Bool) (k : Nat) (c : List ql) : Prop where
  can : Can c
  pts : ∀ x,has c x↔∃ i,∃ (h : i + 1 < cuts.length) (h' : i < ins.length),i < k∧ins[i] = true∧cuts[i]≤x∧x < cuts[i + 1]
  hi : ∀ t∈c,∃ (h : k < cuts.length),t.Hi≤cuts[k]
  len : c.length≤k
  ends : ∀ t∈c,t.Lo∈cuts∧t.Hi∈cuts
theorem qjt (a : List Int) (g : List Bool) (hs : a.Pairwise (· < ·)) (hl : a.length≤1000000) (hi : a.length≤g.length + 1) :
    ∃ c,q4w a g = some c∧qfm a g (a.length - 1) c:=by
  have:=J6 (f:=q4x a g) (σ:=List ql) (fun k c=>((k : Int),c)) (a.length - 1) (fun k c=>qfm a g k c) (fun c=>qfm a g (a.length - 1) c) ?_ ?_ (k0:=0) (c0:=[]) q6
    ⟨⟨qg,qg⟩,fun x=>⟨fun h=>absurd h (q2p x),fun ⟨i,_,_,h,_⟩=>q6⟩,qg,qg,qg⟩
  · obtain ⟨b,m,n⟩:=this;have m : loop (q4x a g) (0,[]) = some b:=m;exact ⟨b,by unfold q4w;rw [m];rfl,n⟩
  · intro k c hk j;have hw : w64 ((k : Int) + 1) = ((k + 1 : Nat) : Int):=by rw [Qm q6];omega
    have l : k + 1 < a.length:=by omega
    have q : k < a.length:=by omega
    have z : k < g.length:=by omega
    have hb : decide (((k + 1 : Nat) : Int) < (a.length : Int)) = true:=Qr q6;refine .inl ?_;simp only [q4x,hw,hb,Q5,K3 z,K3 l,K3 q,qn];have aj : a[k] < a[k+1]:=List.pairwise_iff_getElem.1 hs k (k+1) q l q6;have ab : ∀ t∈c,t.Hi≤a[k]:=fun t p=>(j.hi t p).2
    cases ac : g[k] with
    | false=>
      refine ⟨c,qg,j.can,fun x=>?_,fun t p=>⟨l,by have:=ab t p;omega⟩,by have:=j.len;omega,j.ends⟩;rw [j.pts];constructor
      · rintro ⟨i,m,n,h3,o⟩;exact ⟨i,m,n,q6,o⟩
      · rintro ⟨i,m,n,h3,o⟩;by_cases e : i = k
        · subst e;rw [ac] at o;simp at o
        · exact ⟨i,m,n,q6,o⟩
    | true=>
      have r : (cond (!true) (some c) ((cond (decide ((c.length : Int) > 0)) ((idx c (w64 ((c.length : Int) - 1))).bind fun af=>some (af.Hi == a[k])) (some false)).bind fun ae=>cond ae ((idx c (w64 ((c.length : Int) - 1))).bind fun aa=>some (c.set (w64 ((c.length : Int) - 1)).toNat ({Lo:=aa.Lo,Hi:=a[k+1]} : ql))) ((app 16 c [({Lo:=a[k],Hi:=a[k+1]} : ql)]).bind fun w=>some w))) = some (addS c a[k] a[k+1]):=by
        have s : ∀ y,app 16 c [y] = some (c ++ [y]):=fun y=>Y3 (by have:=j.len;simp;omega);rcases qcl c with rfl | ⟨d,t,rfl⟩
        · simp [s,addS]
        · have h0 : decide ((((d ++ [t]).length : Nat) : Int) > 0) = true:=Qr (by rw [List.length_append,List.length_singleton];omega);have ak:=j.len;have v : (((d ++ [t]).length : Nat) : Int) = d.length + 1:=by simp
          have al : d.length + 1≤k:=by simpa using ak
          have m : w64 (((d ++ [t]).length : Int) - 1) = (d.length : Int):=by rw [v,Qm q6];omega
          have n : idx (d ++ [t]) (d.length : Int) = some t:=by rw [K3 qg];simp
          simp only [Bool.not_true,Q4,h0,Q5,m,n,qn,Int.toNat_natCast,qic,s];by_cases e : t.Hi = a[k]
          · simp [e,← q94]
          · have e' : (t.Hi == a[k]) = false:=by simpa using e
            simp only [e',Q4,q95 e]
      rw [r];obtain ⟨a1,a2,a3,a4,a5⟩:=qfq j.can ab aj;refine ⟨_,rfl,a1,fun x=>?_,fun t p=>⟨l,a3 t p⟩,by have:=j.len;omega,fun t p=>?_⟩
      · rw [a2,j.pts];constructor
        · rintro (⟨i,m,n,h3,o⟩ | h)
          · exact ⟨i,m,n,q6,o⟩
          · exact ⟨k,l,z,q6,ac,h⟩
        · rintro ⟨i,m,n,h3,o⟩;by_cases e : i = k
          · subst e;exact .inr o.2
          · exact .inl ⟨i,m,n,q6,o⟩
      · obtain ⟨b1,b2⟩:=a5 t p;constructor
        · rcases b1 with b1 | ⟨u,hu,b1⟩
          · rw [b1];exact Kf q
          · rw [b1];exact (j.ends u hu).1
        · rcases b2 with b2 | ⟨u,hu,b2⟩
          · rw [b2];exact Kf l
          · rw [b2];exact (j.ends u hu).2
  · intro c j;refine ⟨c,?_,j⟩
    have hw : decide (w64 (((a.length - 1 : Nat) : Int) + 1) < (a.length : Int)) = false:=by
      rw [Qm q6];exact Qs q6
    simp only [q4x,hw,Q4]
def Y9 (kind : Int) (a b : Prop) : Prop:=(kind = 1∧a∧b)∨(kind = 2∧(a∨b))∨(kind≠1∧kind≠2∧a∧¬ b)
open Classical in
theorem qm3 (kind : Int) (a b : Prop) : q6w kind (decide a) (decide b) = some (decide (Y9 kind a b)):=by
  unfold q6w Y9;by_cases f : kind = 1
  · subst f;by_cases c : a <;> by_cases hb : b <;> simp [c,hb]
  · by_cases d : kind = 2
    · subst d;by_cases c : a <;> by_cases hb : b <;> simp [c,hb]
    · have g : (kind == 1) = false:=by simpa using f
      have h : (kind == 2) = false:=by simpa using d
      by_cases c : a <;> by_cases hb : b <;> simp [c,hb,f,d,g,h]
theorem q3q {c : List Int} (hs : c.Pairwise (· < ·)) {p : List ql} (m : ∀ x∈ends p,x∈c) {i : Nat} (h : i + 1 < c.length) {x : Int} (s : c[i]≤x) (r : x < c[i + 1]) : has p x↔has p c[i]:=by
  have mono : ∀ a b (k : a < c.length) (hb : b < c.length),c[a] < c[b]→a < b:=by
    intro a b k hb o;refine Nat.not_le.1 fun l=>?_;by_cases e : a = b
    · subst e;omega
    · have:=List.pairwise_iff_getElem.1 hs b a hb k q6;omega
  have d : ∀ a b (k : a < c.length) (hb : b < c.length),a≤b→c[a]≤c[b]:=by
    intro a b k hb l;by_cases e : a = b
    · subst e;omega
    · have:=List.pairwise_iff_getElem.1 hs a b k hb q6;omega
  constructor
  · rintro ⟨t,f,n,q⟩;refine ⟨t,f,?_,q6⟩;obtain ⟨j,g,e⟩:=List.mem_iff_getElem.1 (m t.Lo (q9z.2 ⟨t,f,.inl rfl⟩));have:=mono j (i + 1) g h q6;have:=d j i g q6 q6;omega
  · rintro ⟨t,f,n,q⟩;refine ⟨t,f,q6,?_⟩;obtain ⟨j,g,e⟩:=List.mem_iff_getElem.1 (m t.Hi (q9z.2 ⟨t,f,.inr rfl⟩));have:=mono i j q6 g q6;have:=d (i + 1) j h g q6;omega
theorem qdz {c : List Int} (hs : c.Pairwise (· < ·)) {p : List ql} (g : ∀ x∈ends p,x∈c) {x : Int} (h : has p x) : ∃ i,∃ (h : i + 1 < c.length),c[i]≤x∧x < c[i + 1]:=by
  obtain ⟨t,f,r,s⟩:=h;obtain ⟨a,l,u⟩:=List.mem_iff_getElem.1 (g t.Lo (q9z.2 ⟨t,f,.inl rfl⟩));obtain ⟨b,hb,v⟩:=List.mem_iff_getElem.1 (g t.Hi (q9z.2 ⟨t,f,.inr rfl⟩))
  have key : ∀ n j (k : j < c.length),j + n = b→c[j]≤x→∃ i,∃ (h : i + 1 < c.length),c[i]≤x∧x < c[i + 1]:=by
    intro n
    induction n with
    | zero=>intro j k e m;simp at e;subst e;omega
    | succ n ih=>
      intro j k e m;by_cases o : x < c[j+1]'(q6)
      · exact ⟨j,q6,m,o⟩
      · exact ih (j + 1) q6 q6 q6
  have q : a≤b:=by
    refine Nat.not_lt.1 fun d=>?_;have:=List.pairwise_iff_getElem.1 hs b a hb l d;omega
  exact key (b - a) a l q6 q6
structure qfo (kind : Int) (p q out : List ql) : Prop where
  can : Can out
  pts : ∀ x,has out x↔Y9 kind (has p x) (has q x)
  ends : ∀ t∈out,(t.Lo∈ends p∨t.Lo∈ends q)∧(t.Hi∈ends p∨t.Hi∈ends q)
  len : out.length≤2 * (p.length + q.length)
open Classical in
theorem quv (a : List Int) (p q : List ql) (kind : Int) (j : a.length≤1000000) (hp : p.length≤100000) (h : q.length≤100000) :
    loop (qac a p q kind) (0,[]) = some (a.map fun x=>decide (Y9 kind (has p x) (has q x))):=by
  have:=J6 (f:=qac a p q kind) (σ:=List Bool) (fun k c=>((k : Int),c)) a.length (fun k c=>c = (a.take k).map fun x=>decide (Y9 kind (has p x) (has q x))) (fun t=>t = a.map fun x=>decide (Y9 kind (has p x) (has q x))) ?_ ?_ (k0:=0) (c0:=[]) q6 qg
  · obtain ⟨b,g,rfl⟩:=this;exact g
  · rintro k c d rfl;have hb : decide ((k : Int) < (a.length : Int)) = true:=Qr q6;refine .inl ⟨_,?_,rfl⟩;simp only [qac,hb,Q5,K3 d,qn,qo2 p _ (by omega : p.length≤1000000),qo2 q _ (by omega : q.length≤1000000),qm3];rw [Y3 (by simp;omega),Qm q6,List.take_succ_eq_append_getElem d,List.map_append];rfl
  · rintro c rfl;have hb : decide ((a.length : Int) < (a.length : Int)) = false:=Qs q6;simp [qac]
open Classical in
theorem quw (kind : Int) (p q : List ql) (hp : p.length≤100000) (r : q.length≤100000) : ∃ out,qek kind p q = some out∧qfo kind p q out:=by
  obtain ⟨d,w,⟨hs,l⟩,s⟩:=qt5 p q hp r;obtain ⟨c,u,k⟩:=qjt d (d.map fun x=>decide (Y9 kind (has p x) (has q x))) hs q6 (by rw [List.length_map];omega);refine ⟨c,?_,k.can,fun x=>?_,fun t v=>?_,by have:=k.len;omega⟩
  · unfold qek;rw [w];simp only [qn,quv d p q kind q6 hp r,u]
  · have mp : ∀ x∈ends p,x∈d:=fun x n=>(l x).2 (List.mem_append_left _ n);have mq : ∀ x∈ends q,x∈d:=fun x n=>(l x).2 (List.mem_append_right _ n);rw [k.pts];constructor
    · rintro ⟨i,f,y,_,o,j,g⟩;simp only [List.getElem_map,decide_eq_true_eq] at o;rw [q3q hs mp f j g,q3q hs mq f j g];exact o
    · intro h
      have m : has p x∨has q x:=by
        rcases h with ⟨_,h,_⟩ | ⟨_,h⟩ | ⟨_,_,h,_⟩
        · exact .inl h
        · exact h
        · exact .inl h
      obtain ⟨i,f,j,g⟩ : ∃ i,∃ (h : i + 1 < d.length),d[i]≤x∧x < d[i + 1]:=m.elim (qdz hs mp) (qdz hs mq);refine ⟨i,f,by rw [List.length_map];omega,q6,?_,j,g⟩;simp only [List.getElem_map,decide_eq_true_eq];rw [← q3q hs mp f j g,← q3q hs mq f j g];exact h
  · obtain ⟨a,b⟩:=k.ends t v;exact ⟨List.mem_append.1 ((l _).1 a),List.mem_append.1 ((l _).1 b)⟩
end Go.Sh
namespace Go.Sh
open Go Go.Am
theorem q11l : qd2 = q4d:=rfl
theorem q10m : q27 = q2o:=by
  funext p0;simp only [q27,q2o,q11l]
  all_goals exact Qy
theorem qos : U3 = q18:=by
  funext p0;simp only [U3,q18,q10m]
  all_goals exact Qy
theorem q10w : qbm = Jy:=by
  funext p1 q1 a459;simp only [qbm,Jy]
  all_goals exact Qy
theorem q10v : qbl = q1d:=by
  funext p2 p1 q1 a278;simp only [qbl,q1d,q10w]
  all_goals exact Qy
theorem q10u : qbk = q1x:=by
  funext q1 p0 p1 p2;simp only [qbk,q1x,q10v]
  all_goals exact Qy
theorem q11k : qck = U1:=by
  funext p2 p3 q1 a197;simp only [qck,U1]
  all_goals exact Qy
theorem qou : q8q = Ur:=by
  funext q1 p0 p1 p2 p3;simp only [q8q,Ur,q11k]
  all_goals exact Qy
theorem q10s : qbf = q1b:=by
  funext q1 p2 p1 a123;simp only [qbf,q1b,qou]
  all_goals exact Qy
theorem q10t : qbg = q1c:=by
  funext p1 q1 a191;simp only [qbg,q1c,qou]
  all_goals exact Qy
theorem q10r : qbe = q1w:=by
  funext q1 p0 p1 p2;simp only [qbe,q1w,q10s,q10t]
  all_goals exact Qy
theorem q10y : q10 = q1y:=by
  funext p0;simp only [q10,q1y,qos]
  all_goals exact Qy
theorem q11m : q11 = q22:=by
  funext p0;simp only [q11,q22]
  all_goals exact Qy
theorem q10p : qb8 = Uj:=by
  funext p1 p2 r101 a153;simp only [qb8,Uj,q11m]
  all_goals exact Qy
theorem q10o : qb7 = q1a:=by
  funext q1 p0 p1 p2;simp only [qb7,q1a,q10y,q10p]
  all_goals exact Qy
theorem q10z : q5s = Ul:=by
  funext q1 p0 p1 p2 p3;simp only [q5s,Ul]
  all_goals exact Qy
theorem qot : q80 = Uk:=by
  funext q1 p0 p1 p2 p3 p4;simp only [q80,Uk,q10z]
  all_goals exact Qy
theorem q10x : q5p = Jz:=by
  funext q1 p0 p1 p2;simp only [q5p,Jz,qot]
  all_goals exact Qy
theorem q10q : qba = q1v:=by
  funext p0 p1 p2 p3;simp only [qba,q1v,qot,q10x]
  all_goals exact Qy
theorem q11j : qch = q21:=by
  funext a119;simp only [qch,q21]
  all_goals exact Qy
theorem q11i : qcg = q1i:=by
  funext q1 p0 p1 p2;simp only [qcg,q1i,q11j]
  all_goals exact Qy
theorem q112 : qbq = Um:=by
  funext p2 a438 q1 a681;simp only [qbq,Um]
  all_goals exact Qy
theorem q113 : qbr = Un:=by
  funext q1 a838;simp only [qbr,Un]
  all_goals exact Qy
theorem q114 : qbs = Uo:=by
  funext p2 q1 b684 a928;simp only [qbs,Uo]
  all_goals exact Qy
theorem q111 : q84 = Zm:=by
  funext p2 q1 p1 a438;have a : @q84.match_1.{1} = @Zm.match_1.{1} qv:=by funext motive m f g;cases m <;> rfl
  unfold q84 Zm;rw [a];simp only [q112,q113,q114]
theorem q110 : q83 = Ji:=by
  funext q1 p0 p1 p2;have a : @q83.match_1.{1} = @Ji.match_1.{1} qv:=by funext motive m f g;cases m <;> rfl
  unfold q83 Ji;rw [a];simp only [q111]
theorem q118 : qcc = Up:=by
  funext a318 p1 q1 a378;simp only [qcc,Up]
  all_goals exact Qy
theorem q119 : qcd = Uq:=by
  funext b381 a318 p1 q1 a463;simp only [qcd,Uq]
  all_goals exact Qy
theorem q117 : qcb = q1g:=by
  funext p1 q1 a318;simp only [qcb,q1g,q118,q119]
  all_goals exact Qy
theorem q116 : qca = q1f:=by
  funext q1 p0 p1 p2 p3;simp only [qca,q1f,q117]
  all_goals exact Qy
theorem q11a : qc1 = q1z:=by
  funext p2 p0 p1 v101 p3 v103 q1 a163;simp only [qc1,q1z]
  all_goals exact Qy
theorem q11b : qc2 = q20:=by
  funext b166 p0 p1 v101 p3 v103 q1 a249;simp only [qc2,q20]
  all_goals exact Qy
theorem q11d : qc4 = J3:=by
  funext a514 p1 q1 a572;simp only [qc4,J3]
  all_goals exact Qy
theorem q11e : qc5 = J4:=by
  funext b575 a514 p1 q1 a658;simp only [qc5,J4]
  all_goals exact Qy
theorem q11c : qc3 = q1h:=by
  funext p1 q1 a514;simp only [qc3,q1h,q11d,q11e]
  all_goals exact Qy
theorem q115 : qc0 = q1e:=by
  funext q1 p0 p1 p2 p3;simp only [qc0,q1e,q11a,q11b,q11c]
  all_goals exact Qy
theorem q11g : q8l = Zd:=by
  funext q1 rec a309;have a : @q8l.match_1.{1} = @Zd.match_1.{1} qv:=by funext motive m f g;cases m <;> rfl
  unfold q8l Zd;rw [a];simp only [q10u,q10r,q10o,q10q,q11i,q110,q116,q115]
theorem q11h : q8m = U0:=by
  funext rec q1 p0 p1 p2 p3;simp only [q8m,U0,q11g]
  all_goals exact Qy
theorem q11f : ∀ N q,q8k N q = Zc N q:=by
  intro N q
  induction N with
  | zero=>rfl
  | succ N ih=>
    funext a b c d;show q8m (q8k N q) q a b c d = U0 (Zc N q) q a b c d;rw [ih,q11h]
theorem q10n : q7p = q19:=by
  funext q1 p0;simp only [q7p,q19,qos,q11f]
  all_goals exact Qy
end Go.Sh
namespace Go.Sh
open Go Go.Am
instance : Inhabited qv:=⟨⟨0,0,0⟩⟩
theorem q15n (q : qv→qv→Option Int) (xs : List qv) : q7p q xs = q19 q xs:=by rw [q10n]
def evs (s : List ql) (l : Int) : List qv:=s.flatMap fun t=>[{at_:=t.Lo,list_:=l,by_:=1},{at_:=t.Hi,list_:=l,by_:=-1}]
theorem q9j (s : List ql) (l : Int) : (evs s l).length = 2 * s.length:=by
  induction s with
  | nil=>rfl
  | cons t s ih=>simp only [evs,List.flatMap_cons,List.length_append,List.length_cons,List.length_nil] at ih ⊢;omega
theorem qea {s : List ql} {l : Int} {e : qv} (h : e∈evs s l) : e.list_ = l∧(e.by_ = 1∨e.by_ = -1)∧∃ t∈s,e.at_ = t.Lo∨e.at_ = t.Hi:=by
  simp only [evs,List.mem_flatMap] at h;obtain ⟨t,a,h⟩:=h;simp only [List.mem_cons,List.not_mem_nil,or_false] at h;rcases h with rfl | rfl
  · exact ⟨rfl,.inl rfl,t,a,.inl rfl⟩
  · exact ⟨rfl,.inr rfl,t,a,.inr rfl⟩
theorem qkt (s : List ql) (l : Int) (y : List qv) (hs : s.length≤1000) (base : List qv) (hb : base.length≤10000) :
    loop (q61 s (l,y)) (0,base) = some (base ++ evs s l):=by
  have:=J6 (f:=q61 s (l,y)) (σ:=List qv) (fun k c=>((k : Int),c)) s.length (fun k c=>c = base ++ evs (s.take k) l) (fun t=>t = base ++ evs s l) ?_ ?_ (k0:=0) (c0:=base) q6 (by simp [evs])
  · obtain ⟨b,h,rfl⟩:=this;exact h
  · rintro k c d rfl;have a : decide ((k : Int) < (s.length : Int)) = true:=Qr q6;refine .inl ⟨base ++ evs (s.take (k + 1)) l,?_,rfl⟩;have g : (evs (s.take k) l).length≤2000:=by rw [q9j,List.length_take];omega
    simp only [q61,a,Q5,K3 d,qn];rw [Y3 (by rw [List.length_append];simp only [List.length_cons,List.length_nil];omega),qn,Qm q6,List.take_succ_eq_append_getElem d,List.append_assoc];have : evs (s.take k ++ [s[k]]) l = evs (s.take k) l ++ [{at_:=s[k].Lo,list_:=l,by_:=1},{at_:=s[k].Hi,list_:=l,by_:=-1}]:=by simp only [evs,List.flatMap_append,List.flatMap_cons,List.flatMap_nil,List.append_nil]
    rw [this];rfl
  · rintro c rfl;have a : decide ((s.length : Int) < (s.length : Int)) = false:=Qs q6;exact ⟨_,by simp only [q61,a,Q4];rfl,by rw [List.take_length]⟩
def ltE (a b : qv) : Bool:=decide (a.at_ < b.at_)
def inE (e : qv) : Prop:=-1000000≤e.at_∧e.at_≤1000000
theorem swoE : Sort.SWO ltE where
  irrefl:=by intro x;simp [ltE]
  trans:=by intro x y z;simp only [ltE,decide_eq_true_eq];omega
  ntrans:=by intro x y z;simp only [ltE,decide_eq_false_iff_not];omega
theorem cmpE : Y5 (fun a b=>qcx a b) ltE inE:=by
  rintro x y ⟨c,f⟩ ⟨d,g⟩;refine ⟨x.at_ - y.at_,?_,?_⟩
  · show some (w64 (x.at_ - y.at_)) = _;rw [Qm q6]
  · unfold ltE;exact decide_eq_decide.2 q6
theorem q15m (p q : List ql) (hp : p.length≤500) (v : q.length≤500) (u : ∀ t∈p,vld t) (k : ∀ t∈q,vld t) :
    ∃ ys,qcy [p,q] = some ([p,q],ys)∧ys.Perm (evs p 0 ++ evs q 1)∧ys.Pairwise (fun x y=>x.at_≤y.at_):=by
  have o : ∀ x∈evs p 0 ++ evs q 1,inE x:=by
    intro x n;rcases List.mem_append.1 n with h | h
    · obtain ⟨_,_,t,g,h⟩:=qea h;obtain ⟨a,b,c⟩:=u t g;unfold inE;rcases h with h | h <;> omega
    · obtain ⟨_,_,t,g,h⟩:=qea h;obtain ⟨a,b,c⟩:=k t g;unfold inE;rcases h with h | h <;> omega
  have w:=q9j p 0;have z:=q9j q 1;obtain ⟨ys,s,j,l⟩:=qim cmpE swoE (evs p 0 ++ evs q 1) (by rw [List.length_append];omega) o;refine ⟨ys,?_,j,l.imp (fun {x y} h=>by simp only [ltE,decide_eq_false_iff_not] at h;omega)⟩
  have d : loop (q2h [p,q]) (0,[]) = some (evs p 0 ++ evs q 1):=by
    have s0 : q2h [p,q] (0,[]) = some (.inl (1,evs p 0)):=by
      have t : decide ((0 : Int) < (([p,q] : List (List ql)).length : Int)) = true:=rfl;simp only [q2h,t,Q5];have : idx [p,q] 0 = some p:=rfl;rw [this];simp only [qn,qkt p 0 [] q6 [] qg,List.nil_append];rfl
    have m : q2h [p,q] (1,evs p 0) = some (.inl (2,evs p 0 ++ evs q 1)):=by
      have t : decide ((1 : Int) < (([p,q] : List (List ql)).length : Int)) = true:=rfl;simp only [q2h,t,Q5];have : idx [p,q] 1 = some q:=rfl;rw [this];simp only [qn,qkt q 1 (evs p 0) q6 (evs p 0) q6];rfl
    have r : q2h [p,q] (2,evs p 0 ++ evs q 1) = some (.inr (evs p 0 ++ evs q 1)):=by
      have t : decide ((2 : Int) < (([p,q] : List (List ql)).length : Int)) = false:=rfl;simp only [q2h,t,Q4]
    rw [Kn s0,Kn m,Km r]
  unfold qcy;rw [d];simp only [qn,q15n,s];have le : K5 ys.length (evs p 0 ++ evs q 1).length = some ():=by unfold K5;rw [Q1 j.length_eq]
  have f : K5 ys.length ys.length = some ():=by unfold K5;rw [Q1 rfl]
  simp only [le,qn,qf6,f]
def cnt (l : Int) (c : Int→Bool) : List qv→Int
  | []=>0
  | e::es=>(if e.list_ = l∧c e.at_ = true then e.by_ else 0) + cnt l c es
theorem q36 (l : Int) (c : Int→Bool) (a b : List qv) : cnt l c (a ++ b) = cnt l c a + cnt l c b:=by
  induction a with
  | nil=>simp [cnt]
  | cons e a ih=>simp only [List.cons_append,cnt,ih];omega
theorem qkb {l : Int} {c : Int→Bool} {a b : List qv} (h : a.Perm b) : cnt l c a = cnt l c b:=by
  induction h with
  | nil=>rfl
  | cons x _ ih=>simp only [cnt,ih]
  | swap x y l=>simp only [cnt];omega
  | trans _ _ ih1 ih2=>rw [ih1,ih2]
theorem qk8 {l : Int} {c b : Int→Bool} : ∀ {a : List qv},(∀ e∈a,c e.at_ = b e.at_)→cnt l c a = cnt l b a
  | [],_=>rfl
  | e::a,h=>by simp only [cnt,h e qg,qk8 (fun e d=>h e (List.mem_cons_of_mem _ d))]
theorem qka {l : Int} {c : Int→Bool} : ∀ {a : List qv},(∀ e∈a,c e.at_ = false)→cnt l c a = 0
  | [],_=>rfl
  | e::a,h=>by
    simp only [cnt,qka (fun e b=>h e (List.mem_cons_of_mem _ b)),h e qg]
    simp
theorem q9a {s : List ql} {l l' : Int} {c : Int→Bool} (h : l≠l') : cnt l c (evs s l') = 0:=by
  induction s with
  | nil=>rfl
  | cons t s ih=>
    have : evs (t::s) l' = [{at_:=t.Lo,list_:=l',by_:=1},{at_:=t.Hi,list_:=l',by_:=-1}] ++ evs s l':=rfl;rw [this,q36,ih];have a : ¬ l' = l:=fun e=>h e.symm;simp [cnt,a]
theorem qk9 {s : List ql} {l : Int} (v : ∀ t∈s,vld t) (x : Int) : 0≤cnt l (fun a=>decide (a≤x)) (evs s l)∧(0 < cnt l (fun a=>decide (a≤x)) (evs s l)↔has s x):=by
  induction s with
  | nil=>exact ⟨Int.le_refl 0,by simp [evs,cnt,has]⟩
  | cons t s ih=>
    obtain ⟨f,c⟩:=ih (fun t d=>v t (List.mem_cons_of_mem _ d));have b:=v t qg;have : evs (t::s) l = [{at_:=t.Lo,list_:=l,by_:=1},{at_:=t.Hi,list_:=l,by_:=-1}] ++ evs s l:=rfl;rw [this,q36,Zt,← c];obtain ⟨j,h,g⟩:=b;simp only [cnt,true_and,decide_eq_true_eq];split <;> split <;> omega
theorem qkc {s : List ql} {l : Int} : cnt l (fun _=>true) (evs s l) = 0:=by
  induction s with
  | nil=>rfl
  | cons t s ih=>
    have : evs (t::s) l = [{at_:=t.Lo,list_:=l,by_:=1},{at_:=t.Hi,list_:=l,by_:=-1}] ++ evs s l:=rfl;rw [this,q36,ih];simp [cnt]
theorem qge {l : Int} {c : Int→Bool} : ∀ {a : List qv},(∀ e∈a,e.by_ = 1∨e.by_ = -1)→-(a.length : Int)≤cnt l c a∧cnt l c a≤(a.length : Int)
  | [],_=>by simp [cnt]
  | e::a,h=>by
    obtain ⟨d,f⟩:=qge (l:=l) (c:=c) (fun e b=>h e (List.mem_cons_of_mem _ b))
    have:=h e qg
    simp only [cnt,List.length_cons]
    split <;> omega
end Go.Sh
namespace Go.Sh
open Go Go.Am
theorem qsf (at_ a : Int) (inn : Bool) (out : List ql) (h : out.length≤10000) :
    qcz at_ inn a out = some (inn,a,if inn = true∧a≠at_ then addS out a at_ else out):=by
  unfold qcz
  cases inn with
  | false=>rfl
  | true=>
    by_cases b : a = at_
    · simp [b]
    · have hb : (a == at_) = false:=by simpa using b
      simp only [Bool.not_true,Q4,qn,hb];rw [Q1 ⟨trivial,b⟩];rcases qcl out with rfl | ⟨d,t,rfl⟩
      · rfl
      · have l : (d ++ [t]).length = d.length + 1:=by simp
        have j : decide (((d ++ [t]).length : Int) > 0) = true:=Qr q6;have g : w64 (((d ++ [t]).length : Int) - 1) = (d.length : Int):=by rw [Qm q6];omega
        have k : idx (d ++ [t]) (d.length : Int) = some t:=by
          rw [K3 q6];simp
        simp only [j,Q5,g,k,qn];by_cases c : t.Hi = a
        · subst c;simp only [beq_self_eq_true,Q5,q94,Int.toNat_natCast,qic]
        · have f : (t.Hi == a) = false:=by simpa using c
          simp only [f,Q4,q95 c];rw [Y3 (by simp;omega)];rfl
open Classical in
structure qql (f : Bool→Bool→Bool) (p q : List ql) (ys : List qv) (k : Nat) (c : List Int × Int × Bool × List ql) : Prop where
  opn : c.1 = [cnt 0 (fun _=>true) (ys.take k),cnt 1 (fun _=>true) (ys.take k)]
  inn : c.2.2.1 = f (decide (0 < cnt 0 (fun _=>true) (ys.take k))) (decide (0 < cnt 1 (fun _=>true) (ys.take k)))
  lst : ∀ (h : k - 1 < ys.length),0 < k→c.2.1 = ys[k - 1].at_
  can : Can c.2.2.2
  his : ∀ t∈c.2.2.2,t.Hi≤c.2.1
  zro : k = 0→c.2.2.2 = []
  pts : ∀ x,has c.2.2.2 x↔0 < k∧x < c.2.1∧f (decide (has p x)) (decide (has q x)) = true
  len : c.2.2.2.length≤k
theorem qjc (c : List ql) (a b : Int) : (addS c a b).length≤c.length + 1:=by
  rcases qcl c with rfl | ⟨d,t,rfl⟩
  · simp [qjd]
  · by_cases h : t.Hi = a
    · subst h;rw [q94];simp
    · rw [q95 h];simp
theorem qk7 {p q : List ql} {ys : List qv} (hp : ∀ t∈p,vld t) (f : ∀ t∈q,vld t) (b : ys.Perm (evs p 0 ++ evs q 1)) (_ : ys.Pairwise (fun x y=>x.at_≤y.at_)) (k : Nat) (x : Int)
    (g : ∀ i (h : i < ys.length),i < k→ys[i].at_≤x) (d : ∀ i (h : i < ys.length),k≤i→x < ys[i].at_) :
    (0 < cnt 0 (fun _=>true) (ys.take k)↔has p x)∧(0 < cnt 1 (fun _=>true) (ys.take k)↔has q x):=by
  have key : ∀ l,cnt l (fun _=>true) (ys.take k) = cnt l (fun a=>decide (a≤x)) (evs p 0) + cnt l (fun a=>decide (a≤x)) (evs q 1):=by
    intro l;rw [← q36,← qkb b]
    conv=>rhs;rw [← List.take_append_drop k ys]
    rw [q36]
    have n : cnt l (fun a=>decide (a≤x)) (ys.drop k) = 0:=by
      refine qka fun e c=>?_;obtain ⟨i,hi,rfl⟩:=List.mem_iff_getElem.1 c;rw [List.getElem_drop];rw [List.length_drop] at hi;have:=d (k + i) q6 q6;exact Qs q6
    have o : cnt l (fun a=>decide (a≤x)) (ys.take k) = cnt l (fun _=>true) (ys.take k):=by
      refine qk8 fun e c=>?_;obtain ⟨i,hi,rfl⟩:=List.mem_iff_getElem.1 c;rw [List.getElem_take];rw [List.length_take] at hi;exact Qr (g i q6 q6)
    rw [n,o];omega
  rw [key 0,key 1,q9a (l:=0) (l':=1) qy,q9a (l:=1) (l':=0) qy];have m:=qk9 (l:=0) hp x;have j:=qk9 (l:=1) f x;rw [Int.add_zero,Int.zero_add];exact ⟨m.2,j.2⟩
open Classical in
theorem qmf (f : Bool→Bool→Bool) (hf : f false false = false) (p2 : Bool→Bool→Option Bool) (hp2 : ∀ a b,p2 a b = some (f a b)) (p q : List ql)
    (hp : p.length≤500) (hq : q.length≤500) (vp : ∀ t∈p,vld t) (vq : ∀ t∈q,vld t) :
    ∃ out,q3y p q p2 = some out∧Can out∧∀ x,has out x↔f (decide (has p x)) (decide (has q x)) = true:=by
  obtain ⟨ys,e1,g,hs⟩:=q15m p q hp hq vp vq;have bf : ys.length≤2000:=by rw [g.length_eq,List.length_append,q9j,q9j];omega
  have w : ∀ i j (hi : i < ys.length) (hj : j < ys.length),i≤j→ys[i].at_≤ys[j].at_:=by
    intro i j hi hj bo;rcases Nat.lt_or_ge i j with h | h
    · exact List.pairwise_iff_getElem.1 hs i j hi hj h
    · obtain rfl : i = j:=by omega
      exact Int.le_refl _
  have y : ∀ e∈ys,(e.list_ = 0∨e.list_ = 1)∧(e.by_ = 1∨e.by_ = -1):=by
    intro e he;rcases List.mem_append.1 (g.mem_iff.1 he) with h | h
    · obtain ⟨a,b,_⟩:=qea h;exact ⟨.inl a,b⟩
    · obtain ⟨a,b,_⟩:=qea h;exact ⟨.inr a,b⟩
  have:=J6 (f:=q62 ([p,q],ys) p2) (σ:=List Int × Int × Bool × List ql) (fun k c=>((k : Int),c)) ys.length (qql f p q ys) (fun out=>Can out∧∀ x,has out x↔f (decide (has p x)) (decide (has q x)) = true) ?_ ?_ (k0:=0) (c0:=([0,0],0,false,[])) q6 ?_
  · obtain ⟨out,r,m⟩:=this;refine ⟨out,?_,m⟩;unfold q3y;have r : loop (q62 ([p,q],ys) p2) (0,[0,0],0,false,[]) = some out:=r;rw [e1];simp only [qn,r];rfl
  · rintro k ⟨opn,d,inn,out⟩ hk ⟨s1,s2,s3,s4,s5,s6,s7,s8⟩;simp only at s1 s2 s3 s4 s5 s6 s7 s8;have ae : decide ((k : Int) < (ys.length : Int)) = true:=Qr q6;have be:=qsf ys[k].at_ d inn out q6;have hm:=y ys[k] (Kf hk);have bc : ys.take (k + 1) = ys.take k ++ [ys[k]]:=List.take_succ_eq_append_getElem hk;have ak : ∀ e∈ys.take k,e.by_ = 1∨e.by_ = -1:=fun e he=>(y e (List.mem_of_mem_take he)).2;have b0:=qge (l:=0) (c:=fun _=>true) ak;have b1:=qge (l:=1) (c:=fun _=>true) ak;have au : (ys.take k).length = k:=by rw [List.length_take];omega
    rw [au] at b0 b1
    have ad : ∃ v,idxA 2 opn ys[k].list_ = some v∧opn.set ys[k].list_.toNat (w64 (v + ys[k].by_)) = [cnt 0 (fun _=>true) (ys.take (k + 1)),cnt 1 (fun _=>true) (ys.take (k + 1))]:=by
      subst s1;rw [bc,q36,q36];rcases hm.1 with h | h
      · refine ⟨cnt 0 (fun _=>true) (ys.take k),by rw [h];rfl,?_⟩;rw [h,Qm q6];simp [cnt,h]
      · refine ⟨cnt 1 (fun _=>true) (ys.take k),by rw [h];rfl,?_⟩;rw [h,Qm q6];simp [cnt,h]
    obtain ⟨v,o1,o2⟩:=ad;refine .inl ⟨([cnt 0 (fun _=>true) (ys.take (k + 1)),cnt 1 (fun _=>true) (ys.take (k + 1))],ys[k].at_,f (decide (0 < cnt 0 (fun _=>true) (ys.take (k + 1)))) (decide (0 < cnt 1 (fun _=>true) (ys.take (k + 1)))),if inn = true∧d≠ys[k].at_ then addS out d ys[k].at_ else out),?_,?_⟩
    · have x0 : ∀ a b : Int,idxA 2 [a,b] 0 = some a:=fun a b=>rfl;have x1 : ∀ a b : Int,idxA 2 [a,b] 1 = some b:=fun a b=>rfl;simp only [q62,ae,Q5,K3 hk,qn,be,o1,o2,x0,x1,hp2];rw [Qm q6];rfl
    · have ac : ∀ x,(0 < k→d≤x)→∀ i (h : i < ys.length),i < k→ys[i].at_≤x:=by
        intro x o i hi ao;have:=s3 q6 q6;have:=w i (k - 1) hi q6 q6;have:=o q6;omega
      have ab : ∀ x,x < ys[k].at_→∀ i (h : i < ys.length),k≤i→x < ys[i].at_:=by
        intro x o i hi ao;have:=w k i hk hi ao;omega
      have hF : ∀ x,(0 < k→d≤x)→x < ys[k].at_→f (decide (has p x)) (decide (has q x)) = inn:=by
        intro x o ar;obtain ⟨c1,c2⟩:=qk7 vp vq g hs k x (ac x o) (ab x ar);rw [s2,decide_eq_decide.2 c1,decide_eq_decide.2 c2]
      have n : 0 < k→d≤ys[k].at_:=by
        intro u;rw [s3 q6 u];exact w (k - 1) k q6 hk q6
      have z : k = 0→inn = false:=by
        intro u;subst u;rw [s2];exact hf
      by_cases s : inn = true∧d≠ys[k].at_
      · have aj : 0 < k:=by
          rcases Nat.eq_zero_or_pos k with h | h
          · rw [z h] at s;cases s.1
          · exact h
        have hl:=n aj;have bb : d < ys[k].at_:=by have:=s.2;omega
        obtain ⟨d1,d2,d3,d4⟩:=qfq s4 s5 bb;constructor
        · rfl
        · rfl
        · intro h _;rfl
        · simp only [Q1 s];exact d1
        · simp only [Q1 s];exact d3
        · omega
        · intro x;simp only [Q1 s];rw [d2,s7];constructor
          · rintro (⟨u,r,m⟩ | ⟨r,m⟩)
            · exact ⟨q6,q6,m⟩
            · exact ⟨q6,m,by rw [hF x (fun _=>r) m];exact s.1⟩
          · rintro ⟨u,r,m⟩;by_cases o : x < d
            · exact .inl ⟨aj,o,m⟩
            · exact .inr ⟨q6,r⟩
        · simp only [Q1 s];have:=qjc out d ys[k].at_;omega
      · constructor
        · rfl
        · rfl
        · intro h _;rfl
        · simp only [Q2 s];exact s4
        · simp only [Q2 s];intro t ht;rcases Nat.eq_zero_or_pos k with h | h
          · rw [s6 h] at ht;cases ht
          · have:=s5 t ht;have:=n h;omega
        · omega
        · intro x;simp only [Q2 s];rw [s7];constructor
          · rintro ⟨u,r,m⟩;exact ⟨q6,by have:=n u;omega,m⟩
          · rintro ⟨u,r,m⟩;by_cases o : 0 < k∧x < d
            · exact ⟨o.1,o.2,m⟩
            · have al : 0 < k→d≤x:=fun h=>by
                refine Int.not_lt.1 fun h'=>o ⟨h,h'⟩
              have:=hF x al r;rw [this] at m;refine absurd ⟨m,?_⟩ s;intro e;rcases Nat.eq_zero_or_pos k with h | h
              · rw [z h] at m;cases m
              · have:=al h;omega
        · simp only [Q2 s];omega
  · rintro ⟨opn,d,inn,out⟩ ⟨s1,s2,s3,s4,s5,s6,s7,s8⟩;simp only at s1 s2 s3 s4 s5 s6 s7 s8;have ae : decide ((ys.length : Int) < (ys.length : Int)) = false:=Qs q6;refine ⟨out,by simp only [q62,ae,Q4],s4,fun x=>?_⟩;rw [s7];constructor
    · rintro ⟨_,_,h⟩;exact h
    · intro h;by_cases o : 0 < ys.length∧x < d
      · exact ⟨o.1,o.2,h⟩
      · obtain ⟨c1, c2⟩ := qk7 vp vq g hs ys.length x (fun i hi _ => by
            have:=s3 q6 q6;have:=w i (ys.length - 1) hi q6 q6;have : d≤x:=Int.not_lt.1 fun h'=>o ⟨q6,h'⟩
            omega) (fun i hi bk=>q6)
        have ay : ∀ l,cnt l (fun _=>true) (ys.take ys.length) = 0:=by
          intro l;rw [List.take_length,qkb g,q36];by_cases u : l = 0
          · subst u;rw [qkc,q9a qy];rfl
          · rw [q9a u];by_cases r : l = 1
            · subst r;rw [qkc];rfl
            · rw [q9a r];rfl
        rw [ay] at c1 c2;have n1 : ¬ has p x:=fun h=>absurd (c1.2 h) qy;have n2 : ¬ has q x:=fun h=>absurd (c2.2 h) qy;rw [Qs n1,Qs n2,hf] at h;cases h
  · constructor
    · simp [cnt]
    · simp [cnt,hf]
    · intro h u;omega
    · exact ⟨fun t ht=>(by cases ht),.nil⟩
    · intro t ht;cases ht
    · intro _;rfl
    · intro x;simp [has]
    · simp
end Go.Sh
namespace Go.Sh
open Go Go.Am
instance : Inhabited qu:=⟨⟨0,0,0⟩⟩
theorem qy7 (q : qu→qu→Option Int) (xs : List qu) : q7o q xs = q19 q xs:=by rw [qvy]
def vlo (t : ql) : Prop:=t.Lo < t.Hi∧-3000000≤t.Lo∧t.Hi≤3000000
def evo (s : List ql) (l : Int) : List qu:=s.flatMap fun t=>[{at_:=t.Lo,kind_:=l,by_:=1},{at_:=t.Hi,kind_:=l,by_:=-1}]
theorem qdq (s : List ql) (l : Int) : (evo s l).length = 2 * s.length:=by
  induction s with
  | nil=>rfl
  | cons t s ih=>simp only [evo,List.flatMap_cons,List.length_append,List.length_cons,List.length_nil] at ih ⊢;omega
theorem qe9 {s : List ql} {l : Int} {e : qu} (h : e∈evo s l) : e.kind_ = l∧(e.by_ = 1∨e.by_ = -1)∧∃ t∈s,e.at_ = t.Lo∨e.at_ = t.Hi:=by
  simp only [evo,List.mem_flatMap] at h;obtain ⟨t,a,h⟩:=h;simp only [List.mem_cons,List.not_mem_nil,or_false] at h;rcases h with rfl | rfl
  · exact ⟨rfl,.inl rfl,t,a,.inl rfl⟩
  · exact ⟨rfl,.inr rfl,t,a,.inr rfl⟩
def ltO (a b : qu) : Bool:=decide (a.at_ < b.at_)
def inO (e : qu) : Prop:=-3000000≤e.at_∧e.at_≤3000000
theorem swoO : Sort.SWO ltO where
  irrefl:=by intro x;simp [ltO]
  trans:=by intro x y z;simp only [ltO,decide_eq_true_eq];omega
  ntrans:=by intro x y z;simp only [ltO,decide_eq_false_iff_not];omega
theorem cmpO : Y5 (fun a b=>qa6 a b) ltO inO:=by
  rintro x y ⟨c,f⟩ ⟨d,g⟩;refine ⟨x.at_ - y.at_,?_,?_⟩
  · show some (w64 (x.at_ - y.at_)) = _;rw [Qm q6]
  · unfold ltO;exact decide_eq_decide.2 q6
def cno (l : Int) (c : Int→Bool) : List qu→Int
  | []=>0
  | e::es=>(if e.kind_ = l∧c e.at_ = true then e.by_ else 0) + cno l c es
theorem q1s (l : Int) (c : Int→Bool) (a b : List qu) : cno l c (a ++ b) = cno l c a + cno l c b:=by
  induction a with
  | nil=>simp [cno]
  | cons e a ih=>simp only [List.cons_append,cno,ih];omega
theorem qgd {l : Int} {c : Int→Bool} {a b : List qu} (h : a.Perm b) : cno l c a = cno l c b:=by
  induction h with
  | nil=>rfl
  | cons x _ ih=>simp only [cno,ih]
  | swap x y l=>simp only [cno];omega
  | trans _ _ ih1 ih2=>rw [ih1,ih2]
theorem qga {l : Int} {c b : Int→Bool} : ∀ {a : List qu},(∀ e∈a,c e.at_ = b e.at_)→cno l c a = cno l b a
  | [],_=>rfl
  | e::a,h=>by simp only [cno,h e qg,qga (fun e d=>h e (List.mem_cons_of_mem _ d))]
theorem qgc {l : Int} {c : Int→Bool} : ∀ {a : List qu},(∀ e∈a,c e.at_ = false)→cno l c a = 0
  | [],_=>rfl
  | e::a,h=>by
    simp only [cno,qgc (fun e b=>h e (List.mem_cons_of_mem _ b)),h e qg]
    simp
theorem q6c {s : List ql} {l l' : Int} {c : Int→Bool} (h : l≠l') : cno l c (evo s l') = 0:=by
  induction s with
  | nil=>rfl
  | cons t s ih=>
    have : evo (t::s) l' = [{at_:=t.Lo,kind_:=l',by_:=1},{at_:=t.Hi,kind_:=l',by_:=-1}] ++ evo s l':=rfl;rw [this,q1s,ih];have a : ¬ l' = l:=fun e=>h e.symm;simp [cno,a]
theorem qgb {s : List ql} {l : Int} (v : ∀ t∈s,vlo t) (x : Int) : 0≤cno l (fun a=>decide (a≤x)) (evo s l)∧(0 < cno l (fun a=>decide (a≤x)) (evo s l)↔has s x):=by
  induction s with
  | nil=>exact ⟨Int.le_refl 0,by simp [evo,cno,has]⟩
  | cons t s ih=>
    obtain ⟨f,c⟩:=ih (fun t d=>v t (List.mem_cons_of_mem _ d));have b:=v t qg;have : evo (t::s) l = [{at_:=t.Lo,kind_:=l,by_:=1},{at_:=t.Hi,kind_:=l,by_:=-1}] ++ evo s l:=rfl;rw [this,q1s,Zt,← c];obtain ⟨j,h,g⟩:=b;simp only [cno,true_and,decide_eq_true_eq];split <;> split <;> omega
theorem qk5 {s : List ql} {l : Int} : cno l (fun _=>true) (evo s l) = 0:=by
  induction s with
  | nil=>rfl
  | cons t s ih=>
    have : evo (t::s) l = [{at_:=t.Lo,kind_:=l,by_:=1},{at_:=t.Hi,kind_:=l,by_:=-1}] ++ evo s l:=rfl;rw [this,q1s,ih];simp [cno]
theorem qg9 {l : Int} {c : Int→Bool} : ∀ {a : List qu},(∀ e∈a,e.by_ = 1∨e.by_ = -1)→-(a.length : Int)≤cno l c a∧cno l c a≤(a.length : Int)
  | [],_=>by simp [cno]
  | e::a,h=>by
    obtain ⟨d,f⟩:=qg9 (l:=l) (c:=c) (fun e b=>h e (List.mem_cons_of_mem _ b))
    have:=h e qg
    simp only [cno,List.length_cons]
    split <;> omega
theorem qk4 {p q : List ql} {ys : List qu} (hp : ∀ t∈p,vlo t) (f : ∀ t∈q,vlo t) (b : ys.Perm (evo p 0 ++ evo q 1)) (_ : ys.Pairwise (fun x y=>x.at_≤y.at_)) (k : Nat) (x : Int)
    (g : ∀ i (h : i < ys.length),i < k→ys[i].at_≤x) (d : ∀ i (h : i < ys.length),k≤i→x < ys[i].at_) :
    (0 < cno 0 (fun _=>true) (ys.take k)↔has p x)∧(0 < cno 1 (fun _=>true) (ys.take k)↔has q x):=by
  have key : ∀ l,cno l (fun _=>true) (ys.take k) = cno l (fun a=>decide (a≤x)) (evo p 0) + cno l (fun a=>decide (a≤x)) (evo q 1):=by
    intro l;rw [← q1s,← qgd b]
    conv=>rhs;rw [← List.take_append_drop k ys]
    rw [q1s]
    have n : cno l (fun a=>decide (a≤x)) (ys.drop k) = 0:=by
      refine qgc fun e c=>?_;obtain ⟨i,hi,rfl⟩:=List.mem_iff_getElem.1 c;rw [List.getElem_drop];rw [List.length_drop] at hi;have:=d (k + i) q6 q6;exact Qs q6
    have o : cno l (fun a=>decide (a≤x)) (ys.take k) = cno l (fun _=>true) (ys.take k):=by
      refine qga fun e c=>?_;obtain ⟨i,hi,rfl⟩:=List.mem_iff_getElem.1 c;rw [List.getElem_take];rw [List.length_take] at hi;exact Qr (g i q6 q6)
    rw [n,o];omega
  rw [key 0,key 1,q6c (l:=0) (l':=1) qy,q6c (l:=1) (l':=0) qy];have m:=qgb (l:=0) hp x;have j:=qgb (l:=1) f x;rw [Int.add_zero,Int.zero_add];exact ⟨m.2,j.2⟩
theorem qvw (at_ a : Int) (inn : Bool) (out : List ql) (h : out.length≤10000) :
    ((cond inn (some (decide (at_ > a))) (some false)).bind fun j=>(cond j ((cond (decide ((out.length : Int) > 0)) ((idx out (w64 ((out.length : Int) - 1))).bind fun b=>some (b.Hi == a)) (some false)).bind fun c=>cond c ((idx out (w64 ((out.length : Int) - 1))).bind fun g=>some (out.set (w64 ((out.length : Int) - 1)).toNat ({Lo:=g.Lo,Hi:=at_} : ql))) ((app 16 out [({Lo:=a,Hi:=at_} : ql)]).bind fun f=>some f)) (some out))) =
      some (if inn = true∧a < at_ then addS out a at_ else out):=by
  cases inn with
  | false=>rfl
  | true=>
    by_cases k : a < at_
    · rw [Q1 ⟨rfl,k⟩];rw [Q5,qn,Qr (show at_ > a from k),Q5];rcases qcl out with rfl | ⟨d,t,rfl⟩
      · rfl
      · have q : (d ++ [t]).length = d.length + 1:=by simp
        have o : decide (((d ++ [t]).length : Int) > 0) = true:=Qr q6;have n : w64 (((d ++ [t]).length : Int) - 1) = (d.length : Int):=by rw [Qm q6];omega
        have p : idx (d ++ [t]) (d.length : Int) = some t:=by
          rw [K3 q6];simp
        simp only [o,Q5,n,p,qn];by_cases l : t.Hi = a
        · subst l;simp only [beq_self_eq_true,Q5,q94,Int.toNat_natCast,qic]
        · have m : (t.Hi == a) = false:=by simpa using l
          simp only [m,Q4,q95 l];rw [Y3 (by simp;omega)];rfl
    · rw [Q2 (fun h=>k h.2),Q5,qn,Qs (show ¬ at_ > a from k),Q4]
structure qqm (p q : List ql) (ys : List qu) (k : Nat) (c : Int × Bool × List Int × List ql) : Prop where
  opn : c.2.2.1 = [cno 0 (fun _=>true) (ys.take k),cno 1 (fun _=>true) (ys.take k)]
  inn : c.2.1 = (decide (0 < cno 0 (fun _=>true) (ys.take k)) && decide (cno 1 (fun _=>true) (ys.take k) = 0))
  lst : ∀ (h : k - 1 < ys.length),0 < k→c.1 = ys[k - 1].at_
  can : Can c.2.2.2
  his : ∀ t∈c.2.2.2,t.Hi≤c.1
  zro : k = 0→c.2.2.2 = []
  pts : ∀ x,has c.2.2.2 x↔0 < k∧x < c.1∧has p x∧¬ has q x
  len : c.2.2.2.length≤k
theorem qsg {p q : List ql} {ys : List qu} (hp : ∀ t∈p,vlo t) (f : ∀ t∈q,vlo t) (b : ys.Perm (evo p 0 ++ evo q 1)) (k : Nat) (x : Int)
    (m : ∀ i (h : i < ys.length),i < k→ys[i].at_≤x) (d : ∀ i (h : i < ys.length),k≤i→x < ys[i].at_) : 0≤cno 1 (fun _=>true) (ys.take k):=by
  have key : ∀ l,cno l (fun _=>true) (ys.take k) = cno l (fun a=>decide (a≤x)) (evo p 0) + cno l (fun a=>decide (a≤x)) (evo q 1):=by
    intro l;rw [← q1s,← qgd b]
    conv=>rhs;rw [← List.take_append_drop k ys]
    rw [q1s]
    have g : cno l (fun a=>decide (a≤x)) (ys.drop k) = 0:=by
      refine qgc fun e c=>?_;obtain ⟨i,hi,rfl⟩:=List.mem_iff_getElem.1 c;rw [List.getElem_drop];rw [List.length_drop] at hi;have:=d (k + i) q6 q6;exact Qs q6
    have j : cno l (fun a=>decide (a≤x)) (ys.take k) = cno l (fun _=>true) (ys.take k):=by
      refine qga fun e c=>?_;obtain ⟨i,hi,rfl⟩:=List.mem_iff_getElem.1 c;rw [List.getElem_take];rw [List.length_take] at hi;exact Qr (m i q6 q6)
    rw [g,j];omega
  rw [key 1,q6c (l:=1) (l':=0) qy];have n:=qgb (l:=1) f x;omega
theorem qy8 {p q : List ql} (hp : p.length≤500) (hq : q.length≤500) (vp : ∀ t∈p,vlo t) (vq : ∀ t∈q,vlo t) :
    ∃ ys out,q6t (evo p 0 ++ evo q 1) = some (ys,out)∧Can out∧(∀ x,has out x↔has p x∧¬ has q x)∧out.length≤2 * (p.length + q.length):=by
  have l1:=qdq p 0;have l2:=qdq q 1
  have hP : ∀ x∈evo p 0 ++ evo q 1,inO x:=by
    intro x m;rcases List.mem_append.1 m with h | h
    · obtain ⟨_,_,t,u,h⟩:=qe9 h;obtain ⟨a,b,c⟩:=vp t u;unfold inO;rcases h with h | h <;> omega
    · obtain ⟨_,_,t,u,h⟩:=qe9 h;obtain ⟨a,b,c⟩:=vq t u;unfold inO;rcases h with h | h <;> omega
  obtain ⟨ys,e1,g,h3⟩:=qim cmpO swoO (evo p 0 ++ evo q 1) (by rw [List.length_append];omega) hP;have hs : ys.Pairwise (fun x y=>x.at_≤y.at_):=h3.imp (fun {x y} h=>by simp only [ltO,decide_eq_false_iff_not] at h;omega);have aa : ys.length = (evo p 0 ++ evo q 1).length:=g.length_eq;have bg : ys.length = 2 * p.length + 2 * q.length:=by rw [aa,List.length_append];omega
  have ac : ∀ i j (hi : i < ys.length) (hj : j < ys.length),i≤j→ys[i].at_≤ys[j].at_:=by
    intro i j hi hj br;rcases Nat.lt_or_ge i j with h | h
    · exact List.pairwise_iff_getElem.1 hs i j hi hj h
    · obtain rfl : i = j:=by omega
      exact Int.le_refl _
  have ad : ∀ e∈ys,(e.kind_ = 0∨e.kind_ = 1)∧(e.by_ = 1∨e.by_ = -1):=by
    intro e he;rcases List.mem_append.1 (g.mem_iff.1 he) with h | h
    · obtain ⟨a,b,_⟩:=qe9 h;exact ⟨.inl a,b⟩
    · obtain ⟨a,b,_⟩:=qe9 h;exact ⟨.inr a,b⟩
  have:=J6 (f:=q4r (evo p 0 ++ evo q 1) ys) (σ:=Int × Bool × List Int × List ql) (fun k c=>(c.1,c.2.1,(k : Int),c.2.2.1,c.2.2.2)) ys.length (qqm p q ys) (fun out=>Can out∧(∀ x,has out x↔has p x∧¬ has q x)∧out.length≤2 * (p.length + q.length)) ?_ ?_ (k0:=0) (c0:=(0,false,[0,0],[])) q6 ?_
  · obtain ⟨out,o,n⟩:=this;refine ⟨ys,out,?_,n⟩;unfold q6t;have o : loop (q4r (evo p 0 ++ evo q 1) ys) (0,false,0,[0,0],[]) = some out:=o;have le : K5 ys.length (evo p 0 ++ evo q 1).length = some ():=by unfold K5;rw [Q1 aa]
    simp only [qy7,e1,qn,le,o]
  · rintro k ⟨d,inn,opn,out⟩ hk ⟨s1,s2,s3,s4,s5,s6,s7,s8⟩;simp only at s1 s2 s3 s4 s5 s6 s7 s8;have ag : decide ((k : Int) < ((evo p 0 ++ evo q 1).length : Int)) = true:=Qr q6;have bf:=qvw ys[k].at_ d inn out q6;have hm:=ad ys[k] (Kf hk);have be : ys.take (k + 1) = ys.take k ++ [ys[k]]:=List.take_succ_eq_append_getElem hk;have am : ∀ e∈ys.take k,e.by_ = 1∨e.by_ = -1:=fun e he=>(ad e (List.mem_of_mem_take he)).2;have b0:=qg9 (l:=0) (c:=fun _=>true) am;have b1:=qg9 (l:=1) (c:=fun _=>true) am;have ax : (ys.take k).length = k:=by rw [List.length_take];omega
    rw [ax] at b0 b1
    have af : ∃ v,idxA 2 opn ys[k].kind_ = some v∧opn.set ys[k].kind_.toNat (w64 (v + ys[k].by_)) = [cno 0 (fun _=>true) (ys.take (k + 1)),cno 1 (fun _=>true) (ys.take (k + 1))]:=by
      subst s1;rw [be,q1s,q1s];rcases hm.1 with h | h
      · refine ⟨cno 0 (fun _=>true) (ys.take k),by rw [h];rfl,?_⟩;rw [h,Qm q6];simp [cno,h]
      · refine ⟨cno 1 (fun _=>true) (ys.take k),by rw [h];rfl,?_⟩;rw [h,Qm q6];simp [cno,h]
    obtain ⟨v,o1,o2⟩:=af;refine .inl ⟨(ys[k].at_,(decide (0 < cno 0 (fun _=>true) (ys.take (k + 1))) && decide (cno 1 (fun _=>true) (ys.take (k + 1)) = 0)),[cno 0 (fun _=>true) (ys.take (k + 1)),cno 1 (fun _=>true) (ys.take (k + 1))],if inn = true∧d < ys[k].at_ then addS out d ys[k].at_ else out),?_,?_⟩
    · have x0 : ∀ a b : Int,idxA 2 [a,b] 0 = some a:=fun a b=>rfl;have x1 : ∀ a b : Int,idxA 2 [a,b] 1 = some b:=fun a b=>rfl;have hi : idx ys (k : Int) = some ys[k]:=K3 hk
      have hz : ∀ a b : Int,(cond (decide (a > 0)) (some (b == 0)) (some false)) = some (decide (0 < a) && decide (b = 0)):=by
        intro a b;by_cases h : 0 < a
        · rw [Qr (show a > 0 from h),Q5,Bool.true_and];rfl
        · rw [Qs (show ¬ a > 0 from h),Q4,Bool.false_and]
      unfold q4r;simp only [ag,Q5,hi,qn];rw [← Option.bind_assoc,bf];simp only [qn,o1,o2,x0,x1,hz];rw [Qm q6];rfl
    · have z : ∀ x,(0 < k→d≤x)→∀ i (h : i < ys.length),i < k→ys[i].at_≤x:=by
        intro x m i hi aq;have:=s3 q6 q6;have:=ac i (k - 1) hi q6 q6;have:=m q6;omega
      have w : ∀ x,x < ys[k].at_→∀ i (h : i < ys.length),k≤i→x < ys[i].at_:=by
        intro x m i hi aq;have:=ac k i hk hi aq;omega
      have hF : ∀ x,(0 < k→d≤x)→x < ys[k].at_→((has p x∧¬ has q x)↔inn = true):=by
        intro x m ak;obtain ⟨c1,c2⟩:=qk4 vp vq g hs k x (z x m) (w x ak);have c3:=qsg vp vq g k x (z x m) (w x ak);rw [s2,Bool.and_eq_true,decide_eq_true_eq,decide_eq_true_eq,c1,← c2];exact ⟨fun ⟨a,b⟩=>⟨a,q6⟩,fun ⟨a,b⟩=>⟨a,q6⟩⟩
      have ab : 0 < k→d≤ys[k].at_:=by
        intro s;rw [s3 q6 s];exact ac (k - 1) k q6 hk q6
      have ae : k = 0→inn = false:=by
        intro s;subst s;rw [s2];rfl
      by_cases r : inn = true∧d < ys[k].at_
      · have ay : 0 < k:=by
          rcases Nat.eq_zero_or_pos k with h | h
          · rw [ae h] at r;cases r.1
          · exact h
        have bd:=r.2;obtain ⟨d1,d2,d3,d4⟩:=qfq s4 s5 bd;constructor
        · rfl
        · rfl
        · intro h _;rfl
        · simp only [Q1 r];exact d1
        · simp only [Q1 r];exact d3
        · omega
        · intro x;simp only [Q1 r];rw [d2,s7];constructor
          · rintro (⟨s,o,n⟩ | ⟨o,n⟩)
            · exact ⟨q6,q6,n⟩
            · exact ⟨q6,n,(hF x (fun _=>o) n).2 r.1⟩
          · rintro ⟨s,o,n⟩;by_cases m : x < d
            · exact .inl ⟨ay,m,n⟩
            · exact .inr ⟨q6,o⟩
        · simp only [Q1 r];have:=qjc out d ys[k].at_;omega
      · constructor
        · rfl
        · rfl
        · intro h _;rfl
        · simp only [Q2 r];exact s4
        · simp only [Q2 r];intro t u;rcases Nat.eq_zero_or_pos k with h | h
          · rw [s6 h] at u;cases u
          · have:=s5 t u;have:=ab h;omega
        · omega
        · intro x;simp only [Q2 r];rw [s7];constructor
          · rintro ⟨s,o,n⟩;exact ⟨q6,by have:=ab s;omega,n⟩
          · rintro ⟨s,o,n⟩;by_cases m : 0 < k∧x < d
            · exact ⟨m.1,m.2,n⟩
            · have an : 0 < k→d≤x:=fun h=>by
                refine Int.not_lt.1 fun h'=>m ⟨h,h'⟩
              have n:=(hF x an o).1 n;refine absurd ⟨n,?_⟩ r;rcases Nat.eq_zero_or_pos k with h | h
              · rw [ae h] at n;cases n
              · have:=an h;omega
        · simp only [Q2 r];omega
  · rintro ⟨d,inn,opn,out⟩ ⟨s1,s2,s3,s4,s5,s6,s7,s8⟩;simp only at s1 s2 s3 s4 s5 s6 s7 s8;have ag : decide ((ys.length : Int) < ((evo p 0 ++ evo q 1).length : Int)) = false:=Qs q6;refine ⟨out,by simp only [q4r,ag,Q4],s4,fun x=>?_,q6⟩;rw [s7];constructor
    · rintro ⟨_,_,h⟩;exact h
    · intro h;by_cases m : 0 < ys.length∧x < d
      · exact ⟨m.1,m.2,h⟩
      · obtain ⟨c1, c2⟩ := qk4 vp vq g hs ys.length x (fun i hi _ => by
            have:=s3 q6 q6;have:=ac i (ys.length - 1) hi q6 q6;have : d≤x:=Int.not_lt.1 fun h'=>m ⟨q6,h'⟩
            omega) (fun i hi bl=>q6)
        have ba : ∀ l,cno l (fun _=>true) (ys.take ys.length) = 0:=by
          intro l;rw [List.take_length,qgd g,q1s];by_cases s : l = 0
          · subst s;rw [qk5,q6c qy];rfl
          · rw [q6c s];by_cases o : l = 1
            · subst o;rw [qk5];rfl
            · rw [q6c o];rfl
        rw [ba] at c1 c2;exact absurd (c1.2 h.1) qy
  · constructor
    · simp [cno]
    · simp [cno]
    · intro h s;omega
    · exact ⟨fun t u=>(by cases u),.nil⟩
    · intro t u;cases u
    · intro _;rfl
    · intro x;simp [has]
    · simp
end Go.Sh
namespace Go.Sh
open Go Go.Am
theorem qg7 {s : List ql} (h : Yu s = 0) : s.length≤400∧Good s:=by
  unfold Yu at h;split at h
  · cases h
  · split at h
    · rename_i b a;exact ⟨q6,a⟩
    · cases h
def dst (x : Int) (t : ql) : Int:=max (max (t.Lo - x) (x - t.Hi + 1)) 0
end Go.Sh
