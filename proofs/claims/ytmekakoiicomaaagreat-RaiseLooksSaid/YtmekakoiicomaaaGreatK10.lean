/- Rh0 Pl1 Pl2 Pl3 Pg6 Pj1 Pj2 Rh1 Pl4 Pj3 -/
import Derived.Test.YtmekakoiicomaaaGreatK9
namespace Go.Sh
open Go Go.Am
theorem qv1 : qcd = q41:=rfl
theorem qu1 : q1x = q2d:=by
  funext p0;simp only [q1x,q2d,qv1]
  all_goals exact Qs
theorem qls : Jp = Ur:=by
  funext p0;simp only [Jp,Ur,qu1]
  all_goals exact Qs
theorem qud : Uk = q1p:=by
  funext p0;simp only [Uk,q1p,qls]
  all_goals exact Qs
theorem qv2 : Ul = q1t:=by
  funext p0;simp only [Ul,q1t]
  all_goals exact Qs
theorem qub : qb0 = Jj:=by
  funext p1 q1 a459;simp only [qb0,Jj]
  all_goals exact Qs
theorem qua : qaz = Uw:=by
  funext p2 p1 q1 a278;simp only [qaz,Uw,qub]
  all_goals exact Qs
theorem qu9 : qay = q1o:=by
  funext q1 p0 p1 p2;simp only [qay,q1o,qua]
  all_goals exact Qs
theorem qv0 : qc0 = Jm:=by
  funext p2 p3 q1 a197;simp only [qc0,Jm]
  all_goals exact Qs
theorem qlu : q8b = U8:=by
  funext q1 p0 p1 p2 p3;simp only [q8b,U8,qv0]
  all_goals exact Qs
theorem qu7 : qat = Uu:=by
  funext q1 p2 p1 a123;simp only [qat,Uu,qlu]
  all_goals exact Qs
theorem qu8 : qau = Uv:=by
  funext p1 q1 a191;simp only [qau,Uv,qlu]
  all_goals exact Qs
theorem qu6 : qas = q1n:=by
  funext q1 p0 p1 p2;simp only [qas,q1n,qu7,qu8]
  all_goals exact Qs
theorem que : q53 = U2:=by
  funext q1 p0 p1 p2 p3;simp only [q53,U2]
  all_goals exact Qs
theorem qlt : q7l = U1:=by
  funext q1 p0 p1 p2 p3 p4;simp only [q7l,U1,que]
  all_goals exact Qs
theorem quc : q50 = Jk:=by
  funext q1 p0 p1 p2;simp only [q50,Jk,qlt]
  all_goals exact Qs
theorem qu5 : qaq = q1m:=by
  funext p0 p1 p2 p3;simp only [qaq,q1m,qlt,quc]
  all_goals exact Qs
theorem quz : qbw = q1s:=by
  funext a119;simp only [qbw,q1s]
  all_goals exact Qs
theorem quy : qbv = q11:=by
  funext q1 p0 p1 p2;simp only [qbv,q11,quz]
  all_goals exact Qs
theorem quh : qb4 = U3:=by
  funext p2 a438 q1 a681;simp only [qb4,U3]
  all_goals exact Qs
theorem qui : qb5 = U4:=by
  funext q1 a838;simp only [qb5,U4]
  all_goals exact Qs
theorem quj : qb6 = U5:=by
  funext p2 q1 b684 a928;simp only [qb6,U5]
  all_goals exact Qs
theorem qug : q7o = Z9:=by
  funext p2 q1 p1 a438;have a : @q7o.match_1.{1} = @Z9.match_1.{1} qq:=by funext motive m f g;cases m <;> rfl
  unfold q7o Z9;rw [a];simp only [quh,qui,quj]
theorem quf : q7n = J3:=by
  funext q1 p0 p1 p2;have a : @q7n.match_1.{1} = @J3.match_1.{1} qq:=by funext motive m f g;cases m <;> rfl
  unfold q7n J3;rw [a];simp only [qug]
theorem qun : qbp = U6:=by
  funext a318 p1 q1 a378;simp only [qbp,U6]
  all_goals exact Qs
theorem qup : qbq = U7:=by
  funext b381 a318 p1 q1 a463;simp only [qbq,U7]
  all_goals exact Qs
theorem qum : qbo = Uz:=by
  funext p1 q1 a318;simp only [qbo,Uz,qun,qup]
  all_goals exact Qs
theorem qul : qbn = Uy:=by
  funext q1 p0 p1 p2 p3;simp only [qbn,Uy,qum]
  all_goals exact Qs
theorem quq : qbc = q1q:=by
  funext p2 p0 p1 v101 p3 v103 q1 a163;simp only [qbc,q1q]
  all_goals exact Qs
theorem qur : qbd = q1r:=by
  funext b166 p0 p1 v101 p3 v103 q1 a249;simp only [qbd,q1r]
  all_goals exact Qs
theorem qut : qbf = Zs:=by
  funext a514 p1 q1 a572;simp only [qbf,Zs]
  all_goals exact Qs
theorem quu : qbg = Zt:=by
  funext b575 a514 p1 q1 a658;simp only [qbg,Zt]
  all_goals exact Qs
theorem qus : qbe = q10:=by
  funext p1 q1 a514;simp only [qbe,q10,qut,quu]
  all_goals exact Qs
theorem quk : qbb = Ux:=by
  funext q1 p0 p1 p2 p3;simp only [qbb,Ux,quq,qur,qus]
  all_goals exact Qs
theorem qu4 : qan = U0:=by
  funext p1 p2 r101 a153;simp only [qan,U0,qv2]
  all_goals exact Qs
theorem qu3 : qam = Ut:=by
  funext q1 p0 p1 p2;simp only [qam,Ut,qud,qu4]
  all_goals exact Qs
theorem quw : q84 = Yy:=by
  funext q1 rec a412;have a : @q84.match_1.{1} = @Yy.match_1.{1} qq:=by funext motive m f g;cases m <;> rfl
  unfold q84 Yy;rw [a];simp only [qu9,qu6,qu5,quy,quf,qul,quk,qu3]
theorem qux : q85 = Jl:=by
  funext rec q1 p0 p1 p2 p3;simp only [q85,Jl,quw]
  all_goals exact Qs
theorem quv : ∀ N q,q83 N q = Yx N q:=by
  intro N q
  induction N with
  | zero=>rfl
  | succ N ih=>
    funext a b c d;show q85 (q83 N q) q a b c d = Jl (Yx N q) q a b c d;rw [ih,qux]
theorem qu2 : q7a = Us:=by
  funext q1 p0;simp only [q7a,Us,qls,quv]
  all_goals exact Qs
end Go.Sh
namespace Go.Sh
open Go Go.Am
def has (s : List qp) (x : Int) : Prop:=∃ t∈s,t.Lo≤x∧x < t.Hi
def Can (s : List qp) : Prop:=(∀ t∈s,t.Lo < t.Hi)∧s.Pairwise (fun a b=>a.Hi < b.Lo)
def vld (t : qp) : Prop:=t.Lo < t.Hi∧-1000000≤t.Lo∧t.Hi≤1000000
instance (t : qp) : Decidable (vld t):=by unfold vld;exact inferInstance
def Good (s : List qp) : Prop:=(∀ t∈s,vld t)∧s.Pairwise (fun a b=>a.Hi < b.Lo)
theorem Good.can {s : List qp} (h : Good s) : Can s:=⟨fun t a=>(h.1 t a).1,h.2⟩
theorem q1u (x : Int) : ¬ has [] x:=by rintro ⟨t,h,_⟩;cases h
theorem Zi {a : qp} {s : List qp} {x : Int} : has (a::s) x↔(a.Lo≤x∧x < a.Hi)∨has s x:=by
  constructor
  · rintro ⟨t,b,h⟩;rcases List.mem_cons.1 b with rfl | b
    · exact .inl h
    · exact .inr ⟨t,b,h⟩
  · rintro (h | ⟨t,b,h⟩)
    · exact ⟨a,qe,h⟩
    · exact ⟨t,by simp [b],h⟩
theorem qsj {a b : List qp} {x : Int} : has (a ++ b) x↔has a x∨has b x:=by
  induction a with
  | nil=>simp [q1u]
  | cons t r ih=>simp only [List.cons_append,Zi,ih,or_assoc]
theorem Can.tail {a : qp} {s : List qp} (h : Can (a::s)) : Can s:=⟨fun t b=>h.1 t (by simp [b]),(List.pairwise_cons.1 h.2).2⟩
theorem Can.lt {a : qp} {s : List qp} (h : Can (a::s)) : ∀ t∈s,a.Hi < t.Lo:=(List.pairwise_cons.1 h.2).1
theorem Can.tail_gt {a : qp} {s : List qp} (h : Can (a::s)) {x : Int} (c : has s x) : a.Hi < x:=by
  obtain ⟨t,b,f,d⟩:=c;have:=h.lt t b;omega
theorem q29 : ∀ {s t : List qp},Can s→Can t→(∀ x,has s x↔has t x)→s = t
  | [],[],_,_,_=>rfl
  | [],b::t,_,c,h=>absurd ((h b.Lo).2 (Zi.2 (.inl ⟨Int.le_refl _,c.1 b qe⟩))) (q1u _)
  | a::s,[],hs,_,h=>absurd ((h a.Lo).1 (Zi.2 (.inl ⟨Int.le_refl _,hs.1 a qe⟩))) (q1u _)
  | a::s,b::t,hs,c,h=>by
    have m:=hs.1 a qe
    have hb:=c.1 b qe
    have lo : ∀ {a b : qp} {s t : List qp},Can (a::s)→Can (b::t)→(∀ x,has (a::s) x↔has (b::t) x)→b.Lo≤a.Lo:=by
      intro a b s t hs c h;rcases Zi.1 ((h a.Lo).1 (Zi.2 (.inl ⟨Int.le_refl _,hs.1 a qe⟩))) with d | d
      · exact d.1
      · have:=c.tail_gt d;have:=c.1 b qe;omega
    have j : a.Lo = b.Lo:=Int.le_antisymm (lo c hs fun x=>(h x).symm) (lo hs c h)
    have hi : ∀ {a b : qp} {s t : List qp},Can (a::s)→Can (b::t)→(∀ x,has (a::s) x↔has (b::t) x)→a.Lo = b.Lo→b.Hi≤a.Hi:=by
      intro a b s t hs c h e;have m:=hs.1 a qe;have hb:=c.1 b qe;refine Int.not_lt.1 fun k=>?_;rcases Zi.1 ((h a.Hi).2 (Zi.2 (.inl ⟨q6,k⟩))) with d | d
      · omega
      · have:=hs.tail_gt d;omega
    have l : a.Hi = b.Hi:=Int.le_antisymm (hi c hs (fun x=>(h x).symm) j.symm) (hi hs c h j)
    have e : a = b:=by cases a;cases b;simp at j l;simp [j,l]
    subst e
    congr 1
    refine q29 hs.tail c.tail fun x=>⟨fun g=>?_,fun g=>?_⟩
    · have d:=hs.tail_gt g
      rcases Zi.1 ((h x).1 (Zi.2 (.inr g))) with f | f
      · omega
      · exact f
    · have d:=c.tail_gt g
      rcases Zi.1 ((h x).2 (Zi.2 (.inr g))) with f | f
      · omega
      · exact f
theorem qow (t : qp) : q3p t = some (decide (vld t)):=by
  unfold q3p vld;by_cases a : t.Lo < t.Hi <;> by_cases b : -1000000≤t.Lo <;> by_cases c : t.Hi≤1000000 <;> simp [a,b,c]
open Classical in
noncomputable def q1h (s : List qp) : Int:=if 400 < s.length then 4 else if Good s then 0 else 8
def qhv (s : List qp) (k : Nat) : Prop:=(∀ i (h : i < s.length),i < k→vld s[i])∧∀ i (h : i + 1 < s.length),i + 1 < k→s[i].Hi < s[i+1].Lo
theorem qsb {s : List qp} (h : qhv s s.length) : Good s:=by
  refine ⟨fun t d=>?_,?_⟩
  · obtain ⟨i,hi,rfl⟩:=List.mem_iff_getElem.1 d;exact h.1 i hi hi
  · have key : ∀ i j (hi : i < s.length) (a : j < s.length),i < j→s[i].Hi < s[j].Lo:=by
      intro i j hi a b
      induction j with
      | zero=>omega
      | succ j ih=>
        have c:=h.2 j a a;by_cases e : i = j
        · subst e;exact c
        · have f:=ih q6 q6;have g:=(h.1 j q6 q6).1;omega
    rw [List.pairwise_iff_getElem];exact key
theorem Good.get {s : List qp} (h : Good s) (i : Nat) (hi : i < s.length) : vld s[i]:=h.1 _ (Kc hi)
theorem Good.nxt {s : List qp} (h : Good s) (i j : Nat) (hi : i < s.length) (b : j < s.length) (a : i < j) : s[i].Hi < s[j].Lo:=List.pairwise_iff_getElem.1 h.2 i j hi b a
theorem qiq (s : List qp) : qed s = some (q1h s):=by
  unfold qed q1h;by_cases n : 400 < s.length
  · have : decide ((s.length : Int) > 400) = true:=by simp;omega
    simp [this,n]
  · have hd : decide ((s.length : Int) > 400) = false:=by simp;omega
    simp only [hd,n,if_false,qx];have:=J4 (f:=q5e s) (σ:=Unit) (fun k _=>(k : Int)) s.length (fun k _=>qhv s k) (fun b=>(b = .inl ()∧Good s)∨(b = .inr 8∧¬ Good s)) ?_ ?_ (k0:=0) (c0:=()) q6 ⟨fun i _ h=>q6,fun i _ h=>q6⟩
    · obtain ⟨b,m,d⟩:=this;have m : loop (q5e s) 0 = some b:=m;rw [m];rcases d with ⟨rfl,d⟩ | ⟨rfl,d⟩ <;> simp [d]
    · intro k _ l g;have hb : decide ((k : Int) < (s.length : Int)) = true:=by simp;omega
      simp only [q5e,hb,qz,Qq l,qj,qow];have bad : ¬ Good s→∃ b,(some (Sum.inr (Sum.inr 8)) : Option (Int ⊕ (Unit ⊕ Int))) = some (.inr b)∧((b = .inl ()∧Good s)∨(b = .inr 8∧¬ Good s)):=fun h=>⟨_,rfl,.inr ⟨rfl,h⟩⟩
      by_cases c : vld s[k]
      · simp only [c,decide_true,Bool.not_true,qx];by_cases o : k = 0
        · subst o;refine .inl ⟨(),by simp [Ql],⟨fun i hi h=>?_,fun i hi h=>q6⟩⟩
          (obtain rfl : i = 0:=by omega)
          exact c
        · obtain ⟨j,rfl⟩ : ∃ j,k = j + 1:=⟨k - 1,q6⟩
          have hp : decide (((j + 1 : Nat) : Int) > 0) = true:=Qc q6
          have p : idx s (w64 (((j + 1 : Nat) : Int) - 1)) = some (s[j]'(q6)):=by
            rw [Ql q6];exact U9 q6 q6
          simp only [hp,qz,p,qj];by_cases a : s[j].Hi < s[j+1].Lo
          · have : decide (s[j].Hi ≥ s[j+1].Lo) = false:=by simp;omega
            simp only [this,qx];rw [Ql q6];refine .inl ⟨(),rfl,⟨fun i hi h=>?_,fun i hi h=>?_⟩⟩
            · by_cases e : i = j + 1
              · subst e;exact c
              · exact g.1 i hi q6
            · by_cases e : i = j
              · subst e;exact a
              · exact g.2 i hi q6
          · have : decide (s[j].Hi ≥ s[j+1].Lo) = true:=by simp;omega
            simp only [this,qz];exact .inr (bad fun h=>a (h.nxt j (j + 1) q6 l q6))
      · simp only [c,decide_false,Bool.not_false,qz,qj];exact .inr (bad fun h=>c (h.get k l))
    · intro _ g;have hb : decide ((s.length : Int) < (s.length : Int)) = false:=by simp
      simp only [q5e,hb,qx];exact ⟨_,rfl,.inl ⟨rfl,qsb g⟩⟩
theorem qwv : qmp = q3p:=rfl
theorem qws (s : List qp) : qgm s = q5e s:=by
  funext a;unfold qgm q5e;cases h : idx s a <;> simp [qwv]
theorem qwu (s : List qp) : qdr s = some (q1h s):=by
  rw [← qiq];unfold qdr qed;rw [qws]
open Classical in
theorem qmm (s : List qp) (x : Int) (l : s.length≤1000000) : qds s x = some (decide (has s x)):=by
  have:=J4 (f:=q9o s x) (σ:=Unit) (fun k _=>(k : Int)) s.length (fun k _=>∀ i (h : i < s.length),i < k→¬ (s[i].Lo≤x∧x < s[i].Hi)) (fun b=>(b = .inl ()∧¬ has s x)∨(b = .inr true∧has s x)) ?_ ?_ (k0:=0) (c0:=()) q6 (fun i _ h=>q6)
  · obtain ⟨b,c,a⟩:=this;have c : loop (q9o s x) 0 = some b:=c;unfold qds;rw [c];rcases a with ⟨rfl,a⟩ | ⟨rfl,a⟩ <;> simp [a]
  · intro k _ g d;have hb : decide ((k : Int) < (s.length : Int)) = true:=Qc q6;simp only [q9o,hb,qz,Qq g,qj];by_cases c : s[k].Lo≤x <;> by_cases a : x < s[k].Hi
    · exact .inr ⟨.inr true,by simp [c,a],.inr ⟨rfl,s[k],Kc g,c,a⟩⟩
    all_goals
      refine .inl ⟨(),by simp [c,a];exact Ql q6,fun i hi h=>?_⟩
      by_cases e : i = k
      · subst e;omega
      · exact d i hi q6
  · intro _ d;have hb : decide ((s.length : Int) < (s.length : Int)) = false:=Qe q6;simp only [q9o,hb,qx];refine ⟨_,rfl,.inl ⟨rfl,?_⟩⟩;rintro ⟨t,j,h⟩;obtain ⟨i,hi,rfl⟩:=List.mem_iff_getElem.1 j;exact d i hi hi h
end Go.Sh
namespace Go.Sh
open Go Go.Am
theorem qsv (out : List Int) (v : Int) (b : Nat) (hb : b≤out.length) :
    (cpyw (out ++ [0]) (b + 1,(out ++ [0]).length - (b + 1)) ((((out ++ [0]).drop b).take ((out ++ [0]).length - b)))).set b v = out.take b ++ v::out.drop b:=by
  have c : ((out ++ [0]).drop b).take ((out ++ [0]).length - b) = (out ++ [0]).drop b:=List.take_of_length_le qe;rw [c];unfold cpyw splice;have j : (min ((out ++ [0]).drop b).length ((out ++ [0]).length - (b + 1))) = out.length - b:=by simp;omega
  simp only [j]
  have d : ((out ++ [0]).drop b).take (out.length - b) = out.drop b:=by
    rw [List.drop_append_of_le_length hb,List.take_append_of_le_length qe];exact List.take_of_length_le qe
  rw [d]
  have h : (out ++ [0]).drop (b + 1 + (out.drop b).length) = []:=by
    apply List.drop_of_length_le;simp;omega
  rw [h,List.append_nil]
  have a : ∃ y,(out ++ [0]).take (b + 1) = out.take b ++ [y]:=by
    refine ⟨(out ++ [0])[b]'(by simp;omega),?_⟩;rw [List.take_succ_eq_append_getElem (by simp;omega),List.take_append_of_le_length hb]
  obtain ⟨y,g⟩:=a
  have key : ∀ (xs ys : List Int) (y v : Int),(xs ++ (y::ys)).set xs.length v = xs ++ v::ys:=by
    intro xs ys y v
    induction xs with
    | nil=>rfl
    | cons x xs ih=>simp [ih]
  have f : (out.take b).length = b:=by simp;omega
  rw [g,List.append_assoc];have:=key (out.take b) (out.drop b) y v;rw [f] at this;exact this
def Yo (l out : List Int) : Prop:=out.Pairwise (· < ·)∧∀ x,x∈out↔x∈l
theorem q13i (a : Int × List Int) (l : List Int) (i : Nat) (hi : i < l.length) (r : a.1 = i) (o : a.2.length≤1000000) (hs : a.2.Pairwise (· < ·)) :
    ∃ b : Int,loop (q4i a l) (a.2.length : Int) = some b∧∃ k : Nat,b = k∧k≤a.2.length∧(∀ j (h : j < a.2.length),k≤j→l[i] < a.2[j])∧(∀ j (h : j < a.2.length),j < k→a.2[j]≤l[i]):=by
  refine qtb (fun b : Int=>∃ k : Nat,b = k∧k≤a.2.length∧(∀ j (h : j < a.2.length),k≤j→l[i] < a.2[j])) (fun b=>b.toNat) _ ?_ ⟨a.2.length,rfl,q6,fun j h f=>q6⟩;rintro b ⟨k,rfl,q,c⟩
  cases k with
  | zero=>
    refine .inr ⟨0,?_,0,rfl,q6,c,fun j h f=>q6⟩;simp [q4i]
  | succ k=>
    have n : decide (((k + 1 : Nat) : Int) > 0) = true:=Qc q6;have p : idx a.2 (w64 (((k + 1 : Nat) : Int) - 1)) = some (a.2[k]'(q6)):=by rw [Ql q6];exact U9 q6 q6
    have m : idx l a.1 = some l[i]:=by rw [r];exact Qq hi
    have d : k < a.2.length:=by omega
    by_cases g : a.2[k] > l[i]
    · refine .inl ⟨(k : Int),?_,⟨k,rfl,q6,fun j h f=>?_⟩,qe⟩
      · simp only [q4i,n,p,m,qz,qj,g,decide_true];rw [Ql q6];congr 2;omega
      · by_cases e : j = k
        · subst e;exact g
        · exact c j h q6
    · refine .inr ⟨((k + 1 : Nat) : Int),?_,k + 1,rfl,q,c,fun j h f=>?_⟩
      · simp only [q4i,n,p,m,qz,qj,g,decide_false,qx]
      · by_cases e : j = k
        · subst e;omega
        · have : a.2[j] < a.2[k]:=List.pairwise_iff_getElem.1 hs j k h d q6;omega
theorem qor {l out : List Int} {v : Int} {i : Nat} (hi : i < l.length) (c : l[i] = v) (h : Yo (l.take i) out) (a : List Int) (hs : a.Pairwise (· < ·)) (b : ∀ x,x∈a↔x∈out∨x = v) : Yo (l.take (i + 1)) a:=by
  refine ⟨hs,fun x=>?_⟩;rw [b,h.2,List.take_succ_eq_append_getElem hi];simp [c]
theorem qo8 (l : List Int) (hl : l.length≤1000000) : ∃ t,Zv l = some t∧Yo l t∧t.length≤l.length:=by
  have:=J4 (f:=q4h l) (σ:=List Int) (fun k c=>((k : Int),c)) l.length (fun k c=>Yo (l.take k) c∧c.length≤k) (fun t=>Yo l t∧t.length≤l.length) ?_ ?_ (k0:=0) (c0:=[]) q6 ⟨⟨.nil,qe⟩,qe⟩
  · obtain ⟨b,g,n⟩:=this;have g : loop (q4h l) (0,[]) = some b:=g;exact ⟨b,by unfold Zv;rw [g];rfl,n⟩
  · intro k c hk a;obtain ⟨a,am⟩:=a;have hb : decide ((k : Int) < (l.length : Int)) = true:=Qc q6;obtain ⟨b,v,j,rfl,hj,p,q⟩:=q13i ((k : Int),c) l k hk rfl (by simp;omega) a.1;simp only at hj p q v;refine .inl ?_;simp only [q4h,hb,qz,v,qj,Qq hk];have hw : w64 ((k : Int) + 1) = ((k + 1 : Nat) : Int):=by rw [Ql q6];omega
    by_cases o : 0 < j∧∃ h : j - 1 < c.length,c[j-1] = l[k]
    · obtain ⟨s,d,he⟩:=o;have u : decide ((j : Int) > 0) = true:=Qc q6;have g : idx c (w64 ((j : Int) - 1)) = some (c[j-1]):=by rw [Ql q6];exact U9 q6 d
      refine ⟨c,by simp only [u,g,qz,qj,he,beq_self_eq_true,hw],?_,q6⟩;refine qor hk rfl a c a.1 fun x=>⟨.inl,?_⟩
      rintro (h | rfl)
      · exact h
      · rw [← he];exact Kc d
    · have hc : (cond (decide ((j : Int) > 0)) ((idx c (w64 ((j : Int) - 1))).bind fun w=>some (w == l[k])) (some false)) = some false:=by
        by_cases s : 0 < j
        · have d : j - 1 < c.length:=by omega
          have u : decide ((j : Int) > 0) = true:=Qc q6;have g : idx c (w64 ((j : Int) - 1)) = some (c[j-1]):=by rw [Ql q6];exact U9 q6 d
          simp only [u,g,qz,qj];have : c[j-1]≠l[k]:=fun e=>o ⟨s,d,e⟩;simp [this]
        · have u : decide ((j : Int) > 0) = false:=Qe q6;simp only [u,qx]
      have ab : app 8 c [0] = some (c ++ [0]):=Ke (by simp;omega)
      have ad : sub2 (c ++ [0]).length (w64 ((j : Int) + 1)) ((c ++ [0]).length : Int) = some (j + 1,(c ++ [0]).length - (j + 1)):=by
        rw [Ql q6];unfold sub2;rw [qy ⟨q6,by simp;omega,q6⟩];congr 2
      have ae : sub2 (c ++ [0]).length (j : Int) ((c ++ [0]).length : Int) = some (j,(c ++ [0]).length - j):=by
        unfold sub2;rw [qy ⟨q6,by simp;omega,q6⟩];congr 2
      simp only [hc,qj,qx,ab,ad,ae]
      have r : j < (cpyw (c ++ [0]) (j + 1,(c ++ [0]).length - (j + 1)) (((c ++ [0]).drop j).take ((c ++ [0]).length - j))).length:=by
        rw [qj8 (by simp;omega)];simp;omega
      rw [Qq r];simp only [qj,Int.toNat_natCast,qsv c l[k] j hj,hw];refine ⟨_,rfl,?_,by simp;omega⟩;refine qor hk rfl a _ ?_ fun x=>?_
      · rw [List.pairwise_append];refine ⟨a.1.sublist (List.take_sublist _ _),?_,?_⟩
        · rw [List.pairwise_cons];refine ⟨fun y hy=>?_,a.1.sublist (List.drop_sublist _ _)⟩;obtain ⟨i,hi,rfl⟩:=List.mem_iff_getElem.1 hy;rw [List.getElem_drop];exact p _ _ q6
        · intro y hy z hz;obtain ⟨i,hi,rfl⟩:=List.mem_iff_getElem.1 hy;rw [List.getElem_take];simp at hi;have g:=q i q6 q6;have n : c[i]≠l[k]∧c[i] < l[k]∨c[i] = l[k]:=by omega
          have h3 : c[i] < l[k]:=by
            rcases n with n | n
            · exact n.2
            · exfalso;by_cases e : i = j - 1
              · subst e;exact o ⟨q6,q6,n⟩
              · have : c[i] < c[j-1]'(q6):=List.pairwise_iff_getElem.1 a.1 i (j-1) q6 q6 q6;have:=q (j-1) q6 q6;omega
          rcases List.mem_cons.1 hz with rfl | hz
          · exact h3
          · obtain ⟨m,hm,rfl⟩:=List.mem_iff_getElem.1 hz;rw [List.getElem_drop];simp at hm;have:=p (j + m) q6 q6;omega
      · constructor
        · intro h;rcases List.mem_append.1 h with h | h
          · exact .inl (List.mem_of_mem_take h)
          · rcases List.mem_cons.1 h with h | h
            · exact .inr h
            · exact .inl (List.mem_of_mem_drop h)
        · rintro (h | rfl)
          · rw [← List.take_append_drop j c] at h;rcases List.mem_append.1 h with h | h
            · exact List.mem_append_left _ h
            · exact List.mem_append_right _ (List.mem_cons_of_mem _ h)
          · simp
  · intro c a;have hb : decide ((l.length : Int) < (l.length : Int)) = false:=Qe q6;simp only [q4h,hb,qx];refine ⟨_,rfl,by simpa using a.1,a.2⟩
def ends (s : List qp) : List Int:=s.flatMap fun t=>[t.Lo,t.Hi]
theorem q9g {s : List qp} {x : Int} : x∈ends s↔∃ t∈s,x = t.Lo∨x = t.Hi:=by simp [ends]
theorem qrs {s : List qp} {k : Nat} (h : k < s.length) : ends (s.take (k + 1)) = ends (s.take k) ++ [s[k].Lo,s[k].Hi]:=by
  unfold ends;rw [List.take_succ_eq_append_getElem h,List.flatMap_append];simp
theorem qd3 (s : List qp) : (ends s).length = 2 * s.length:=by
  induction s with
  | nil=>rfl
  | cons t r ih=>simp only [ends,List.flatMap_cons,List.length_append,List.length_cons,List.length_nil] at ih ⊢;omega
theorem qjf (s : List qp) (c0 : List Int) (hs : s.length≤100000) (g : c0.length≤200000) : loop (q9n s) (0,c0) = some (c0 ++ ends s):=by
  have:=J4 (f:=q9n s) (σ:=List Int) (fun k c=>((k : Int),c)) s.length (fun k c=>c = c0 ++ ends (s.take k)) (fun t=>t = c0 ++ ends s) ?_ ?_ (k0:=0) (c0:=c0) q6 (by simp [ends])
  · obtain ⟨b,d,rfl⟩:=this;exact d
  · rintro k c a rfl;have hb : decide ((k : Int) < (s.length : Int)) = true:=Qc q6;refine .inl ⟨c0 ++ ends (s.take (k + 1)),?_,rfl⟩;simp only [q9n,hb,qz,Qq a,qj];rw [Ke (by simp [qd3];omega),Ql q6,qrs a];simp
  · rintro c rfl;have hb : decide ((s.length : Int) < (s.length : Int)) = false:=Qe q6;simp [q9n]
theorem qrr (p q : List qp) (hp : p.length≤100000) (a : q.length≤100000) : ∃ t,qgn p q = some t∧Yo (ends p ++ ends q) t∧t.length≤2 * (p.length + q.length):=by
  have b : loop (qml q) (0,ends p) = some (ends p ++ ends q):=qjf q (ends p) a (by rw [qd3];omega);obtain ⟨t,f,c,d⟩:=qo8 (ends p ++ ends q) (by simp [qd3];omega);refine ⟨t,?_,c,by simp [qd3] at d;omega⟩;unfold qgn;rw [qjf p [] hp qe];simp only [List.nil_append,qj,b,f]
end Go.Sh
namespace Go.Sh
open Go Go.Am
def addS (c : List qp) (a b : Int) : List qp:=match c.getLast? with
  | some t=>if t.Hi = a then c.dropLast ++ [{Lo:=t.Lo,Hi:=b}] else c ++ [{Lo:=a,Hi:=b}]
  | none=>[{Lo:=a,Hi:=b}]
theorem qhz (a b : Int) : addS [] a b = [{Lo:=a,Hi:=b}]:=rfl
theorem q8n {c : List qp} {t : qp} {b : Int} : addS (c ++ [t]) t.Hi b = c ++ [{Lo:=t.Lo,Hi:=b}]:=by simp [addS]
theorem q8o {c : List qp} {t : qp} {a b : Int} (h : t.Hi≠a) : addS (c ++ [t]) a b = (c ++ [t]) ++ [{Lo:=a,Hi:=b}]:=by simp [addS,h]
theorem qc2 {α : Type} (c : List α) : c = []∨∃ d t,c = d ++ [t]:=by
  rcases List.eq_nil_or_concat c with h | ⟨d,t,h⟩
  · exact .inl h
  · exact .inr ⟨d,t,by simpa using h⟩
theorem qf3 {d : List qp} {t : qp} : Can (d ++ [t])↔Can d∧t.Lo < t.Hi∧∀ s∈d,s.Hi < t.Lo:=by
  unfold Can;constructor
  · rintro ⟨b,a⟩;rw [List.pairwise_append] at a;exact ⟨⟨fun s hs=>b s (by simp [hs]),a.1⟩,b t qe,fun s hs=>a.2.2 s hs t qe⟩
  · rintro ⟨⟨b,a⟩,g,f⟩;refine ⟨fun s hs=>?_,?_⟩
    · rcases List.mem_append.1 hs with hs | hs
      · exact b s hs
      · simp at hs;subst hs;exact g
    · rw [List.pairwise_append];exact ⟨a,qe,fun s hs u c=>by simp at c;subst c;exact f s hs⟩
theorem qfs {d : List qp} {t : qp} {x : Int} : has (d ++ [t]) x↔has d x∨(t.Lo≤x∧x < t.Hi):=by
  rw [qsj,Zi];simp [q1u]
theorem qeq {c : List qp} {a b : Int} (j : Can c) (g : ∀ t∈c,t.Hi≤a) (f : a < b) :
    Can (addS c a b)∧(∀ x,has (addS c a b) x↔has c x∨(a≤x∧x < b))∧(∀ t∈addS c a b,t.Hi≤b)∧(addS c a b).length≤c.length + 1∧
    (∀ t∈addS c a b,(t.Lo = a∨∃ u∈c,t.Lo = u.Lo)∧(t.Hi = b∨∃ u∈c,t.Hi = u.Hi)):=by
  rcases qc2 c with rfl | ⟨d,t,rfl⟩
  · rw [qhz];refine ⟨⟨by simpa using f,qe⟩,fun x=>?_,qe,qe,qe⟩;rw [Zi];simp [q1u]
  · have h:=qf3.1 j;have k : t.Hi≤a:=g t qe;by_cases e : t.Hi = a
    · subst e;rw [q8n];refine ⟨qf3.2 ⟨h.1,by simp;omega,h.2.2⟩,fun x=>?_,fun s hs=>?_,qe,fun s hs=>?_⟩
      · rw [qfs,qfs];by_cases hd : has d x <;> simp only [hd,true_or,false_or] <;> omega
      · rcases List.mem_append.1 hs with hs | hs
        · have:=g s (by simp [hs]);omega
        · simp at hs;subst hs;simp
      · rcases List.mem_append.1 hs with hs | hs
        · exact ⟨.inr ⟨s,by simp [hs],rfl⟩,.inr ⟨s,by simp [hs],rfl⟩⟩
        · simp at hs;subst hs;exact ⟨.inr ⟨t,qe,rfl⟩,.inl rfl⟩
    · rw [q8o e];refine ⟨qf3.2 ⟨j,f,fun s hs=>?_⟩,fun x=>?_,fun s hs=>?_,qe,fun s hs=>?_⟩
      · rcases List.mem_append.1 hs with hs | hs
        · have:=h.2.2 s hs;simp only;omega
        · simp at hs;subst hs;simp only;omega
      · rw [qfs]
      · rcases List.mem_append.1 hs with hs | hs
        · have:=g s hs;omega
        · simp at hs;subst hs;simp
      · rcases List.mem_append.1 hs with hs | hs
        · exact ⟨.inr ⟨s,hs,rfl⟩,.inr ⟨s,hs,rfl⟩⟩
        · simp at hs;subst hs;exact ⟨.inl rfl,.inl rfl⟩
theorem qgy {d : List qp} {t u : qp} : (d ++ [t]).set d.length u = d ++ [u]:=by
  induction d with
  | nil=>rfl
  | cons x d ih=>simp [ih]
structure qen (cuts : List Int) (ins : List Bool) (k : Nat) (c : List qp) : Prop where
  can : Can c
  pts : ∀ x,has c x↔∃ i,∃ (h : i + 1 < cuts.length) (h' : i < ins.length),i < k∧ins[i] = true∧cuts[i]≤x∧x < cuts[i + 1]
  hi : ∀ t∈c,∃ (h : k < cuts.length),t.Hi≤cuts[k]
  len : c.length≤k
  ends : ∀ t∈c,t.Lo∈cuts∧t.Hi∈cuts
theorem q8s (a : List Int) (g : List Bool) (hs : a.Pairwise (· < ·)) (hl : a.length≤1000000) (hi : a.length≤g.length + 1) :
    ∃ c,Uf a g = some c∧qen a g (a.length - 1) c:=by
  have:=J4 (f:=q4g a g) (σ:=List qp) (fun k c=>((k : Int),c)) (a.length - 1) (fun k c=>qen a g k c) (fun c=>qen a g (a.length - 1) c) ?_ ?_ (k0:=0) (c0:=[]) q6
    ⟨⟨qe,qe⟩,fun x=>⟨fun h=>absurd h (q1u x),fun ⟨i,_,_,h,_⟩=>q6⟩,qe,qe,qe⟩
  · obtain ⟨b,m,n⟩:=this;have m : loop (q4g a g) (0,[]) = some b:=m;exact ⟨b,by unfold Uf;rw [m];rfl,n⟩
  · intro k c hk j;have hw : w64 ((k : Int) + 1) = ((k + 1 : Nat) : Int):=by rw [Ql q6];omega
    have l : k + 1 < a.length:=by omega
    have q : k < a.length:=by omega
    have z : k < g.length:=by omega
    have hb : decide (((k + 1 : Nat) : Int) < (a.length : Int)) = true:=Qc q6;refine .inl ?_;simp only [q4g,hw,hb,qz,Qq z,Qq l,Qq q,qj];have aj : a[k] < a[k+1]:=List.pairwise_iff_getElem.1 hs k (k+1) q l q6;have ab : ∀ t∈c,t.Hi≤a[k]:=fun t p=>(j.hi t p).2
    cases ac : g[k] with
    | false=>
      refine ⟨c,qe,j.can,fun x=>?_,fun t p=>⟨l,by have:=ab t p;omega⟩,by have:=j.len;omega,j.ends⟩;rw [j.pts];constructor
      · rintro ⟨i,m,n,h3,o⟩;exact ⟨i,m,n,q6,o⟩
      · rintro ⟨i,m,n,h3,o⟩;by_cases e : i = k
        · subst e;rw [ac] at o;simp at o
        · exact ⟨i,m,n,q6,o⟩
    | true=>
      have r : (cond (!true) (some c) ((cond (decide ((c.length : Int) > 0)) ((idx c (w64 ((c.length : Int) - 1))).bind fun af=>some (af.Hi == a[k])) (some false)).bind fun ae=>cond ae ((idx c (w64 ((c.length : Int) - 1))).bind fun aa=>some (c.set (w64 ((c.length : Int) - 1)).toNat ({Lo:=aa.Lo,Hi:=a[k+1]} : qp))) ((app 16 c [({Lo:=a[k],Hi:=a[k+1]} : qp)]).bind fun w=>some w))) = some (addS c a[k] a[k+1]):=by
        have s : ∀ y,app 16 c [y] = some (c ++ [y]):=fun y=>Ke (by have:=j.len;simp;omega);rcases qc2 c with rfl | ⟨d,t,rfl⟩
        · simp [s,addS]
        · have h0 : decide ((((d ++ [t]).length : Nat) : Int) > 0) = true:=Qc (by rw [List.length_append,List.length_singleton];omega);have ak:=j.len;have v : (((d ++ [t]).length : Nat) : Int) = d.length + 1:=by simp
          have al : d.length + 1≤k:=by simpa using ak
          have m : w64 (((d ++ [t]).length : Int) - 1) = (d.length : Int):=by rw [v,Ql q6];omega
          have n : idx (d ++ [t]) (d.length : Int) = some t:=by rw [Qq qe];simp
          simp only [Bool.not_true,qx,h0,qz,m,n,qj,Int.toNat_natCast,qgy,s];by_cases e : t.Hi = a[k]
          · simp [e,← q8n]
          · have e' : (t.Hi == a[k]) = false:=by simpa using e
            simp only [e',qx,q8o e]
      rw [r];obtain ⟨a1,a2,a3,a4,a5⟩:=qeq j.can ab aj;refine ⟨_,rfl,a1,fun x=>?_,fun t p=>⟨l,a3 t p⟩,by have:=j.len;omega,fun t p=>?_⟩
      · rw [a2,j.pts];constructor
        · rintro (⟨i,m,n,h3,o⟩ | h)
          · exact ⟨i,m,n,q6,o⟩
          · exact ⟨k,l,z,q6,ac,h⟩
        · rintro ⟨i,m,n,h3,o⟩;by_cases e : i = k
          · subst e;exact .inr o.2
          · exact .inl ⟨i,m,n,q6,o⟩
      · obtain ⟨b1,b2⟩:=a5 t p;constructor
        · rcases b1 with b1 | ⟨u,hu,b1⟩
          · rw [b1];exact Kc q
          · rw [b1];exact (j.ends u hu).1
        · rcases b2 with b2 | ⟨u,hu,b2⟩
          · rw [b2];exact Kc l
          · rw [b2];exact (j.ends u hu).2
  · intro c j;refine ⟨c,?_,j⟩
    have hw : decide (w64 (((a.length - 1 : Nat) : Int) + 1) < (a.length : Int)) = false:=by
      rw [Ql q6];exact Qe q6
    simp only [q4g,hw,qx]
def Ky (kind : Int) (a b : Prop) : Prop:=(kind = 1∧a∧b)∨(kind = 2∧(a∨b))∨(kind≠1∧kind≠2∧a∧¬ b)
open Classical in
theorem qfu (kind : Int) (a b : Prop) : q6b kind (decide a) (decide b) = some (decide (Ky kind a b)):=by
  unfold q6b Ky;by_cases f : kind = 1
  · subst f;by_cases c : a <;> by_cases hb : b <;> simp [c,hb]
  · by_cases d : kind = 2
    · subst d;by_cases c : a <;> by_cases hb : b <;> simp [c,hb]
    · have g : (kind == 1) = false:=by simpa using f
      have h : (kind == 2) = false:=by simpa using d
      by_cases c : a <;> by_cases hb : b <;> simp [c,hb,f,d,g,h]
theorem Ui {c : List Int} (hs : c.Pairwise (· < ·)) {p : List qp} (m : ∀ x∈ends p,x∈c) {i : Nat} (h : i + 1 < c.length) {x : Int} (s : c[i]≤x) (r : x < c[i + 1]) : has p x↔has p c[i]:=by
  have mono : ∀ a b (k : a < c.length) (hb : b < c.length),c[a] < c[b]→a < b:=by
    intro a b k hb o;refine Nat.not_le.1 fun l=>?_;by_cases e : a = b
    · subst e;omega
    · have:=List.pairwise_iff_getElem.1 hs b a hb k q6;omega
  have d : ∀ a b (k : a < c.length) (hb : b < c.length),a≤b→c[a]≤c[b]:=by
    intro a b k hb l;by_cases e : a = b
    · subst e;omega
    · have:=List.pairwise_iff_getElem.1 hs a b k hb q6;omega
  constructor
  · rintro ⟨t,f,n,q⟩;refine ⟨t,f,?_,q6⟩;obtain ⟨j,g,e⟩:=List.mem_iff_getElem.1 (m t.Lo (q9g.2 ⟨t,f,.inl rfl⟩));have:=mono j (i + 1) g h q6;have:=d j i g q6 q6;omega
  · rintro ⟨t,f,n,q⟩;refine ⟨t,f,q6,?_⟩;obtain ⟨j,g,e⟩:=List.mem_iff_getElem.1 (m t.Hi (q9g.2 ⟨t,f,.inr rfl⟩));have:=mono i j q6 g q6;have:=d (i + 1) j h g q6;omega
theorem q5u {c : List Int} (hs : c.Pairwise (· < ·)) {p : List qp} (g : ∀ x∈ends p,x∈c) {x : Int} (h : has p x) : ∃ i,∃ (h : i + 1 < c.length),c[i]≤x∧x < c[i + 1]:=by
  obtain ⟨t,f,r,s⟩:=h;obtain ⟨a,l,u⟩:=List.mem_iff_getElem.1 (g t.Lo (q9g.2 ⟨t,f,.inl rfl⟩));obtain ⟨b,hb,v⟩:=List.mem_iff_getElem.1 (g t.Hi (q9g.2 ⟨t,f,.inr rfl⟩))
  have key : ∀ n j (k : j < c.length),j + n = b→c[j]≤x→∃ i,∃ (h : i + 1 < c.length),c[i]≤x∧x < c[i + 1]:=by
    intro n
    induction n with
    | zero=>intro j k e m;simp at e;subst e;omega
    | succ n ih=>
      intro j k e m;by_cases o : x < c[j+1]'(q6)
      · exact ⟨j,q6,m,o⟩
      · exact ih (j + 1) q6 q6 q6
  have q : a≤b:=by
    refine Nat.not_lt.1 fun d=>?_;have:=List.pairwise_iff_getElem.1 hs b a hb l d;omega
  exact key (b - a) a l q6 q6
structure qep (kind : Int) (p q out : List qp) : Prop where
  can : Can out
  pts : ∀ x,has out x↔Ky kind (has p x) (has q x)
  ends : ∀ t∈out,(t.Lo∈ends p∨t.Lo∈ends q)∧(t.Hi∈ends p∨t.Hi∈ends q)
  len : out.length≤2 * (p.length + q.length)
open Classical in
theorem qt4 (a : List Int) (p q : List qp) (kind : Int) (j : a.length≤1000000) (hp : p.length≤100000) (h : q.length≤100000) :
    loop (q9p a p q kind) (0,[]) = some (a.map fun x=>decide (Ky kind (has p x) (has q x))):=by
  have:=J4 (f:=q9p a p q kind) (σ:=List Bool) (fun k c=>((k : Int),c)) a.length (fun k c=>c = (a.take k).map fun x=>decide (Ky kind (has p x) (has q x))) (fun t=>t = a.map fun x=>decide (Ky kind (has p x) (has q x))) ?_ ?_ (k0:=0) (c0:=[]) q6 qe
  · obtain ⟨b,g,rfl⟩:=this;exact g
  · rintro k c d rfl;have hb : decide ((k : Int) < (a.length : Int)) = true:=Qc q6;refine .inl ⟨_,?_,rfl⟩;simp only [q9p,hb,qz,Qq d,qj,qmm p _ (by omega : p.length≤1000000),qmm q _ (by omega : q.length≤1000000),qfu];rw [Ke (by simp;omega),Ql q6,List.take_succ_eq_append_getElem d,List.map_append];rfl
  · rintro c rfl;have hb : decide ((a.length : Int) < (a.length : Int)) = false:=Qe q6;simp [q9p]
open Classical in
theorem qt5 (kind : Int) (p q : List qp) (hp : p.length≤100000) (r : q.length≤100000) : ∃ out,qdt kind p q = some out∧qep kind p q out:=by
  obtain ⟨d,w,⟨hs,l⟩,s⟩:=qrr p q hp r;obtain ⟨c,u,k⟩:=q8s d (d.map fun x=>decide (Ky kind (has p x) (has q x))) hs q6 (by rw [List.length_map];omega);refine ⟨c,?_,k.can,fun x=>?_,fun t v=>?_,by have:=k.len;omega⟩
  · unfold qdt;rw [w];simp only [qj,qt4 d p q kind q6 hp r,u]
  · have mp : ∀ x∈ends p,x∈d:=fun x n=>(l x).2 (List.mem_append_left _ n);have mq : ∀ x∈ends q,x∈d:=fun x n=>(l x).2 (List.mem_append_right _ n);rw [k.pts];constructor
    · rintro ⟨i,f,y,_,o,j,g⟩;simp only [List.getElem_map,decide_eq_true_eq] at o;rw [Ui hs mp f j g,Ui hs mq f j g];exact o
    · intro h
      have m : has p x∨has q x:=by
        rcases h with ⟨_,h,_⟩ | ⟨_,h⟩ | ⟨_,_,h,_⟩
        · exact .inl h
        · exact h
        · exact .inl h
      obtain ⟨i,f,j,g⟩ : ∃ i,∃ (h : i + 1 < d.length),d[i]≤x∧x < d[i + 1]:=m.elim (q5u hs mp) (q5u hs mq);refine ⟨i,f,by rw [List.length_map];omega,q6,?_,j,g⟩;simp only [List.getElem_map,decide_eq_true_eq];rw [← Ui hs mp f j g,← Ui hs mq f j g];exact h
  · obtain ⟨a,b⟩:=k.ends t v;exact ⟨List.mem_append.1 ((l _).1 a),List.mem_append.1 ((l _).1 b)⟩
end Go.Sh
namespace Go.Sh
open Go Go.Am
theorem qzt : qcd = q41:=rfl
theorem qyu : q1x = q2d:=by
  funext p0;simp only [q1x,q2d,qzt]
  all_goals exact Qs
theorem qnj : Jp = Ur:=by
  funext p0;simp only [Jp,Ur,qyu]
  all_goals exact Qs
theorem qz4 : qb3 = Jj:=by
  funext p1 q1 a459;simp only [qb3,Jj]
  all_goals exact Qs
theorem qz3 : qb2 = Uw:=by
  funext p2 p1 q1 a278;simp only [qb2,Uw,qz4]
  all_goals exact Qs
theorem qz2 : qb1 = q1o:=by
  funext q1 p0 p1 p2;simp only [qb1,q1o,qz3]
  all_goals exact Qs
theorem qzs : qc1 = Jm:=by
  funext p2 p3 q1 a197;simp only [qc1,Jm]
  all_goals exact Qs
theorem qnl : q8c = U8:=by
  funext q1 p0 p1 p2 p3;simp only [q8c,U8,qzs]
  all_goals exact Qs
theorem qz0 : qaw = Uu:=by
  funext q1 p2 p1 a123;simp only [qaw,Uu,qnl]
  all_goals exact Qs
theorem qz1 : qax = Uv:=by
  funext p1 q1 a191;simp only [qax,Uv,qnl]
  all_goals exact Qs
theorem qyz : qav = q1n:=by
  funext q1 p0 p1 p2;simp only [qav,q1n,qz0,qz1]
  all_goals exact Qs
theorem qz6 : Uk = q1p:=by
  funext p0;simp only [Uk,q1p,qnj]
  all_goals exact Qs
theorem qzu : Ul = q1t:=by
  funext p0;simp only [Ul,q1t]
  all_goals exact Qs
theorem qyx : qap = U0:=by
  funext p1 p2 r101 a153;simp only [qap,U0,qzu]
  all_goals exact Qs
theorem qyw : qao = Ut:=by
  funext q1 p0 p1 p2;simp only [qao,Ut,qz6,qyx]
  all_goals exact Qs
theorem qz7 : q54 = U2:=by
  funext q1 p0 p1 p2 p3;simp only [q54,U2]
  all_goals exact Qs
theorem qnk : q7m = U1:=by
  funext q1 p0 p1 p2 p3 p4;simp only [q7m,U1,qz7]
  all_goals exact Qs
theorem qz5 : q51 = Jk:=by
  funext q1 p0 p1 p2;simp only [q51,Jk,qnk]
  all_goals exact Qs
theorem qyy : qar = q1m:=by
  funext p0 p1 p2 p3;simp only [qar,q1m,qnk,qz5]
  all_goals exact Qs
theorem qzr : qby = q1s:=by
  funext a119;simp only [qby,q1s]
  all_goals exact Qs
theorem qzq : qbx = q11:=by
  funext q1 p0 p1 p2;simp only [qbx,q11,qzr]
  all_goals exact Qs
theorem qza : qb7 = U3:=by
  funext p2 a438 q1 a681;simp only [qb7,U3]
  all_goals exact Qs
theorem qzb : qb8 = U4:=by
  funext q1 a838;simp only [qb8,U4]
  all_goals exact Qs
theorem qzc : qb9 = U5:=by
  funext p2 q1 b684 a928;simp only [qb9,U5]
  all_goals exact Qs
theorem qz9 : q7q = Z9:=by
  funext p2 q1 p1 a438;have a : @q7q.match_1.{1} = @Z9.match_1.{1} qr:=by funext motive m f g;cases m <;> rfl
  unfold q7q Z9;rw [a];simp only [qza,qzb,qzc]
theorem qz8 : q7p = J3:=by
  funext q1 p0 p1 p2;have a : @q7p.match_1.{1} = @J3.match_1.{1} qr:=by funext motive m f g;cases m <;> rfl
  unfold q7p J3;rw [a];simp only [qz9]
theorem qzg : qbt = U6:=by
  funext a318 p1 q1 a378;simp only [qbt,U6]
  all_goals exact Qs
theorem qzh : qbu = U7:=by
  funext b381 a318 p1 q1 a463;simp only [qbu,U7]
  all_goals exact Qs
theorem qzf : qbs = Uz:=by
  funext p1 q1 a318;simp only [qbs,Uz,qzg,qzh]
  all_goals exact Qs
theorem qze : qbr = Uy:=by
  funext q1 p0 p1 p2 p3;simp only [qbr,Uy,qzf]
  all_goals exact Qs
theorem qzi : qbi = q1q:=by
  funext p2 p0 p1 v101 p3 v103 q1 a163;simp only [qbi,q1q]
  all_goals exact Qs
theorem qzj : qbj = q1r:=by
  funext b166 p0 p1 v101 p3 v103 q1 a249;simp only [qbj,q1r]
  all_goals exact Qs
theorem qzl : qbl = Zs:=by
  funext a514 p1 q1 a572;simp only [qbl,Zs]
  all_goals exact Qs
theorem qzm : qbm = Zt:=by
  funext b575 a514 p1 q1 a658;simp only [qbm,Zt]
  all_goals exact Qs
theorem qzk : qbk = q10:=by
  funext p1 q1 a514;simp only [qbk,q10,qzl,qzm]
  all_goals exact Qs
theorem qzd : qbh = Ux:=by
  funext q1 p0 p1 p2 p3;simp only [qbh,Ux,qzi,qzj,qzk]
  all_goals exact Qs
theorem qzo : q87 = Yy:=by
  funext q1 rec a309;have a : @q87.match_1.{1} = @Yy.match_1.{1} qr:=by funext motive m f g;cases m <;> rfl
  unfold q87 Yy;rw [a];simp only [qz2,qyz,qyw,qyy,qzq,qz8,qze,qzd]
theorem qzp : q88 = Jl:=by
  funext rec q1 p0 p1 p2 p3;simp only [q88,Jl,qzo]
  all_goals exact Qs
theorem qzn : ∀ N q,q86 N q = Yx N q:=by
  intro N q
  induction N with
  | zero=>rfl
  | succ N ih=>
    funext a b c d;show q88 (q86 N q) q a b c d = Jl (Yx N q) q a b c d;rw [ih,qzp]
theorem qyv : q7b = Us:=by
  funext q1 p0;simp only [q7b,Us,qnj,qzn]
  all_goals exact Qs
end Go.Sh
namespace Go.Sh
open Go Go.Am
instance : Inhabited qr:=⟨⟨0,0,0⟩⟩
theorem q13k (q : qr→qr→Option Int) (xs : List qr) : q7b q xs = Us q xs:=by rw [qyv]
def evs (s : List qp) (l : Int) : List qr:=s.flatMap fun t=>[{at_:=t.Lo,list_:=l,by_:=1},{at_:=t.Hi,list_:=l,by_:=-1}]
theorem q96 (s : List qp) (l : Int) : (evs s l).length = 2 * s.length:=by
  induction s with
  | nil=>rfl
  | cons t s ih=>simp only [evs,List.flatMap_cons,List.length_append,List.length_cons,List.length_nil] at ih ⊢;omega
theorem qdl {s : List qp} {l : Int} {e : qr} (h : e∈evs s l) : e.list_ = l∧(e.by_ = 1∨e.by_ = -1)∧∃ t∈s,e.at_ = t.Lo∨e.at_ = t.Hi:=by
  simp only [evs,List.mem_flatMap] at h;obtain ⟨t,a,h⟩:=h;simp only [List.mem_cons,List.not_mem_nil,or_false] at h;rcases h with rfl | rfl
  · exact ⟨rfl,.inl rfl,t,a,.inl rfl⟩
  · exact ⟨rfl,.inr rfl,t,a,.inr rfl⟩
theorem qjg (s : List qp) (l : Int) (y : List qr) (hs : s.length≤1000) (base : List qr) (hb : base.length≤10000) :
    loop (q5f s (l,y)) (0,base) = some (base ++ evs s l):=by
  have:=J4 (f:=q5f s (l,y)) (σ:=List qr) (fun k c=>((k : Int),c)) s.length (fun k c=>c = base ++ evs (s.take k) l) (fun t=>t = base ++ evs s l) ?_ ?_ (k0:=0) (c0:=base) q6 (by simp [evs])
  · obtain ⟨b,h,rfl⟩:=this;exact h
  · rintro k c d rfl;have a : decide ((k : Int) < (s.length : Int)) = true:=Qc q6;refine .inl ⟨base ++ evs (s.take (k + 1)) l,?_,rfl⟩;have g : (evs (s.take k) l).length≤2000:=by rw [q96,List.length_take];omega
    simp only [q5f,a,qz,Qq d,qj];rw [Ke (by rw [List.length_append];simp only [List.length_cons,List.length_nil];omega),qj,Ql q6,List.take_succ_eq_append_getElem d,List.append_assoc];have : evs (s.take k ++ [s[k]]) l = evs (s.take k) l ++ [{at_:=s[k].Lo,list_:=l,by_:=1},{at_:=s[k].Hi,list_:=l,by_:=-1}]:=by simp only [evs,List.flatMap_append,List.flatMap_cons,List.flatMap_nil,List.append_nil]
    rw [this];rfl
  · rintro c rfl;have a : decide ((s.length : Int) < (s.length : Int)) = false:=Qe q6;exact ⟨_,by simp only [q5f,a,qx];rfl,by rw [List.take_length]⟩
def ltE (a b : qr) : Bool:=decide (a.at_ < b.at_)
def inE (e : qr) : Prop:=-1000000≤e.at_∧e.at_≤1000000
theorem swoE : Sort.SWO ltE where
  irrefl:=by intro x;simp [ltE]
  trans:=by intro x y z;simp only [ltE,decide_eq_true_eq];omega
  ntrans:=by intro x y z;simp only [ltE,decide_eq_false_iff_not];omega
theorem cmpE : Kv (fun a b=>qc9 a b) ltE inE:=by
  rintro x y ⟨c,f⟩ ⟨d,g⟩;refine ⟨x.at_ - y.at_,?_,?_⟩
  · show some (w64 (x.at_ - y.at_)) = _;rw [Ql q6]
  · unfold ltE;exact decide_eq_decide.2 q6
theorem q13j (p q : List qp) (hp : p.length≤500) (v : q.length≤500) (u : ∀ t∈p,vld t) (k : ∀ t∈q,vld t) :
    ∃ ys,qca [p,q] = some ([p,q],ys)∧ys.Perm (evs p 0 ++ evs q 1)∧ys.Pairwise (fun x y=>x.at_≤y.at_):=by
  have o : ∀ x∈evs p 0 ++ evs q 1,inE x:=by
    intro x n;rcases List.mem_append.1 n with h | h
    · obtain ⟨_,_,t,g,h⟩:=qdl h;obtain ⟨a,b,c⟩:=u t g;unfold inE;rcases h with h | h <;> omega
    · obtain ⟨_,_,t,g,h⟩:=qdl h;obtain ⟨a,b,c⟩:=k t g;unfold inE;rcases h with h | h <;> omega
  have w:=q96 p 0;have z:=q96 q 1;obtain ⟨ys,s,j,l⟩:=qhg cmpE swoE (evs p 0 ++ evs q 1) (by rw [List.length_append];omega) o;refine ⟨ys,?_,j,l.imp (fun {x y} h=>by simp only [ltE,decide_eq_false_iff_not] at h;omega)⟩
  have d : loop (q25 [p,q]) (0,[]) = some (evs p 0 ++ evs q 1):=by
    have s0 : q25 [p,q] (0,[]) = some (.inl (1,evs p 0)):=by
      have t : decide ((0 : Int) < (([p,q] : List (List qp)).length : Int)) = true:=rfl;simp only [q25,t,qz];have : idx [p,q] 0 = some p:=rfl;rw [this];simp only [qj,qjg p 0 [] q6 [] qe,List.nil_append];rfl
    have m : q25 [p,q] (1,evs p 0) = some (.inl (2,evs p 0 ++ evs q 1)):=by
      have t : decide ((1 : Int) < (([p,q] : List (List qp)).length : Int)) = true:=rfl;simp only [q25,t,qz];have : idx [p,q] 1 = some q:=rfl;rw [this];simp only [qj,qjg q 1 (evs p 0) q6 (evs p 0) q6];rfl
    have r : q25 [p,q] (2,evs p 0 ++ evs q 1) = some (.inr (evs p 0 ++ evs q 1)):=by
      have t : decide ((2 : Int) < (([p,q] : List (List qp)).length : Int)) = false:=rfl;simp only [q25,t,qx]
    rw [Kz s0,Kz m,Kk r]
  unfold qca;rw [d];simp only [qj,q13k,s];have le : K1 ys.length (evs p 0 ++ evs q 1).length = some ():=by unfold K1;rw [qy j.length_eq]
  have f : K1 ys.length ys.length = some ():=by unfold K1;rw [qy rfl]
  simp only [le,qj,qec,f]
def cnt (l : Int) (c : Int→Bool) : List qr→Int
  | []=>0
  | e::es=>(if e.list_ = l∧c e.at_ = true then e.by_ else 0) + cnt l c es
theorem q2t (l : Int) (c : Int→Bool) (a b : List qr) : cnt l c (a ++ b) = cnt l c a + cnt l c b:=by
  induction a with
  | nil=>simp [cnt]
  | cons e a ih=>simp only [List.cons_append,cnt,ih];omega
theorem qiz {l : Int} {c : Int→Bool} {a b : List qr} (h : a.Perm b) : cnt l c a = cnt l c b:=by
  induction h with
  | nil=>rfl
  | cons x _ ih=>simp only [cnt,ih]
  | swap x y l=>simp only [cnt];omega
  | trans _ _ ih1 ih2=>rw [ih1,ih2]
theorem qiw {l : Int} {c b : Int→Bool} : ∀ {a : List qr},(∀ e∈a,c e.at_ = b e.at_)→cnt l c a = cnt l b a
  | [],_=>rfl
  | e::a,h=>by simp only [cnt,h e qe,qiw (fun e d=>h e (List.mem_cons_of_mem _ d))]
theorem qiy {l : Int} {c : Int→Bool} : ∀ {a : List qr},(∀ e∈a,c e.at_ = false)→cnt l c a = 0
  | [],_=>rfl
  | e::a,h=>by
    simp only [cnt,qiy (fun e b=>h e (List.mem_cons_of_mem _ b)),h e qe]
    simp
theorem q8v {s : List qp} {l l' : Int} {c : Int→Bool} (h : l≠l') : cnt l c (evs s l') = 0:=by
  induction s with
  | nil=>rfl
  | cons t s ih=>
    have : evs (t::s) l' = [{at_:=t.Lo,list_:=l',by_:=1},{at_:=t.Hi,list_:=l',by_:=-1}] ++ evs s l':=rfl;rw [this,q2t,ih];have a : ¬ l' = l:=fun e=>h e.symm;simp [cnt,a]
theorem qix {s : List qp} {l : Int} (v : ∀ t∈s,vld t) (x : Int) : 0≤cnt l (fun a=>decide (a≤x)) (evs s l)∧(0 < cnt l (fun a=>decide (a≤x)) (evs s l)↔has s x):=by
  induction s with
  | nil=>exact ⟨Int.le_refl 0,by simp [evs,cnt,has]⟩
  | cons t s ih=>
    obtain ⟨f,c⟩:=ih (fun t d=>v t (List.mem_cons_of_mem _ d));have b:=v t qe;have : evs (t::s) l = [{at_:=t.Lo,list_:=l,by_:=1},{at_:=t.Hi,list_:=l,by_:=-1}] ++ evs s l:=rfl;rw [this,q2t,Zi,← c];obtain ⟨j,h,g⟩:=b;simp only [cnt,true_and,decide_eq_true_eq];split <;> split <;> omega
theorem qj0 {s : List qp} {l : Int} : cnt l (fun _=>true) (evs s l) = 0:=by
  induction s with
  | nil=>rfl
  | cons t s ih=>
    have : evs (t::s) l = [{at_:=t.Lo,list_:=l,by_:=1},{at_:=t.Hi,list_:=l,by_:=-1}] ++ evs s l:=rfl;rw [this,q2t,ih];simp [cnt]
theorem qfb {l : Int} {c : Int→Bool} : ∀ {a : List qr},(∀ e∈a,e.by_ = 1∨e.by_ = -1)→-(a.length : Int)≤cnt l c a∧cnt l c a≤(a.length : Int)
  | [],_=>by simp [cnt]
  | e::a,h=>by
    obtain ⟨d,f⟩:=qfb (l:=l) (c:=c) (fun e b=>h e (List.mem_cons_of_mem _ b))
    have:=h e qe
    simp only [cnt,List.length_cons]
    split <;> omega
end Go.Sh
namespace Go.Sh
open Go Go.Am
theorem qqx (at_ a : Int) (inn : Bool) (out : List qp) (h : out.length≤10000) :
    qcb at_ inn a out = some (inn,a,if inn = true∧a≠at_ then addS out a at_ else out):=by
  unfold qcb
  cases inn with
  | false=>rfl
  | true=>
    by_cases b : a = at_
    · simp [b]
    · have hb : (a == at_) = false:=by simpa using b
      simp only [Bool.not_true,qx,qj,hb];rw [qy ⟨trivial,b⟩];rcases qc2 out with rfl | ⟨d,t,rfl⟩
      · rfl
      · have l : (d ++ [t]).length = d.length + 1:=by simp
        have j : decide (((d ++ [t]).length : Int) > 0) = true:=Qc q6;have g : w64 (((d ++ [t]).length : Int) - 1) = (d.length : Int):=by rw [Ql q6];omega
        have k : idx (d ++ [t]) (d.length : Int) = some t:=by
          rw [Qq q6];simp
        simp only [j,qz,g,k,qj];by_cases c : t.Hi = a
        · subst c;simp only [beq_self_eq_true,qz,q8n,Int.toNat_natCast,qgy]
        · have f : (t.Hi == a) = false:=by simpa using c
          simp only [f,qx,q8o c];rw [Ke (by simp;omega)];rfl
open Classical in
structure qp4 (f : Bool→Bool→Bool) (p q : List qp) (ys : List qr) (k : Nat) (c : List Int × Int × Bool × List qp) : Prop where
  opn : c.1 = [cnt 0 (fun _=>true) (ys.take k),cnt 1 (fun _=>true) (ys.take k)]
  inn : c.2.2.1 = f (decide (0 < cnt 0 (fun _=>true) (ys.take k))) (decide (0 < cnt 1 (fun _=>true) (ys.take k)))
  lst : ∀ (h : k - 1 < ys.length),0 < k→c.2.1 = ys[k - 1].at_
  can : Can c.2.2.2
  his : ∀ t∈c.2.2.2,t.Hi≤c.2.1
  zro : k = 0→c.2.2.2 = []
  pts : ∀ x,has c.2.2.2 x↔0 < k∧x < c.2.1∧f (decide (has p x)) (decide (has q x)) = true
  len : c.2.2.2.length≤k
theorem qhy (c : List qp) (a b : Int) : (addS c a b).length≤c.length + 1:=by
  rcases qc2 c with rfl | ⟨d,t,rfl⟩
  · simp [qhz]
  · by_cases h : t.Hi = a
    · subst h;rw [q8n];simp
    · rw [q8o h];simp
theorem qiv {p q : List qp} {ys : List qr} (hp : ∀ t∈p,vld t) (f : ∀ t∈q,vld t) (b : ys.Perm (evs p 0 ++ evs q 1)) (_ : ys.Pairwise (fun x y=>x.at_≤y.at_)) (k : Nat) (x : Int)
    (g : ∀ i (h : i < ys.length),i < k→ys[i].at_≤x) (d : ∀ i (h : i < ys.length),k≤i→x < ys[i].at_) :
    (0 < cnt 0 (fun _=>true) (ys.take k)↔has p x)∧(0 < cnt 1 (fun _=>true) (ys.take k)↔has q x):=by
  have key : ∀ l,cnt l (fun _=>true) (ys.take k) = cnt l (fun a=>decide (a≤x)) (evs p 0) + cnt l (fun a=>decide (a≤x)) (evs q 1):=by
    intro l;rw [← q2t,← qiz b]
    conv=>rhs;rw [← List.take_append_drop k ys]
    rw [q2t]
    have n : cnt l (fun a=>decide (a≤x)) (ys.drop k) = 0:=by
      refine qiy fun e c=>?_;obtain ⟨i,hi,rfl⟩:=List.mem_iff_getElem.1 c;rw [List.getElem_drop];rw [List.length_drop] at hi;have:=d (k + i) q6 q6;exact Qe q6
    have o : cnt l (fun a=>decide (a≤x)) (ys.take k) = cnt l (fun _=>true) (ys.take k):=by
      refine qiw fun e c=>?_;obtain ⟨i,hi,rfl⟩:=List.mem_iff_getElem.1 c;rw [List.getElem_take];rw [List.length_take] at hi;exact Qc (g i q6 q6)
    rw [n,o];omega
  rw [key 0,key 1,q8v (l:=0) (l':=1) Q1,q8v (l:=1) (l':=0) Q1];have m:=qix (l:=0) hp x;have j:=qix (l:=1) f x;rw [Int.add_zero,Int.zero_add];exact ⟨m.2,j.2⟩
open Classical in
theorem qsy (f : Bool→Bool→Bool) (hf : f false false = false) (p2 : Bool→Bool→Option Bool) (hp2 : ∀ a b,p2 a b = some (f a b)) (p q : List qp)
    (hp : p.length≤500) (hq : q.length≤500) (vp : ∀ t∈p,vld t) (vq : ∀ t∈q,vld t) :
    ∃ out,q8i p q p2 = some out∧Can out∧∀ x,has out x↔f (decide (has p x)) (decide (has q x)) = true:=by
  obtain ⟨ys,e1,g,hs⟩:=q13j p q hp hq vp vq;have bf : ys.length≤2000:=by rw [g.length_eq,List.length_append,q96,q96];omega
  have w : ∀ i j (hi : i < ys.length) (hj : j < ys.length),i≤j→ys[i].at_≤ys[j].at_:=by
    intro i j hi hj bo;rcases Nat.lt_or_ge i j with h | h
    · exact List.pairwise_iff_getElem.1 hs i j hi hj h
    · obtain rfl : i = j:=by omega
      exact Int.le_refl _
  have y : ∀ e∈ys,(e.list_ = 0∨e.list_ = 1)∧(e.by_ = 1∨e.by_ = -1):=by
    intro e he;rcases List.mem_append.1 (g.mem_iff.1 he) with h | h
    · obtain ⟨a,b,_⟩:=qdl h;exact ⟨.inl a,b⟩
    · obtain ⟨a,b,_⟩:=qdl h;exact ⟨.inr a,b⟩
  have:=J4 (f:=q5g ([p,q],ys) p2) (σ:=List Int × Int × Bool × List qp) (fun k c=>((k : Int),c)) ys.length (qp4 f p q ys) (fun out=>Can out∧∀ x,has out x↔f (decide (has p x)) (decide (has q x)) = true) ?_ ?_ (k0:=0) (c0:=([0,0],0,false,[])) q6 ?_
  · obtain ⟨out,r,m⟩:=this;refine ⟨out,?_,m⟩;unfold q8i;have r : loop (q5g ([p,q],ys) p2) (0,[0,0],0,false,[]) = some out:=r;rw [e1];simp only [qj,r];rfl
  · rintro k ⟨opn,d,inn,out⟩ hk ⟨s1,s2,s3,s4,s5,s6,s7,s8⟩;simp only at s1 s2 s3 s4 s5 s6 s7 s8;have ae : decide ((k : Int) < (ys.length : Int)) = true:=Qc q6;have be:=qqx ys[k].at_ d inn out q6;have hm:=y ys[k] (Kc hk);have bc : ys.take (k + 1) = ys.take k ++ [ys[k]]:=List.take_succ_eq_append_getElem hk;have ak : ∀ e∈ys.take k,e.by_ = 1∨e.by_ = -1:=fun e he=>(y e (List.mem_of_mem_take he)).2;have b0:=qfb (l:=0) (c:=fun _=>true) ak;have b1:=qfb (l:=1) (c:=fun _=>true) ak;have au : (ys.take k).length = k:=by rw [List.length_take];omega
    rw [au] at b0 b1
    have ad : ∃ v,idxA 2 opn ys[k].list_ = some v∧opn.set ys[k].list_.toNat (w64 (v + ys[k].by_)) = [cnt 0 (fun _=>true) (ys.take (k + 1)),cnt 1 (fun _=>true) (ys.take (k + 1))]:=by
      subst s1;rw [bc,q2t,q2t];rcases hm.1 with h | h
      · refine ⟨cnt 0 (fun _=>true) (ys.take k),by rw [h];rfl,?_⟩;rw [h,Ql q6];simp [cnt,h]
      · refine ⟨cnt 1 (fun _=>true) (ys.take k),by rw [h];rfl,?_⟩;rw [h,Ql q6];simp [cnt,h]
    obtain ⟨v,o1,o2⟩:=ad;refine .inl ⟨([cnt 0 (fun _=>true) (ys.take (k + 1)),cnt 1 (fun _=>true) (ys.take (k + 1))],ys[k].at_,f (decide (0 < cnt 0 (fun _=>true) (ys.take (k + 1)))) (decide (0 < cnt 1 (fun _=>true) (ys.take (k + 1)))),if inn = true∧d≠ys[k].at_ then addS out d ys[k].at_ else out),?_,?_⟩
    · have x0 : ∀ a b : Int,idxA 2 [a,b] 0 = some a:=fun a b=>rfl;have x1 : ∀ a b : Int,idxA 2 [a,b] 1 = some b:=fun a b=>rfl;simp only [q5g,ae,qz,Qq hk,qj,be,o1,o2,x0,x1,hp2];rw [Ql q6];rfl
    · have ac : ∀ x,(0 < k→d≤x)→∀ i (h : i < ys.length),i < k→ys[i].at_≤x:=by
        intro x o i hi ao;have:=s3 q6 q6;have:=w i (k - 1) hi q6 q6;have:=o q6;omega
      have ab : ∀ x,x < ys[k].at_→∀ i (h : i < ys.length),k≤i→x < ys[i].at_:=by
        intro x o i hi ao;have:=w k i hk hi ao;omega
      have hF : ∀ x,(0 < k→d≤x)→x < ys[k].at_→f (decide (has p x)) (decide (has q x)) = inn:=by
        intro x o ar;obtain ⟨c1,c2⟩:=qiv vp vq g hs k x (ac x o) (ab x ar);rw [s2,decide_eq_decide.2 c1,decide_eq_decide.2 c2]
      have n : 0 < k→d≤ys[k].at_:=by
        intro u;rw [s3 q6 u];exact w (k - 1) k q6 hk q6
      have z : k = 0→inn = false:=by
        intro u;subst u;rw [s2];exact hf
      by_cases s : inn = true∧d≠ys[k].at_
      · have aj : 0 < k:=by
          rcases Nat.eq_zero_or_pos k with h | h
          · rw [z h] at s;cases s.1
          · exact h
        have hl:=n aj;have bb : d < ys[k].at_:=by have:=s.2;omega
        obtain ⟨d1,d2,d3,d4⟩:=qeq s4 s5 bb;constructor
        · rfl
        · rfl
        · intro h _;rfl
        · simp only [qy s];exact d1
        · simp only [qy s];exact d3
        · omega
        · intro x;simp only [qy s];rw [d2,s7];constructor
          · rintro (⟨u,r,m⟩ | ⟨r,m⟩)
            · exact ⟨q6,q6,m⟩
            · exact ⟨q6,m,by rw [hF x (fun _=>r) m];exact s.1⟩
          · rintro ⟨u,r,m⟩;by_cases o : x < d
            · exact .inl ⟨aj,o,m⟩
            · exact .inr ⟨q6,r⟩
        · simp only [qy s];have:=qhy out d ys[k].at_;omega
      · constructor
        · rfl
        · rfl
        · intro h _;rfl
        · simp only [Q3 s];exact s4
        · simp only [Q3 s];intro t ht;rcases Nat.eq_zero_or_pos k with h | h
          · rw [s6 h] at ht;cases ht
          · have:=s5 t ht;have:=n h;omega
        · omega
        · intro x;simp only [Q3 s];rw [s7];constructor
          · rintro ⟨u,r,m⟩;exact ⟨q6,by have:=n u;omega,m⟩
          · rintro ⟨u,r,m⟩;by_cases o : 0 < k∧x < d
            · exact ⟨o.1,o.2,m⟩
            · have al : 0 < k→d≤x:=fun h=>by
                refine Int.not_lt.1 fun h'=>o ⟨h,h'⟩
              have:=hF x al r;rw [this] at m;refine absurd ⟨m,?_⟩ s;intro e;rcases Nat.eq_zero_or_pos k with h | h
              · rw [z h] at m;cases m
              · have:=al h;omega
        · simp only [Q3 s];omega
  · rintro ⟨opn,d,inn,out⟩ ⟨s1,s2,s3,s4,s5,s6,s7,s8⟩;simp only at s1 s2 s3 s4 s5 s6 s7 s8;have ae : decide ((ys.length : Int) < (ys.length : Int)) = false:=Qe q6;refine ⟨out,by simp only [q5g,ae,qx],s4,fun x=>?_⟩;rw [s7];constructor
    · rintro ⟨_,_,h⟩;exact h
    · intro h;by_cases o : 0 < ys.length∧x < d
      · exact ⟨o.1,o.2,h⟩
      · obtain ⟨c1, c2⟩ := qiv vp vq g hs ys.length x (fun i hi _ => by
            have:=s3 q6 q6;have:=w i (ys.length - 1) hi q6 q6;have : d≤x:=Int.not_lt.1 fun h'=>o ⟨q6,h'⟩
            omega) (fun i hi bk=>q6)
        have ay : ∀ l,cnt l (fun _=>true) (ys.take ys.length) = 0:=by
          intro l;rw [List.take_length,qiz g,q2t];by_cases u : l = 0
          · subst u;rw [qj0,q8v Q1];rfl
          · rw [q8v u];by_cases r : l = 1
            · subst r;rw [qj0];rfl
            · rw [q8v r];rfl
        rw [ay] at c1 c2;have n1 : ¬ has p x:=fun h=>absurd (c1.2 h) Q1;have n2 : ¬ has q x:=fun h=>absurd (c2.2 h) Q1;rw [Qe n1,Qe n2,hf] at h;cases h
  · constructor
    · simp [cnt]
    · simp [cnt,hf]
    · intro h u;omega
    · exact ⟨fun t ht=>(by cases ht),.nil⟩
    · intro t ht;cases ht
    · intro _;rfl
    · intro x;simp [has]
    · simp
end Go.Sh
namespace Go.Sh
open Go Go.Am
instance : Inhabited qq:=⟨⟨0,0,0⟩⟩
theorem qwd (q : qq→qq→Option Int) (xs : List qq) : q7a q xs = Us q xs:=by rw [qu2]
def vlo (t : qp) : Prop:=t.Lo < t.Hi∧-3000000≤t.Lo∧t.Hi≤3000000
def evo (s : List qp) (l : Int) : List qq:=s.flatMap fun t=>[{at_:=t.Lo,kind_:=l,by_:=1},{at_:=t.Hi,kind_:=l,by_:=-1}]
theorem qd5 (s : List qp) (l : Int) : (evo s l).length = 2 * s.length:=by
  induction s with
  | nil=>rfl
  | cons t s ih=>simp only [evo,List.flatMap_cons,List.length_append,List.length_cons,List.length_nil] at ih ⊢;omega
theorem qdk {s : List qp} {l : Int} {e : qq} (h : e∈evo s l) : e.kind_ = l∧(e.by_ = 1∨e.by_ = -1)∧∃ t∈s,e.at_ = t.Lo∨e.at_ = t.Hi:=by
  simp only [evo,List.mem_flatMap] at h;obtain ⟨t,a,h⟩:=h;simp only [List.mem_cons,List.not_mem_nil,or_false] at h;rcases h with rfl | rfl
  · exact ⟨rfl,.inl rfl,t,a,.inl rfl⟩
  · exact ⟨rfl,.inr rfl,t,a,.inr rfl⟩
def ltO (a b : qq) : Bool:=decide (a.at_ < b.at_)
def inO (e : qq) : Prop:=-3000000≤e.at_∧e.at_≤3000000
theorem swoO : Sort.SWO ltO where
  irrefl:=by intro x;simp [ltO]
  trans:=by intro x y z;simp only [ltO,decide_eq_true_eq];omega
  ntrans:=by intro x y z;simp only [ltO,decide_eq_false_iff_not];omega
theorem cmpO : Kv (fun a b=>q9l a b) ltO inO:=by
  rintro x y ⟨c,f⟩ ⟨d,g⟩;refine ⟨x.at_ - y.at_,?_,?_⟩
  · show some (w64 (x.at_ - y.at_)) = _;rw [Ql q6]
  · unfold ltO;exact decide_eq_decide.2 q6
def cno (l : Int) (c : Int→Bool) : List qq→Int
  | []=>0
  | e::es=>(if e.kind_ = l∧c e.at_ = true then e.by_ else 0) + cno l c es
theorem q1i (l : Int) (c : Int→Bool) (a b : List qq) : cno l c (a ++ b) = cno l c a + cno l c b:=by
  induction a with
  | nil=>simp [cno]
  | cons e a ih=>simp only [List.cons_append,cno,ih];omega
theorem qfa {l : Int} {c : Int→Bool} {a b : List qq} (h : a.Perm b) : cno l c a = cno l c b:=by
  induction h with
  | nil=>rfl
  | cons x _ ih=>simp only [cno,ih]
  | swap x y l=>simp only [cno];omega
  | trans _ _ ih1 ih2=>rw [ih1,ih2]
theorem qf7 {l : Int} {c b : Int→Bool} : ∀ {a : List qq},(∀ e∈a,c e.at_ = b e.at_)→cno l c a = cno l b a
  | [],_=>rfl
  | e::a,h=>by simp only [cno,h e qe,qf7 (fun e d=>h e (List.mem_cons_of_mem _ d))]
theorem qf9 {l : Int} {c : Int→Bool} : ∀ {a : List qq},(∀ e∈a,c e.at_ = false)→cno l c a = 0
  | [],_=>rfl
  | e::a,h=>by
    simp only [cno,qf9 (fun e b=>h e (List.mem_cons_of_mem _ b)),h e qe]
    simp
theorem q5o {s : List qp} {l l' : Int} {c : Int→Bool} (h : l≠l') : cno l c (evo s l') = 0:=by
  induction s with
  | nil=>rfl
  | cons t s ih=>
    have : evo (t::s) l' = [{at_:=t.Lo,kind_:=l',by_:=1},{at_:=t.Hi,kind_:=l',by_:=-1}] ++ evo s l':=rfl;rw [this,q1i,ih];have a : ¬ l' = l:=fun e=>h e.symm;simp [cno,a]
theorem qf8 {s : List qp} {l : Int} (v : ∀ t∈s,vlo t) (x : Int) : 0≤cno l (fun a=>decide (a≤x)) (evo s l)∧(0 < cno l (fun a=>decide (a≤x)) (evo s l)↔has s x):=by
  induction s with
  | nil=>exact ⟨Int.le_refl 0,by simp [evo,cno,has]⟩
  | cons t s ih=>
    obtain ⟨f,c⟩:=ih (fun t d=>v t (List.mem_cons_of_mem _ d));have b:=v t qe;have : evo (t::s) l = [{at_:=t.Lo,kind_:=l,by_:=1},{at_:=t.Hi,kind_:=l,by_:=-1}] ++ evo s l:=rfl;rw [this,q1i,Zi,← c];obtain ⟨j,h,g⟩:=b;simp only [cno,true_and,decide_eq_true_eq];split <;> split <;> omega
theorem qit {s : List qp} {l : Int} : cno l (fun _=>true) (evo s l) = 0:=by
  induction s with
  | nil=>rfl
  | cons t s ih=>
    have : evo (t::s) l = [{at_:=t.Lo,kind_:=l,by_:=1},{at_:=t.Hi,kind_:=l,by_:=-1}] ++ evo s l:=rfl;rw [this,q1i,ih];simp [cno]
theorem qf6 {l : Int} {c : Int→Bool} : ∀ {a : List qq},(∀ e∈a,e.by_ = 1∨e.by_ = -1)→-(a.length : Int)≤cno l c a∧cno l c a≤(a.length : Int)
  | [],_=>by simp [cno]
  | e::a,h=>by
    obtain ⟨d,f⟩:=qf6 (l:=l) (c:=c) (fun e b=>h e (List.mem_cons_of_mem _ b))
    have:=h e qe
    simp only [cno,List.length_cons]
    split <;> omega
theorem qis {p q : List qp} {ys : List qq} (hp : ∀ t∈p,vlo t) (f : ∀ t∈q,vlo t) (b : ys.Perm (evo p 0 ++ evo q 1)) (_ : ys.Pairwise (fun x y=>x.at_≤y.at_)) (k : Nat) (x : Int)
    (g : ∀ i (h : i < ys.length),i < k→ys[i].at_≤x) (d : ∀ i (h : i < ys.length),k≤i→x < ys[i].at_) :
    (0 < cno 0 (fun _=>true) (ys.take k)↔has p x)∧(0 < cno 1 (fun _=>true) (ys.take k)↔has q x):=by
  have key : ∀ l,cno l (fun _=>true) (ys.take k) = cno l (fun a=>decide (a≤x)) (evo p 0) + cno l (fun a=>decide (a≤x)) (evo q 1):=by
    intro l;rw [← q1i,← qfa b]
    conv=>rhs;rw [← List.take_append_drop k ys]
    rw [q1i]
    have n : cno l (fun a=>decide (a≤x)) (ys.drop k) = 0:=by
      refine qf9 fun e c=>?_;obtain ⟨i,hi,rfl⟩:=List.mem_iff_getElem.1 c;rw [List.getElem_drop];rw [List.length_drop] at hi;have:=d (k + i) q6 q6;exact Qe q6
    have o : cno l (fun a=>decide (a≤x)) (ys.take k) = cno l (fun _=>true) (ys.take k):=by
      refine qf7 fun e c=>?_;obtain ⟨i,hi,rfl⟩:=List.mem_iff_getElem.1 c;rw [List.getElem_take];rw [List.length_take] at hi;exact Qc (g i q6 q6)
    rw [n,o];omega
  rw [key 0,key 1,q5o (l:=0) (l':=1) Q1,q5o (l:=1) (l':=0) Q1];have m:=qf8 (l:=0) hp x;have j:=qf8 (l:=1) f x;rw [Int.add_zero,Int.zero_add];exact ⟨m.2,j.2⟩
theorem qu0 (at_ a : Int) (inn : Bool) (out : List qp) (h : out.length≤10000) :
    ((cond inn (some (decide (at_ > a))) (some false)).bind fun j=>(cond j ((cond (decide ((out.length : Int) > 0)) ((idx out (w64 ((out.length : Int) - 1))).bind fun b=>some (b.Hi == a)) (some false)).bind fun c=>cond c ((idx out (w64 ((out.length : Int) - 1))).bind fun g=>some (out.set (w64 ((out.length : Int) - 1)).toNat ({Lo:=g.Lo,Hi:=at_} : qp))) ((app 16 out [({Lo:=a,Hi:=at_} : qp)]).bind fun f=>some f)) (some out))) =
      some (if inn = true∧a < at_ then addS out a at_ else out):=by
  cases inn with
  | false=>rfl
  | true=>
    by_cases k : a < at_
    · rw [qy ⟨rfl,k⟩];rw [qz,qj,Qc (show at_ > a from k),qz];rcases qc2 out with rfl | ⟨d,t,rfl⟩
      · rfl
      · have q : (d ++ [t]).length = d.length + 1:=by simp
        have o : decide (((d ++ [t]).length : Int) > 0) = true:=Qc q6;have n : w64 (((d ++ [t]).length : Int) - 1) = (d.length : Int):=by rw [Ql q6];omega
        have p : idx (d ++ [t]) (d.length : Int) = some t:=by
          rw [Qq q6];simp
        simp only [o,qz,n,p,qj];by_cases l : t.Hi = a
        · subst l;simp only [beq_self_eq_true,qz,q8n,Int.toNat_natCast,qgy]
        · have m : (t.Hi == a) = false:=by simpa using l
          simp only [m,qx,q8o l];rw [Ke (by simp;omega)];rfl
    · rw [Q3 (fun h=>k h.2),qz,qj,Qe (show ¬ at_ > a from k),qx]
structure qp5 (p q : List qp) (ys : List qq) (k : Nat) (c : Int × Bool × List Int × List qp) : Prop where
  opn : c.2.2.1 = [cno 0 (fun _=>true) (ys.take k),cno 1 (fun _=>true) (ys.take k)]
  inn : c.2.1 = (decide (0 < cno 0 (fun _=>true) (ys.take k)) && decide (cno 1 (fun _=>true) (ys.take k) = 0))
  lst : ∀ (h : k - 1 < ys.length),0 < k→c.1 = ys[k - 1].at_
  can : Can c.2.2.2
  his : ∀ t∈c.2.2.2,t.Hi≤c.1
  zro : k = 0→c.2.2.2 = []
  pts : ∀ x,has c.2.2.2 x↔0 < k∧x < c.1∧has p x∧¬ has q x
  len : c.2.2.2.length≤k
theorem qqy {p q : List qp} {ys : List qq} (hp : ∀ t∈p,vlo t) (f : ∀ t∈q,vlo t) (b : ys.Perm (evo p 0 ++ evo q 1)) (k : Nat) (x : Int)
    (m : ∀ i (h : i < ys.length),i < k→ys[i].at_≤x) (d : ∀ i (h : i < ys.length),k≤i→x < ys[i].at_) : 0≤cno 1 (fun _=>true) (ys.take k):=by
  have key : ∀ l,cno l (fun _=>true) (ys.take k) = cno l (fun a=>decide (a≤x)) (evo p 0) + cno l (fun a=>decide (a≤x)) (evo q 1):=by
    intro l;rw [← q1i,← qfa b]
    conv=>rhs;rw [← List.take_append_drop k ys]
    rw [q1i]
    have g : cno l (fun a=>decide (a≤x)) (ys.drop k) = 0:=by
      refine qf9 fun e c=>?_;obtain ⟨i,hi,rfl⟩:=List.mem_iff_getElem.1 c;rw [List.getElem_drop];rw [List.length_drop] at hi;have:=d (k + i) q6 q6;exact Qe q6
    have j : cno l (fun a=>decide (a≤x)) (ys.take k) = cno l (fun _=>true) (ys.take k):=by
      refine qf7 fun e c=>?_;obtain ⟨i,hi,rfl⟩:=List.mem_iff_getElem.1 c;rw [List.getElem_take];rw [List.length_take] at hi;exact Qc (m i q6 q6)
    rw [g,j];omega
  rw [key 1,q5o (l:=1) (l':=0) Q1];have n:=qf8 (l:=1) f x;omega
theorem qwe {p q : List qp} (hp : p.length≤500) (hq : q.length≤500) (vp : ∀ t∈p,vlo t) (vq : ∀ t∈q,vlo t) :
    ∃ ys out,q65 (evo p 0 ++ evo q 1) = some (ys,out)∧Can out∧(∀ x,has out x↔has p x∧¬ has q x)∧out.length≤2 * (p.length + q.length):=by
  have l1:=qd5 p 0;have l2:=qd5 q 1
  have hP : ∀ x∈evo p 0 ++ evo q 1,inO x:=by
    intro x m;rcases List.mem_append.1 m with h | h
    · obtain ⟨_,_,t,u,h⟩:=qdk h;obtain ⟨a,b,c⟩:=vp t u;unfold inO;rcases h with h | h <;> omega
    · obtain ⟨_,_,t,u,h⟩:=qdk h;obtain ⟨a,b,c⟩:=vq t u;unfold inO;rcases h with h | h <;> omega
  obtain ⟨ys,e1,g,h3⟩:=qhg cmpO swoO (evo p 0 ++ evo q 1) (by rw [List.length_append];omega) hP;have hs : ys.Pairwise (fun x y=>x.at_≤y.at_):=h3.imp (fun {x y} h=>by simp only [ltO,decide_eq_false_iff_not] at h;omega);have aa : ys.length = (evo p 0 ++ evo q 1).length:=g.length_eq;have bg : ys.length = 2 * p.length + 2 * q.length:=by rw [aa,List.length_append];omega
  have ac : ∀ i j (hi : i < ys.length) (hj : j < ys.length),i≤j→ys[i].at_≤ys[j].at_:=by
    intro i j hi hj br;rcases Nat.lt_or_ge i j with h | h
    · exact List.pairwise_iff_getElem.1 hs i j hi hj h
    · obtain rfl : i = j:=by omega
      exact Int.le_refl _
  have ad : ∀ e∈ys,(e.kind_ = 0∨e.kind_ = 1)∧(e.by_ = 1∨e.by_ = -1):=by
    intro e he;rcases List.mem_append.1 (g.mem_iff.1 he) with h | h
    · obtain ⟨a,b,_⟩:=qdk h;exact ⟨.inl a,b⟩
    · obtain ⟨a,b,_⟩:=qdk h;exact ⟨.inr a,b⟩
  have:=J4 (f:=q4d (evo p 0 ++ evo q 1) ys) (σ:=Int × Bool × List Int × List qp) (fun k c=>(c.1,c.2.1,(k : Int),c.2.2.1,c.2.2.2)) ys.length (qp5 p q ys) (fun out=>Can out∧(∀ x,has out x↔has p x∧¬ has q x)∧out.length≤2 * (p.length + q.length)) ?_ ?_ (k0:=0) (c0:=(0,false,[0,0],[])) q6 ?_
  · obtain ⟨out,o,n⟩:=this;refine ⟨ys,out,?_,n⟩;unfold q65;have o : loop (q4d (evo p 0 ++ evo q 1) ys) (0,false,0,[0,0],[]) = some out:=o;have le : K1 ys.length (evo p 0 ++ evo q 1).length = some ():=by unfold K1;rw [qy aa]
    simp only [qwd,e1,qj,le,o]
  · rintro k ⟨d,inn,opn,out⟩ hk ⟨s1,s2,s3,s4,s5,s6,s7,s8⟩;simp only at s1 s2 s3 s4 s5 s6 s7 s8;have ag : decide ((k : Int) < ((evo p 0 ++ evo q 1).length : Int)) = true:=Qc q6;have bf:=qu0 ys[k].at_ d inn out q6;have hm:=ad ys[k] (Kc hk);have be : ys.take (k + 1) = ys.take k ++ [ys[k]]:=List.take_succ_eq_append_getElem hk;have am : ∀ e∈ys.take k,e.by_ = 1∨e.by_ = -1:=fun e he=>(ad e (List.mem_of_mem_take he)).2;have b0:=qf6 (l:=0) (c:=fun _=>true) am;have b1:=qf6 (l:=1) (c:=fun _=>true) am;have ax : (ys.take k).length = k:=by rw [List.length_take];omega
    rw [ax] at b0 b1
    have af : ∃ v,idxA 2 opn ys[k].kind_ = some v∧opn.set ys[k].kind_.toNat (w64 (v + ys[k].by_)) = [cno 0 (fun _=>true) (ys.take (k + 1)),cno 1 (fun _=>true) (ys.take (k + 1))]:=by
      subst s1;rw [be,q1i,q1i];rcases hm.1 with h | h
      · refine ⟨cno 0 (fun _=>true) (ys.take k),by rw [h];rfl,?_⟩;rw [h,Ql q6];simp [cno,h]
      · refine ⟨cno 1 (fun _=>true) (ys.take k),by rw [h];rfl,?_⟩;rw [h,Ql q6];simp [cno,h]
    obtain ⟨v,o1,o2⟩:=af;refine .inl ⟨(ys[k].at_,(decide (0 < cno 0 (fun _=>true) (ys.take (k + 1))) && decide (cno 1 (fun _=>true) (ys.take (k + 1)) = 0)),[cno 0 (fun _=>true) (ys.take (k + 1)),cno 1 (fun _=>true) (ys.take (k + 1))],if inn = true∧d < ys[k].at_ then addS out d ys[k].at_ else out),?_,?_⟩
    · have x0 : ∀ a b : Int,idxA 2 [a,b] 0 = some a:=fun a b=>rfl;have x1 : ∀ a b : Int,idxA 2 [a,b] 1 = some b:=fun a b=>rfl;have hi : idx ys (k : Int) = some ys[k]:=Qq hk
      have hz : ∀ a b : Int,(cond (decide (a > 0)) (some (b == 0)) (some false)) = some (decide (0 < a) && decide (b = 0)):=by
        intro a b;by_cases h : 0 < a
        · rw [Qc (show a > 0 from h),qz,Bool.true_and];rfl
        · rw [Qe (show ¬ a > 0 from h),qx,Bool.false_and]
      unfold q4d;simp only [ag,qz,hi,qj];rw [← Option.bind_assoc,bf];simp only [qj,o1,o2,x0,x1,hz];rw [Ql q6];rfl
    · have z : ∀ x,(0 < k→d≤x)→∀ i (h : i < ys.length),i < k→ys[i].at_≤x:=by
        intro x m i hi aq;have:=s3 q6 q6;have:=ac i (k - 1) hi q6 q6;have:=m q6;omega
      have w : ∀ x,x < ys[k].at_→∀ i (h : i < ys.length),k≤i→x < ys[i].at_:=by
        intro x m i hi aq;have:=ac k i hk hi aq;omega
      have hF : ∀ x,(0 < k→d≤x)→x < ys[k].at_→((has p x∧¬ has q x)↔inn = true):=by
        intro x m ak;obtain ⟨c1,c2⟩:=qis vp vq g hs k x (z x m) (w x ak);have c3:=qqy vp vq g k x (z x m) (w x ak);rw [s2,Bool.and_eq_true,decide_eq_true_eq,decide_eq_true_eq,c1,← c2];exact ⟨fun ⟨a,b⟩=>⟨a,q6⟩,fun ⟨a,b⟩=>⟨a,q6⟩⟩
      have ab : 0 < k→d≤ys[k].at_:=by
        intro s;rw [s3 q6 s];exact ac (k - 1) k q6 hk q6
      have ae : k = 0→inn = false:=by
        intro s;subst s;rw [s2];rfl
      by_cases r : inn = true∧d < ys[k].at_
      · have ay : 0 < k:=by
          rcases Nat.eq_zero_or_pos k with h | h
          · rw [ae h] at r;cases r.1
          · exact h
        have bd:=r.2;obtain ⟨d1,d2,d3,d4⟩:=qeq s4 s5 bd;constructor
        · rfl
        · rfl
        · intro h _;rfl
        · simp only [qy r];exact d1
        · simp only [qy r];exact d3
        · omega
        · intro x;simp only [qy r];rw [d2,s7];constructor
          · rintro (⟨s,o,n⟩ | ⟨o,n⟩)
            · exact ⟨q6,q6,n⟩
            · exact ⟨q6,n,(hF x (fun _=>o) n).2 r.1⟩
          · rintro ⟨s,o,n⟩;by_cases m : x < d
            · exact .inl ⟨ay,m,n⟩
            · exact .inr ⟨q6,o⟩
        · simp only [qy r];have:=qhy out d ys[k].at_;omega
      · constructor
        · rfl
        · rfl
        · intro h _;rfl
        · simp only [Q3 r];exact s4
        · simp only [Q3 r];intro t u;rcases Nat.eq_zero_or_pos k with h | h
          · rw [s6 h] at u;cases u
          · have:=s5 t u;have:=ab h;omega
        · omega
        · intro x;simp only [Q3 r];rw [s7];constructor
          · rintro ⟨s,o,n⟩;exact ⟨q6,by have:=ab s;omega,n⟩
          · rintro ⟨s,o,n⟩;by_cases m : 0 < k∧x < d
            · exact ⟨m.1,m.2,n⟩
            · have an : 0 < k→d≤x:=fun h=>by
                refine Int.not_lt.1 fun h'=>m ⟨h,h'⟩
              have n:=(hF x an o).1 n;refine absurd ⟨n,?_⟩ r;rcases Nat.eq_zero_or_pos k with h | h
              · rw [ae h] at n;cases n
              · have:=an h;omega
        · simp only [Q3 r];omega
  · rintro ⟨d,inn,opn,out⟩ ⟨s1,s2,s3,s4,s5,s6,s7,s8⟩;simp only at s1 s2 s3 s4 s5 s6 s7 s8;have ag : decide ((ys.length : Int) < ((evo p 0 ++ evo q 1).length : Int)) = false:=Qe q6;refine ⟨out,by simp only [q4d,ag,qx],s4,fun x=>?_,q6⟩;rw [s7];constructor
    · rintro ⟨_,_,h⟩;exact h
    · intro h;by_cases m : 0 < ys.length∧x < d
      · exact ⟨m.1,m.2,h⟩
      · obtain ⟨c1, c2⟩ := qis vp vq g hs ys.length x (fun i hi _ => by
            have:=s3 q6 q6;have:=ac i (ys.length - 1) hi q6 q6;have : d≤x:=Int.not_lt.1 fun h'=>m ⟨q6,h'⟩
            omega) (fun i hi bl=>q6)
        have ba : ∀ l,cno l (fun _=>true) (ys.take ys.length) = 0:=by
          intro l;rw [List.take_length,qfa g,q1i];by_cases s : l = 0
          · subst s;rw [qit,q5o Q1];rfl
          · rw [q5o s];by_cases o : l = 1
            · subst o;rw [qit];rfl
            · rw [q5o o];rfl
        rw [ba] at c1 c2;exact absurd (c1.2 h.1) Q1
  · constructor
    · simp [cno]
    · simp [cno]
    · intro h s;omega
    · exact ⟨fun t u=>(by cases u),.nil⟩
    · intro t u;cases u
    · intro _;rfl
    · intro x;simp [has]
    · simp
end Go.Sh
namespace Go.Sh
open Go Go.Am
theorem qqt {s : List qp} (h : q1h s = 0) : s.length≤400∧Good s:=by
  unfold q1h at h;split at h
  · cases h
  · split at h
    · rename_i b a;exact ⟨q6,a⟩
    · cases h
def dst (x : Int) (t : qp) : Int:=max (max (t.Lo - x) (x - t.Hi + 1)) 0
end Go.Sh
namespace Go.Sh
open Go Go.Am
noncomputable def q2f (kind : Int) (p q : List qp) : List qp:=(qdt kind p q).getD []
theorem q2x (kind : Int) (p q : List qp) (hp : p.length≤100000) (b : q.length≤100000) : qdt kind p q = some (q2f kind p q)∧qep kind p q (q2f kind p q):=by
  obtain ⟨out,a,c⟩:=qt5 kind p q hp b;unfold q2f;rw [a];exact ⟨rfl,c⟩
theorem qst (s : List qp) (b : qp→Option Bool) (c : qp→Bool) (h : ∀ t,b t = some (c t)) (q : s.length≤1000000) :
    ∃ r,qal s b = some r∧decide (r ≥ 0) = s.any c:=by
  have:=J4 (f:=q3k s b) (σ:=Unit) (fun k _=>(k : Int)) s.length (fun k _=>∀ i (h : i < s.length),i < k→c s[i] = false)
    (fun m=>∃ r : Int,(match m with | .inl b22=>some (-1) | .inr x1=>some x1) = some r∧decide (r ≥ 0) = s.any c) ?_ ?_ (k0:=0) (c0:=()) q6 (fun i _ hi=>q6)
  · obtain ⟨m,j,r,l,o⟩:=this;have j : loop (q3k s b) 0 = some m:=j;exact ⟨r,by unfold qal;rw [j];exact l,o⟩
  · rintro k _ g hi;have hb : decide ((k : Int) < (s.length : Int)) = true:=Qc q6
    cases d : c s[k] with
    | true=>
      refine .inr ⟨.inr (k : Int),?_,(k : Int),rfl,?_⟩
      · simp only [q3k,hb,qz,Qq g,qj,h,d]
      · have : s.any c = true:=List.any_eq_true.2 ⟨s[k],Kc g,d⟩;rw [this];exact Qc q6
    | false=>
      refine .inl ⟨(),?_,?_⟩
      · simp only [q3k,hb,qz,Qq g,qj,h,d,qx];rw [Ql q6];rfl
      · intro i a p;by_cases e : i = k
        · subst e;exact d
        · exact hi i a q6
  · rintro _ hi;have hb : decide ((s.length : Int) < (s.length : Int)) = false:=Qe q6;refine ⟨.inl (),by simp only [q3k,hb,qx],-1,rfl,?_⟩
    have : s.any c = false:=by
      rw [List.any_eq_false];intro t n;obtain ⟨i,a,rfl⟩:=List.mem_iff_getElem.1 n;simp [hi i a a]
    rw [this];rfl
theorem qr8 (s : List qp) (a : qp→Option Bool) (c : qp→Bool) (h : ∀ t,a t = some (c t)) (b : s.length≤1000000) : qak s a = some (s.any c):=by
  obtain ⟨r,f,d⟩:=qst s a c h b;unfold qak;rw [f,qj,d]
open Classical in
noncomputable def qdh (s : List qp) : List qp × Int:=if 400 < s.length then ([],4) else if ∀ t∈s,vld t then (q2f 2 s [],0) else ([],8)
theorem qti (s : List qp) (k : s.length≤400) (c : ∀ t∈s,vld t) (p2 : Bool→Bool→Option Bool) (hp2 : ∀ a b,p2 a b = some a) : q8i s [] p2 = some (q2f 2 s []):=by
  classical
  obtain ⟨out,f,d,h⟩:=qsy (fun a _=>a) rfl p2 hp2 s [] q6 qe c (fun t g=>by cases g);obtain ⟨_,j⟩:=q2x 2 s [] q6 qe;rw [f];congr 1;refine q29 d j.can fun x=>?_;rw [h,j.pts];simp [Ky,q1u]
theorem qle (s : List qp) : q3o s = some (qdh s):=by
  classical
  unfold q3o qdh;by_cases f : 400 < s.length
  · have e : decide ((s.length : Int) > 400) = true:=Qc q6;rw [e,qy f];rfl
  · have e : decide ((s.length : Int) > 400) = false:=Qe q6;rw [e,Q3 f,qx,qr8 s _ (fun t=>!decide (vld t)) (fun t=>by show (q3p t).bind _ = _;rw [qow];rfl) q6,qj];by_cases c : ∀ t∈s,vld t
    · have : (s.any fun t=>!decide (vld t)) = false:=by
        rw [List.any_eq_false];intro t d;simp [c t d]
      rw [this,qx,qy c,qti s q6 c (fun g j=>qc8 g j) (fun a b=>rfl)];rfl
    · have : (s.any fun t=>!decide (vld t)) = true:=by
        rw [List.any_eq_true];obtain ⟨t,c⟩:=Classical.not_forall.1 c;obtain ⟨d,h⟩:=Classical.not_imp.1 c;exact ⟨t,d,by simp [h]⟩
      rw [this,qz,Q3 c]
def lenL : List qp→Int
  | []=>0
  | t::s=>(t.Hi - t.Lo) + lenL s
theorem ql7 (a b : List qp) : lenL (a ++ b) = lenL a + lenL b:=by
  induction a with
  | nil=>simp [lenL]
  | cons t a ih=>simp only [List.cons_append,lenL,ih];omega
theorem ql8 : ∀ {s : List qp},(∀ t∈s,vld t)→0≤lenL s∧lenL s≤2000000 * (s.length : Int)
  | [],_=>by simp [lenL]
  | t::s,h=>by
    obtain ⟨d,b⟩:=ql8 (fun t a=>h t (List.mem_cons_of_mem _ a))
    obtain ⟨g,f,c⟩:=h t qe
    simp only [lenL,List.length_cons]
    omega
noncomputable def qfz (s : List qp) : Int × Int:=if q1h s = 0 then (lenL s,0) else (0,q1h s)
theorem qt6 (s : List qp) (o : s.length≤400) (g : ∀ t∈s,vld t) : loop (qc7 s) (0,0) = some (lenL s)∧loop (q9q s) (0,0) = some (lenL s):=by
  have d : ∀ k,0≤lenL (s.take k)∧lenL (s.take k)≤800000000:=by
    intro k;have:=ql8 (s:=s.take k) (fun t n=>g t (List.mem_of_mem_take n));have : (s.take k).length≤400:=by rw [List.length_take];omega
    omega
  constructor
  · have:=J4 (f:=qc7 s) (σ:=Int) (fun k c=>(c,(k : Int))) s.length (fun k c=>c = lenL (s.take k)) (fun r=>r = lenL s) ?_ ?_ (k0:=0) (c0:=0) q6 (by simp [lenL])
    · obtain ⟨b,h,rfl⟩:=this;exact h
    · rintro k c a rfl;have hb : decide ((k : Int) < (s.length : Int)) = true:=Qc q6;obtain ⟨m,l,j⟩:=g _ (Kc a);have:=d k;refine .inl ⟨lenL (s.take (k + 1)),?_,rfl⟩;simp only [qc7,hb,qz,Qq a,qj];rw [Ql (x:=s[k].Hi - s[k].Lo) q6,Ql (x:=lenL (s.take k) + _) q6,Ql q6,List.take_succ_eq_append_getElem a,ql7];simp only [lenL,Int.add_zero];rfl
    · rintro c rfl;have hb : decide ((s.length : Int) < (s.length : Int)) = false:=Qe q6;exact ⟨_,by simp only [qc7,hb,qx];rfl,by rw [List.take_length]⟩
  · have:=J4 (f:=q9q s) (σ:=Int) (fun k c=>(c,(k : Int))) s.length (fun k c=>c = lenL (s.take k)) (fun r=>r = lenL s) ?_ ?_ (k0:=0) (c0:=0) q6 (by simp [lenL])
    · obtain ⟨b,h,rfl⟩:=this;exact h
    · rintro k c a rfl;have hb : decide ((k : Int) < (s.length : Int)) = true:=Qc q6;obtain ⟨m,l,j⟩:=g _ (Kc a);have:=d k;refine .inl ⟨lenL (s.take (k + 1)),?_,rfl⟩;simp only [q9q,hb,qz,Qq a,qj];rw [Ql (x:=lenL (s.take k) + s[k].Hi) q6,Ql (x:=lenL (s.take k) + s[k].Hi - _) q6,Ql q6,List.take_succ_eq_append_getElem a,ql7];have : lenL (s.take k) + s[k].Hi - s[k].Lo = lenL (s.take k) + lenL [s[k]]:=by simp only [lenL];omega
      rw [this];rfl
    · rintro c rfl;have hb : decide ((s.length : Int) < (s.length : Int)) = false:=Qe q6;exact ⟨_,by simp only [q9q,hb,qx];rfl,by rw [List.take_length]⟩
theorem q150 (s : List qp) : qo9 s = some (qfz s)∧qmn s = some (qfz s):=by
  unfold qo9 qmn qfz;simp only [qiq,qwu,qj];by_cases h : q1h s = 0
  · obtain ⟨c,d⟩:=qqt h;obtain ⟨a,b⟩:=qt6 s c d.1;have e : (q1h s != 0) = false:=by simpa using h
    simp only [e,qx,a,b,qj];simp only [h,if_true];exact ⟨trivial,trivial⟩
  · have e : (q1h s != 0) = true:=by simpa using h
    simp only [e,qz,Q3 h];exact ⟨trivial,trivial⟩
end Go.Sh
