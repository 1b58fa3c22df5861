/- Sq1 Sq2 St5 St6 St7 St8 St9 St10 St11 St12 St13 St14 St13b St14b St18 St15 -/
import Derived.Test.YtgkialgkmjnfbaaK12
namespace Go.Sh
open Go Go.Am
theorem qy4 : qbh = q4g:=rfl
theorem qx5 : q2p = q3i:=by
  funext p0;simp only [q2p,q3i,qy4]
  all_goals exact Qj
theorem qml : Uh = q1k:=by
  funext p0;simp only [Uh,q1k,qx5]
  all_goals exact Qj
theorem qxh : q15 = q2j:=by
  funext p0;simp only [q15,q2j,qml]
  all_goals exact Qj
theorem qy5 : q16 = q2m:=by
  funext p0;simp only [q16,q2m]
  all_goals exact Qj
theorem qxf : q9t = Ua:=by
  funext p1 q1 a459;simp only [q9t,Ua]
  all_goals exact Qj
theorem qxe : q9s = q1o:=by
  funext p2 p1 q1 a278;simp only [q9s,q1o,qxf]
  all_goals exact Qj
theorem qxd : q9r = q2i:=by
  funext q1 p0 p1 p2;simp only [q9r,q2i,qxe]
  all_goals exact Qj
theorem qy3 : qb7 = Ue:=by
  funext p2 p3 q1 a197;simp only [qb7,Ue]
  all_goals exact Qj
theorem qmn : q77 = Uy:=by
  funext q1 p0 p1 p2 p3;simp only [q77,Uy,qy3]
  all_goals exact Qj
theorem qxb : q9j = q1m:=by
  funext q1 p2 p1 a123;simp only [q9j,q1m,qmn]
  all_goals exact Qj
theorem qxc : q9k = q1n:=by
  funext p1 q1 a191;simp only [q9k,q1n,qmn]
  all_goals exact Qj
theorem qxa : q9i = q2h:=by
  funext q1 p0 p1 p2;simp only [q9i,q2h,qxb,qxc]
  all_goals exact Qj
theorem qxi : q4w = Ut:=by
  funext q1 p0 p1 p2 p3;simp only [q4w,Ut]
  all_goals exact Qj
theorem qmm : q6p = Us:=by
  funext q1 p0 p1 p2 p3 p4;simp only [q6p,Us,qxi]
  all_goals exact Qj
theorem qxg : q4t = Ub:=by
  funext q1 p0 p1 p2;simp only [q4t,Ub,qmm]
  all_goals exact Qj
theorem qx9 : q9d = q2g:=by
  funext p0 p1 p2 p3;simp only [q9d,q2g,qmm,qxg]
  all_goals exact Qj
theorem qy2 : qb3 = q1u:=by
  funext a119;simp only [qb3,q1u]
  all_goals exact Qj
theorem qy1 : qb2 = q1t:=by
  funext q1 p0 p1 p2;simp only [qb2,q1t,qy2]
  all_goals exact Qj
theorem qxl : qa0 = Uu:=by
  funext p2 a438 q1 a681;simp only [qa0,Uu]
  all_goals exact Qj
theorem qxm : qa1 = Uc:=by
  funext q1 a838;simp only [qa1,Uc]
  all_goals exact Qj
theorem qxn : qa2 = Uv:=by
  funext p2 q1 b684 a928;simp only [qa2,Uv]
  all_goals exact Qj
theorem qxk : q6u = Zy:=by
  funext p2 q1 p1 a438;have a : @q6u.match_1.{1} = @Zy.match_1.{1} qb:=by funext motive m f g;cases m <;> rfl
  unfold q6u Zy;rw [a];simp only [qxl,qxm,qxn]
theorem qxj : q6t = Jv:=by
  funext q1 p0 p1 p2;have a : @q6t.match_1.{1} = @Jv.match_1.{1} qb:=by funext motive m f g;cases m <;> rfl
  unfold q6t Jv;rw [a];simp only [qxk]
theorem qxr : qau = Uw:=by
  funext a318 p1 q1 a378;simp only [qau,Uw]
  all_goals exact Qj
theorem qxs : qav = Ux:=by
  funext b381 a318 p1 q1 a463;simp only [qav,Ux]
  all_goals exact Qj
theorem qxq : qat = q1r:=by
  funext p1 q1 a318;simp only [qat,q1r,qxr,qxs]
  all_goals exact Qj
theorem qxp : qas = q1q:=by
  funext q1 p0 p1 p2 p3;simp only [qas,q1q,qxq]
  all_goals exact Qj
theorem qxt : qad = q2k:=by
  funext p2 p0 p1 v101 p3 v103 q1 a163;simp only [qad,q2k]
  all_goals exact Qj
theorem qxu : qae = q2l:=by
  funext b166 p0 p1 v101 p3 v103 q1 a249;simp only [qae,q2l]
  all_goals exact Qj
theorem qxw : qag = Jf:=by
  funext a514 p1 q1 a572;simp only [qag,Jf]
  all_goals exact Qj
theorem qxx : qah = Jg:=by
  funext b575 a514 p1 q1 a658;simp only [qah,Jg]
  all_goals exact Qj
theorem qxv : qaf = q1s:=by
  funext p1 q1 a514;simp only [qaf,q1s,qxw,qxx]
  all_goals exact Qj
theorem qxo : qac = q1p:=by
  funext q1 p0 p1 p2 p3;simp only [qac,q1p,qxt,qxu,qxv]
  all_goals exact Qj
theorem qx8 : q99 = Ur:=by
  funext p1 p2 r101 a153;simp only [q99,Ur,qy5]
  all_goals exact Qj
theorem qx7 : q98 = q1l:=by
  funext q1 p0 p1 p2;simp only [q98,q1l,qxh,qx8]
  all_goals exact Qj
theorem qxz : q71 = Zn:=by
  funext q1 rec a412;have a : @q71.match_1.{1} = @Zn.match_1.{1} qb:=by funext motive m f g;cases m <;> rfl
  unfold q71 Zn;rw [a];simp only [qxd,qxa,qx9,qy1,qxj,qxp,qxo,qx7]
theorem qy0 : q72 = Ud:=by
  funext rec q1 p0 p1 p2 p3;simp only [q72,Ud,qxz]
  all_goals exact Qj
theorem qxy : ∀ N q,q70 N q = Zg N q:=by
  intro N q
  induction N with
  | zero=>rfl
  | succ N ih=>
    funext a b c d;show q72 (q70 N q) q a b c d = Ud (Zg N q) q a b c d;rw [ih,qy0]
theorem qx6 : q6m = q2f:=by
  funext q1 p0;simp only [q6m,q2f,qml,qxy]
  all_goals exact Qj
end Go.Sh
namespace Go.Sh
open Go Go.Am
theorem qs5 : qbh = q4g:=rfl
theorem qr6 : q2p = q3i:=by
  funext p0;simp only [q2p,q3i,qs5]
  all_goals exact Qj
theorem qj9 : Uh = q1k:=by
  funext p0;simp only [Uh,q1k,qr6]
  all_goals exact Qj
theorem qri : q15 = q2j:=by
  funext p0;simp only [q15,q2j,qj9]
  all_goals exact Qj
theorem qs6 : q16 = q2m:=by
  funext p0;simp only [q16,q2m]
  all_goals exact Qj
theorem qrg : q9q = Ua:=by
  funext p1 q1 a459;simp only [q9q,Ua]
  all_goals exact Qj
theorem qrf : q9p = q1o:=by
  funext p2 p1 q1 a278;simp only [q9p,q1o,qrg]
  all_goals exact Qj
theorem qre : q9o = q2i:=by
  funext q1 p0 p1 p2;simp only [q9o,q2i,qrf]
  all_goals exact Qj
theorem qs4 : qb6 = Ue:=by
  funext p2 p3 q1 a197;simp only [qb6,Ue]
  all_goals exact Qj
theorem qjb : q76 = Uy:=by
  funext q1 p0 p1 p2 p3;simp only [q76,Uy,qs4]
  all_goals exact Qj
theorem qrc : q9g = q1m:=by
  funext q1 p2 p1 a123;simp only [q9g,q1m,qjb]
  all_goals exact Qj
theorem qrd : q9h = q1n:=by
  funext p1 q1 a191;simp only [q9h,q1n,qjb]
  all_goals exact Qj
theorem qrb : q9f = q2h:=by
  funext q1 p0 p1 p2;simp only [q9f,q2h,qrc,qrd]
  all_goals exact Qj
theorem qrj : q4v = Ut:=by
  funext q1 p0 p1 p2 p3;simp only [q4v,Ut]
  all_goals exact Qj
theorem qja : q6o = Us:=by
  funext q1 p0 p1 p2 p3 p4;simp only [q6o,Us,qrj]
  all_goals exact Qj
theorem qrh : q4s = Ub:=by
  funext q1 p0 p1 p2;simp only [q4s,Ub,qja]
  all_goals exact Qj
theorem qra : q9c = q2g:=by
  funext p0 p1 p2 p3;simp only [q9c,q2g,qja,qrh]
  all_goals exact Qj
theorem qs3 : qb1 = q1u:=by
  funext a119;simp only [qb1,q1u]
  all_goals exact Qj
theorem qs2 : qb0 = q1t:=by
  funext q1 p0 p1 p2;simp only [qb0,q1t,qs3]
  all_goals exact Qj
theorem qrm : q9x = Uu:=by
  funext p2 a438 q1 a681;simp only [q9x,Uu]
  all_goals exact Qj
theorem qrn : q9y = Uc:=by
  funext q1 a838;simp only [q9y,Uc]
  all_goals exact Qj
theorem qro : q9z = Uv:=by
  funext p2 q1 b684 a928;simp only [q9z,Uv]
  all_goals exact Qj
theorem qrl : q6s = Zy:=by
  funext p2 q1 p1 a438;have a : @q6s.match_1.{1} = @Zy.match_1.{1} qk:=by funext motive m f g;cases m <;> rfl
  unfold q6s Zy;rw [a];simp only [qrm,qrn,qro]
theorem qrk : q6r = Jv:=by
  funext q1 p0 p1 p2;have a : @q6r.match_1.{1} = @Jv.match_1.{1} qk:=by funext motive m f g;cases m <;> rfl
  unfold q6r Jv;rw [a];simp only [qrl]
theorem qrs : qaq = Uw:=by
  funext a318 p1 q1 a378;simp only [qaq,Uw]
  all_goals exact Qj
theorem qrt : qar = Ux:=by
  funext b381 a318 p1 q1 a463;simp only [qar,Ux]
  all_goals exact Qj
theorem qrr : qap = q1r:=by
  funext p1 q1 a318;simp only [qap,q1r,qrs,qrt]
  all_goals exact Qj
theorem qrq : qao = q1q:=by
  funext q1 p0 p1 p2 p3;simp only [qao,q1q,qrr]
  all_goals exact Qj
theorem qru : qa7 = q2k:=by
  funext p2 p0 p1 v101 p3 v103 q1 a163;simp only [qa7,q2k]
  all_goals exact Qj
theorem qrv : qa8 = q2l:=by
  funext b166 p0 p1 v101 p3 v103 q1 a249;simp only [qa8,q2l]
  all_goals exact Qj
theorem qrx : qaa = Jf:=by
  funext a514 p1 q1 a572;simp only [qaa,Jf]
  all_goals exact Qj
theorem qry : qab = Jg:=by
  funext b575 a514 p1 q1 a658;simp only [qab,Jg]
  all_goals exact Qj
theorem qrw : qa9 = q1s:=by
  funext p1 q1 a514;simp only [qa9,q1s,qrx,qry]
  all_goals exact Qj
theorem qrp : qa6 = q1p:=by
  funext q1 p0 p1 p2 p3;simp only [qa6,q1p,qru,qrv,qrw]
  all_goals exact Qj
theorem qr9 : q97 = Ur:=by
  funext p1 p2 r101 a153;simp only [q97,Ur,qs6]
  all_goals exact Qj
theorem qr8 : q96 = q1l:=by
  funext q1 p0 p1 p2;simp only [q96,q1l,qri,qr9]
  all_goals exact Qj
theorem qs0 : q6y = Zn:=by
  funext q1 rec a412;have a : @q6y.match_1.{1} = @Zn.match_1.{1} qk:=by funext motive m f g;cases m <;> rfl
  unfold q6y Zn;rw [a];simp only [qre,qrb,qra,qs2,qrk,qrq,qrp,qr8]
theorem qs1 : q6z = Ud:=by
  funext rec q1 p0 p1 p2 p3;simp only [q6z,Ud,qs0]
  all_goals exact Qj
theorem qrz : ∀ N q,q6x N q = Zg N q:=by
  intro N q
  induction N with
  | zero=>rfl
  | succ N ih=>
    funext a b c d;show q6z (q6x N q) q a b c d = Ud (Zg N q) q a b c d;rw [ih,qs1]
theorem qr7 : q4r = q2f:=by
  funext q1 p0;simp only [q4r,q2f,qj9,qrz]
  all_goals exact Qj
end Go.Sh
namespace Go.Sh
open Go Go.Am
theorem qdn {α : Type} {lt : α→α→Prop} (hs : ∀ a b,lt a b→¬ lt b a) : ∀ {s t : List α},s.Pairwise lt→t.Pairwise lt→(∀ x,x∈s↔x∈t)→s = t
  | [],[],_,_,_=>rfl
  | [],b::t,_,_,h=>by have:=(h b).2 qc;cases this
  | a::s,[],_,_,h=>by have:=(h a).1 qc;cases this
  | a::s,b::t,h1,h2,h=>by
    rw [List.pairwise_cons] at h1 h2
    have e : a = b:=by
      rcases List.mem_cons.1 ((h a).1 qc) with e | e
      · exact e
      · rcases List.mem_cons.1 ((h b).2 qc) with d | d
        · exact d.symm
        · exact absurd (h1.1 b d) (hs _ _ (h2.1 a e))
    subst e
    congr 1
    refine qdn hs h1.2 h2.2 fun x=>⟨fun c=>?_,fun c=>?_⟩
    · rcases List.mem_cons.1 ((h x).1 (by simp [c])) with rfl | e
      · exact absurd (h1.1 x c) (hs _ _ (h1.1 x c))
      · exact e
    · rcases List.mem_cons.1 ((h x).2 (by simp [c])) with rfl | e
      · exact absurd (h2.1 x c) (hs _ _ (h2.1 x c))
      · exact e
def ltP (a b : qb) : Prop:=a.X < b.X∨(a.X = b.X∧a.Y < b.Y)
instance (a b : qb) : Decidable (ltP a b):=by unfold ltP;exact inferInstance
theorem q4m (a b : qb) : ltP a b→¬ ltP b a:=by unfold ltP;omega
theorem ql7 {a b : qb} (h : ¬ ltP a b) (d : a≠b) : ltP b a:=by
  obtain ⟨f,j⟩:=a;obtain ⟨bx,c⟩:=b;have : ¬ (f = bx∧j = c):=fun ⟨g,h3⟩=>d (by rw [g,h3]);unfold ltP at *;simp only at *;omega
theorem swoP : Sort.SWO (fun a b=>decide (ltP a b)) where
  irrefl:=by intro x;simp only [decide_eq_false_iff_not,ltP];omega
  trans:=by
    intro x y z d c;have d:=of_decide_eq_true d;have c:=of_decide_eq_true c;exact Q2 (by unfold ltP at *;omega)
  ntrans:=by
    intro x y z d c;have d:=of_decide_eq_false d;have c:=of_decide_eq_false c;exact Q6 (by unfold ltP at *;omega)
instance : Inhabited qb:=⟨⟨0,0⟩⟩
instance : Inhabited qk:=⟨⟨0,0⟩⟩
theorem qj2 {x y : qb} (c : PtB x) (b : PtB y) : ∃ n : Int,q23 x y = some n∧decide (n < 0) = decide (ltP x y):=by
  obtain ⟨f,g,j,d⟩:=c;obtain ⟨b1,b2,k,h⟩:=b;unfold q23 ltP;by_cases e : x.X = y.X
  · have a : (x.X != y.X) = false:=by simp [e]
    rw [a,Q4,Qd q9];exact ⟨_,rfl,decide_eq_decide.2 q9⟩
  · have a : (x.X != y.X) = true:=by simp [e]
    rw [a,Qb,Qd q9];exact ⟨_,rfl,decide_eq_decide.2 q9⟩
theorem q11n (xs : List qb) (l : xs.length≤1000000) (hb : ∀ p∈xs,PtB p) (q : xs.Nodup) : ∃ ys,q6m (fun c f=>q23 c f) xs = some ys∧ys.Perm xs∧ys.Pairwise ltP:=by
  have cmp : Y7 (fun c f=>q23 c f) (fun a b=>decide (ltP a b)) PtB:=by
    intro x y o m;exact qj2 o m
  obtain ⟨ys,j,g,n⟩:=qh8 cmp swoP xs l hb;refine ⟨ys,by rw [qx6];exact j,g,?_⟩;have d:=(g.nodup_iff).2 q;refine (n.and d).imp ?_;rintro a b ⟨h,k⟩;exact ql7 (of_decide_eq_false h) (fun e=>k e.symm)
def eP2 (e : qk) : qb:={X:=e.A,Y:=e.B}
def ltG (a b : qk) : Prop:=ltP (eP2 a) (eP2 b)
theorem ql6 (a b : qk) : ltG a b→¬ ltG b a:=q4m _ _
theorem q11m (xs : List qk) (k : xs.length≤1000000) (hb : ∀ p∈xs,PtB (eP2 p)) (q : xs.Nodup) : ∃ ys,q4r (fun f j=>q33 f j) xs = some ys∧ys.Perm xs∧ys.Pairwise ltG:=by
  have cmp : Y7 (fun f j=>q33 f j) (fun a b=>decide (ltP (eP2 a) (eP2 b))) (fun e=>PtB (eP2 e)):=by
    intro x y o l;obtain ⟨n,c,d⟩:=qj2 o l;refine ⟨n,?_,d⟩;show q33 x y = _;unfold q33;have c : q23 {X:=x.A,Y:=x.B} {X:=y.A,Y:=y.B} = some n:=c;rw [c];rfl
  have h : Sort.SWO (fun a b : qk=>decide (ltP (eP2 a) (eP2 b))):=⟨fun x=>swoP.irrefl (eP2 x),fun x y z=>swoP.trans (eP2 x) (eP2 y) (eP2 z),fun x y z=>swoP.ntrans (eP2 x) (eP2 y) (eP2 z)⟩
  obtain ⟨ys,c,d,m⟩:=qh8 cmp h xs k hb;refine ⟨ys,by rw [qr7];exact c,d,?_⟩;have g:=(d.nodup_iff).2 q;refine (m.and g).imp ?_;rintro ⟨t,u⟩ ⟨b1,b2⟩ ⟨r,s⟩;refine ql7 (of_decide_eq_false r) (fun e=>s ?_);simp only [eP2,qb.mk.injEq] at e;rw [e.1,e.2]
structure KS (a : List (qb × Bool)) (S : qb→Prop) : Prop where
  nd : (a.map (·.1)).Nodup
  val : ∀ e∈a,e.2 = true
  mem : ∀ p,p∈a.map (·.1)↔S p
theorem KS.nil : KS [] (fun _=>False):=⟨.nil,fun e h=>(by cases h),fun p=>qc⟩
theorem KS.put {a : List (qb × Bool)} {S : qb→Prop} (h : KS a S) (p : qb) : KS (K8 p true a) (fun q=>S q∨q = p):=by
  refine ⟨qg1 h.nd,?_,fun q=>?_⟩
  · rintro ⟨q,b⟩ c;rcases (qft h.nd q b).1 c with ⟨_,rfl⟩ | ⟨_,c⟩
    · rfl
    · exact h.val _ c
  · rw [q8h,h.mem];exact or_comm
theorem KS.congr {a : List (qb × Bool)} {S T : qb→Prop} (h : KS a S) (e : ∀ p,S p↔T p) : KS a T:=⟨h.nd,h.val,fun p=>(h.mem p).trans (e p)⟩
theorem KS.perm {a b : List (qb × Bool)} {S : qb→Prop} (h : KS a S) (c : KS b S) : a.Perm b:=by
  have o : a.Nodup:=(List.pairwise_map.1 h.nd).imp fun h e=>h (by rw [e]);have n : b.Nodup:=(List.pairwise_map.1 c.nd).imp fun h e=>h (by rw [e]);rw [List.perm_ext_iff_of_nodup o n];rintro ⟨p,v⟩
  have key : ∀ {x y : List (qb × Bool)},KS x S→KS y S→(p,v)∈x→(p,v)∈y:=by
    intro x y k j l;have m:=k.val _ l;obtain ⟨⟨q,w⟩,d,e⟩:=List.mem_map.1 ((j.mem p).2 ((k.mem p).1 (List.mem_map_of_mem (f:=(·.1)) l)));have g:=j.val _ d;simp only at m g e;rw [m];rw [← g,← e];exact d
  exact ⟨key h c,key c h⟩
theorem KS.le {a b : List (qb × Bool)} {S T : qb→Prop} (h : KS a S) (d : KS b T) (c : ∀ p,S p→T p) : a.length≤b.length:=by
  have:=List.Nodup.length_le_of_subset h.nd (l₂:=b.map (·.1)) fun p hp=>(d.mem p).2 (c p ((h.mem p).1 hp));simpa using this
theorem q5q {α ε ρ : Type} {R : α→ε→Option (α ⊕ ρ)} {a a' : α} {e : ε} {l : List ε} (h : R a e = some (.inl a')) : Kp R (e::l) a = Kp R l a':=by simp only [Kp,h]
theorem qu1 {α ε ρ : Type} {R : α→ε→Option (α ⊕ ρ)} {a : α} {x : ρ} {e : ε} {l : List ε} (h : R a e = some (.inr x)) : Kp R (e::l) a = some (.inr x):=by simp only [Kp,h]
end Go.Sh
namespace Go.Sh
open Go Go.Am
open Classical
theorem qgd {α ε ρ : Type} {E : α→α→Prop} {R : α→ε→Option (α ⊕ ρ)} {es : List ε} {a : α} (h : ∀ l : List ε,l.Perm es→∃ m b,Kp R es a = some m∧Kp R l a = some b∧MEq E b m) : q14 E R es a = some ():=by
  unfold q14;rw [qr h]
theorem q10g {ε β : Type} {F : List ε→Option β} {es : List ε} (h : ∀ l : List ε,l.Perm es→F l = F es) : q4q F es = some ():=by
  unfold q4q;rw [qr h]
section
variable {F G : Int→Int→Prop} {r : Ya}
def U2 (F G : Int→Int→Prop) (y : Int) (t : qm) (p : qb) : Prop:=p.Y = y∧(((p.X = t.Lo∨p.X = t.Hi)∧Ky F G p.X p.Y)∨(t.Lo < p.X∧p.X < t.Hi∧(G p.X y∨G p.X (y - 1))))
def q7s (F G : Int→Int→Prop) (x : Int) (t : qm) (p : qb) : Prop:=p.X = x∧(p.Y = t.Lo∨p.Y = t.Hi)∧Ky F G p.X p.Y
theorem qp1 (j : Rep r.columns_ G) {t : qm} {y : Int} {w : List qm} (m : -1000000≤y∧y≤1000000) {c : Int × List qm} (k : c∈r.columns_) (a : List (qb × Bool)) :
    q3z t (y,w) a c = some (.inl (if t.Lo < c.1∧c.1 < t.Hi∧(G c.1 y∨G c.1 (y - 1)) then K8 ({X:=c.1,Y:=y} : qb) true a else a)):=by
  obtain ⟨x,h⟩:=c;have l:=j.len x h k;have hp:=j.pts x h k;unfold q3z;simp only;by_cases b : t.Lo < x
  · rw [Q2 (show x > t.Lo from b),Qb,qq];by_cases d : x < t.Hi
    · rw [Q2 d,Qb,q5l _ _ q9,qq,Qd q9,q5l _ _ q9];rw [decide_eq_decide.2 (hp y),decide_eq_decide.2 (hp (y - 1))];by_cases g : G x y
      · rw [Q2 g];simp [b,d,g]
      · rw [Q6 g];by_cases f : G x (y - 1)
        · rw [Q2 f];simp [b,d,f]
        · rw [Q6 f];simp [b,d,g,f]
    · rw [Q6 d];simp [d]
  · rw [Q6 (show ¬ x > t.Lo from b)];simp [b]
theorem q7m (f : Rep r.columns_ G) {t : qm} {y : Int} {w : List qm} (g : -1000000≤y∧y≤1000000) : ∀ (l : List (Int × List qm)),(∀ c∈l,c∈r.columns_)→∀ {a : List (qb × Bool)} {S : qb→Prop},KS a S→
    ∃ a',Kp (q3z t (y,w)) l a = some (.inl a')∧KS a' (fun p=>S p∨∃ c∈l,p = {X:=c.1,Y:=y}∧t.Lo < c.1∧c.1 < t.Hi∧(G c.1 y∨G c.1 (y - 1)))
  | [],_,a,S,h=>⟨a,rfl,h.congr fun p=>qc⟩
  | c::l,hl,a,S,h=>by
    have hs:=qp1 f (t:=t) (w:=w) g (hl c qc) a
    by_cases b : t.Lo < c.1∧c.1 < t.Hi∧(G c.1 y∨G c.1 (y - 1))
    · rw [qr b] at hs
      obtain ⟨a',e1,j⟩:=q7m f g l (fun d hd=>hl d (by simp [hd])) (h.put {X:=c.1,Y:=y})
      refine ⟨a',by rw [q5q hs];exact e1,j.congr fun p=>?_⟩
      constructor
      · rintro ((h | h) | ⟨d,hd,h⟩)
        · exact .inl h
        · exact .inr ⟨c,qc,h,b⟩
        · exact .inr ⟨d,by simp [hd],h⟩
      · rintro (h | ⟨d,hd,h⟩)
        · exact .inl (.inl h)
        · rcases List.mem_cons.1 hd with rfl | hd
          · exact .inl (.inr h.1)
          · exact .inr ⟨d,hd,h⟩
    · rw [qu b] at hs
      obtain ⟨a',e1,j⟩:=q7m f g l (fun d hd=>hl d (by simp [hd])) h
      refine ⟨a',by rw [q5q hs];exact e1,j.congr fun p=>?_⟩
      constructor
      · rintro (h | ⟨d,hd,h⟩)
        · exact .inl h
        · exact .inr ⟨d,by simp [hd],h⟩
      · rintro (h | ⟨d,hd,h⟩)
        · exact .inl h
        · rcases List.mem_cons.1 hd with rfl | hd
          · exact absurd h.2 b
          · exact .inr ⟨d,hd,h⟩
theorem qp2 (f : Rep r.columns_ G) {t : qm} {y : Int} {w : List qm} (g : -1000000≤y∧y≤1000000) {a : List (qb × Bool)} {S : qb→Prop} (h : KS a S) : q14 (fun (x y : List (qb × Bool))=>List.Perm x y) (q3z t (y,w)) r.columns_ a = some ():=by
  refine qgd fun l d=>?_;obtain ⟨n,e1,j⟩:=q7m f (t:=t) (w:=w) g r.columns_ (fun c b=>b) h;obtain ⟨o,k,m⟩:=q7m f (t:=t) (w:=w) g l (fun c b=>(d.mem_iff).1 b) h;refine ⟨_,_,e1,k,?_⟩;show o.Perm n;refine KS.perm (m.congr fun p=>?_) j;simp only [d.mem_iff]
theorem qd8 (d : Rep r.rows_ F) (c : Rep r.columns_ G) {p : qb} (hp : PtB p) {a : List (qb × Bool)} {S : qb→Prop} (h : KS a S) :
    ∃ a',q3x p r.rows_ r.columns_ a = some a'∧KS a' (fun q=>S q∨(q = p∧Ky F G p.X p.Y))∧a'.length≤a.length + 1:=by
  unfold q3x;rw [quy (r:={rows_:=r.rows_,columns_:=r.columns_}) d c (p:={X:=p.X,Y:=p.Y}) hp,qq];by_cases b : Ky F G p.X p.Y
  · rw [Q2 b];exact ⟨_,rfl,(h.put p).congr fun q=>by simp [b],qlm⟩
  · rw [Q6 b];exact ⟨_,rfl,h.congr fun q=>by simp [b],q9⟩
theorem q120 (m : Rep r.rows_ F) (j : Rep r.columns_ G) {y : Int} {v : List qm} (u : (y,v)∈r.rows_) {k : Nat} (hk : k < v.length) {a : List (qb × Bool)} {S : qb→Prop} (h : KS a S) :
    ∃ a',KS a' (fun p=>S p∨U2 F G y v[k] p)∧q3y (y,v) r ((k : Int),a) = if 400 < a'.length then some (.inr (.inr ([],false))) else some (.inl (((k + 1 : Nat) : Int),a')):=by
  have g:=m.key y (List.mem_map_of_mem (f:=(·.1)) u);have hv:=(m.good y v u).1 _ (Yf hk);have hl:=m.len y v u;obtain ⟨v1,v2,v3⟩:=hv;have hb : decide ((k : Int) < (v.length : Int)) = true:=Q2 q9;obtain ⟨a1,e1,k1,_⟩:=qd8 m j (p:={X:=(v[k]).Lo,Y:=y}) ⟨by simp only;omega,by simp only;omega,g.1,g.2⟩ h;obtain ⟨a2,e2,z,_⟩:=qd8 m j (p:={X:=(v[k]).Hi,Y:=y}) ⟨by simp only;omega,by simp only;omega,g.1,g.2⟩ k1;obtain ⟨n,e3,k3⟩:=q7m j (t:=v[k]) (w:=v) g r.columns_ (fun c o=>o) z;have e4:=qp2 j (t:=v[k]) (w:=v) g z;refine ⟨n,k3.congr fun p=>?_,?_⟩
  · unfold U2;constructor
    · rintro (((h | ⟨rfl,h⟩) | ⟨rfl,h⟩) | ⟨c,o,rfl,s,q,d⟩)
      · exact .inl h
      · exact .inr ⟨rfl,.inl ⟨.inl rfl,h⟩⟩
      · exact .inr ⟨rfl,.inl ⟨.inr rfl,h⟩⟩
      · exact .inr ⟨rfl,.inr ⟨s,q,d⟩⟩
    · rintro (h | ⟨rfl,⟨h | h,x⟩ | ⟨s,q,d⟩⟩)
      · exact .inl (.inl (.inl h))
      · have : p = {X:=(v[k]).Lo,Y:=p.Y}:=by rw [← h]
        exact .inl (.inl (.inr ⟨this,by rw [← h];exact x⟩))
      · have : p = {X:=(v[k]).Hi,Y:=p.Y}:=by rw [← h]
        exact .inl (.inr ⟨this,by rw [← h];exact x⟩)
      · have l : p.X∈r.columns_.map (·.1):=by rcases d with d | d <;> exact j.all _ _ d
        obtain ⟨c,o,he⟩:=List.mem_map.1 l;refine .inr ⟨c,o,?_,?_⟩
        · rw [he]
        · rw [he];exact ⟨s,q,d⟩
  · simp only [q3y,hb,Qb,Kf hk,qq,e1,e2,e4,e3];by_cases b : 400 < n.length
    · rw [qr b,Q2 (show (n.length : Int) > 400 by omega),Qb]
    · rw [qu b,Q6 (show ¬ (n.length : Int) > 400 by omega),Q4,Qd q9];rfl
theorem qz5 (x : Rep r.rows_ F) (s : Rep r.columns_ G) {y : Int} {v : List qm} (u : (y,v)∈r.rows_) {a : List (qb × Bool)} {S : qb→Prop} (h : KS a S) (w : a.length≤400) :
    (∃ a',q1a r a (y,v) = some (.inl a')∧KS a' (fun p=>S p∨∃ t∈v,U2 F G y t p)∧a'.length≤400)∨
    (q1a r a (y,v) = some (.inr ([],false))∧∃ b T,KS b T∧400 < b.length∧∀ p,T p→S p∨∃ t∈v,U2 F G y t p):=by
  have q : ∀ k (hk : k < v.length) p,(∃ t∈v.take (k + 1),U2 F G y t p)↔(∃ t∈v.take k,U2 F G y t p)∨U2 F G y v[k] p:=by
    intro k hk p;rw [List.take_succ_eq_append_getElem hk];constructor
    · rintro ⟨t,g,h⟩;rcases List.mem_append.1 g with g | g
      · exact .inl ⟨t,g,h⟩
      · rw [List.mem_singleton] at g;subst g;exact .inr h
    · rintro (⟨t,g,h⟩ | h)
      · exact ⟨t,List.mem_append_left _ g,h⟩
      · exact ⟨v[k],List.mem_append_right _ (List.mem_singleton.2 rfl),h⟩
  have:=Yv (f:=q3y (y,v) r) (σ:=List (qb × Bool)) (fun k c=>((k : Int),c)) v.length (fun k c=>KS c (fun p=>S p∨∃ t∈v.take k,U2 F G y t p)∧c.length≤400)
    (fun o=>(∃ a',o = .inl a'∧KS a' (fun p=>S p∨∃ t∈v,U2 F G y t p)∧a'.length≤400)∨(o = .inr ([],false)∧∃ b T,KS b T∧400 < b.length∧∀ p,T p→S p∨∃ t∈v,U2 F G y t p)) ?_ ?_ (k0:=0) (c0:=a) q9 ⟨h.congr fun p=>qc,w⟩
  · obtain ⟨o,e1,z⟩:=this;have e1 : loop (q3y (y,v) r) (0,a) = some o:=e1;rcases z with ⟨a',rfl,j,l⟩ | ⟨rfl,j⟩
    · exact .inl ⟨a',by unfold q1a;rw [e1];rfl,j,l⟩
    · exact .inr ⟨by unfold q1a;rw [e1];rfl,j⟩
  · rintro k c hk ⟨m,n⟩;obtain ⟨a',j,e1⟩:=q120 x s u hk m;have l : KS a' (fun p=>S p∨∃ t∈v.take (k + 1),U2 F G y t p):=j.congr fun p=>by rw [q k hk,or_assoc]
    by_cases d : 400 < a'.length
    · rw [qr d] at e1;refine .inr ⟨_,e1,.inr ⟨rfl,a',_,l,d,?_⟩⟩;rintro p (hp | ⟨t,g,hp⟩)
      · exact .inl hp
      · exact .inr ⟨t,List.mem_of_mem_take g,hp⟩
    · rw [qu d] at e1;exact .inl ⟨a',e1,l,q9⟩
  · rintro c ⟨m,n⟩;have hb : decide ((v.length : Int) < (v.length : Int)) = false:=Q6 q9;refine ⟨.inl c,by simp only [q3y,hb,Q4],.inl ⟨c,rfl,?_,n⟩⟩
    rwa [List.take_length] at m
def q1z (F G : Int→Int→Prop) (l : List (Int × List qm)) (p : qb) : Prop:=∃ e∈l,∃ t∈e.2,U2 F G e.1 t p
theorem qde (n : Rep r.rows_ F) (m : Rep r.columns_ G) : ∀ (l : List (Int × List qm)),(∀ e∈l,e∈r.rows_)→∀ {a : List (qb × Bool)} {S : qb→Prop},KS a S→a.length≤400→
    (∃ a',Kp (q1a r) l a = some (.inl a')∧KS a' (fun p=>S p∨q1z F G l p)∧a'.length≤400)∨
    (Kp (q1a r) l a = some (.inr ([],false))∧∃ b T,KS b T∧400 < b.length∧∀ p,T p→S p∨q1z F G l p)
  | [],_,a,S,h,ha=>.inl ⟨a,rfl,h.congr fun p=>by simp [q1z],ha⟩
  | (y,v)::l,hl,a,S,h,ha=>by
    have d : ∀ p,q1z F G ((y,v)::l) p↔(∃ t∈v,U2 F G y t p)∨q1z F G l p:=by
      intro p;simp [q1z]
    rcases qz5 n m (hl (y,v) qc) h ha with ⟨a',e1,c,g⟩ | ⟨e1,b,T,c,g,q⟩
    · rcases qde n m l (fun e s=>hl e (by simp [s])) c g with ⟨u,k,f,j⟩ | ⟨k,b,T,f,j,o⟩
      · exact .inl ⟨u,by rw [q5q e1];exact k,f.congr fun p=>by rw [d,or_assoc],j⟩
      · refine .inr ⟨by rw [q5q e1];exact k,b,T,f,j,fun p hp=>?_⟩
        rw [d,← or_assoc];exact o p hp
    · refine .inr ⟨qu1 e1,b,T,c,g,fun p hp=>?_⟩
      rw [d,← or_assoc];exact .inl (q p hp)
theorem qz8 (o : Rep r.rows_ F) (k : Rep r.columns_ G) : q14 (fun (x y : List (qb × Bool))=>List.Perm x y) (q1a r) r.rows_ [] = some ():=by
  refine qgd fun l j=>?_;have f : ∀ p,q1z F G l p↔q1z F G r.rows_ p:=by intro p;simp only [q1z,j.mem_iff]
  have A:=qde o k r.rows_ (fun e g=>g) KS.nil qc;have B:=qde o k l (fun e g=>(j.mem_iff).1 g) KS.nil qc;rcases A with ⟨t,e1,d,u⟩ | ⟨e1,b,T,d,u,s⟩
  · rcases B with ⟨m,c,a,n⟩ | ⟨c,b,T,a,n,q⟩
    · refine ⟨_,_,e1,c,?_⟩;show m.Perm t;exact KS.perm (a.congr fun p=>by rw [f]) d
    · have:=a.le d (fun p hp=>by rcases q p hp with h | h;exact .inl h;exact .inr ((f p).1 h));omega
  · rcases B with ⟨m,c,a,n⟩ | ⟨c,_⟩
    · have:=d.le a (fun p hp=>by rcases s p hp with h | h;exact .inl h;exact .inr ((f p).2 h));omega
    · exact ⟨_,_,e1,c,rfl⟩
end
end Go.Sh
namespace Go.Sh
open Go Go.Am
open Classical
section
variable {F G : Int→Int→Prop} {r : Ya}
def q7u (F G : Int→Int→Prop) (l : List (Int × List qm)) (p : qb) : Prop:=∃ e∈l,∃ t∈e.2,q7s F G e.1 t p
theorem takeN {α : Type} {v : List α} {k : Nat} (hk : k < v.length) {P : α→Prop} : (∃ t∈v.take (k + 1),P t)↔(∃ t∈v.take k,P t)∨P v[k]:=by
  rw [List.take_succ_eq_append_getElem hk];constructor
  · rintro ⟨t,a,h⟩;rcases List.mem_append.1 a with a | a
    · exact .inl ⟨t,a,h⟩
    · rw [List.mem_singleton] at a;subst a;exact .inr h
  · rintro (⟨t,a,h⟩ | h)
    · exact ⟨t,List.mem_append_left _ a,h⟩
    · exact ⟨v[k],List.mem_append_right _ (List.mem_singleton.2 rfl),h⟩
theorem qqn (s : Rep r.rows_ F) (b : Rep r.columns_ G) {x : Int} {v : List qm} (l : (x,v)∈r.columns_) {a : List (qb × Bool)} {S : qb→Prop} (h : KS a S) :
    ∃ a',q40 r a (x,v) = some (.inl a')∧KS a' (fun p=>S p∨∃ t∈v,q7s F G x t p)∧a'.length≤a.length + 2 * v.length:=by
  have g:=b.key x (List.mem_map_of_mem (f:=(·.1)) l);have z:=b.len x v l
  have:=Yv (f:=q55 (x,v) r) (σ:=List (qb × Bool)) (fun k c=>((k : Int),c)) v.length (fun k c=>KS c (fun p=>S p∨∃ t∈v.take k,q7s F G x t p)∧c.length≤a.length + 2 * k)
    (fun o=>KS o (fun p=>S p∨∃ t∈v,q7s F G x t p)∧o.length≤a.length + 2 * v.length) ?_ ?_ (k0:=0) (c0:=a) q9 ⟨h.congr fun p=>qc,q9⟩
  · obtain ⟨o,e1,m⟩:=this;have e1 : loop (q55 (x,v) r) (0,a) = some o:=e1;exact ⟨o,by unfold q40;rw [e1];rfl,m⟩
  · rintro k c hk ⟨j,n⟩;have hb : decide ((k : Int) < (v.length : Int)) = true:=Q2 q9;obtain ⟨v1,v2,v3⟩:=(b.good x v l).1 _ (Yf hk);obtain ⟨a1,e1,u,l1⟩:=qd8 s b (p:={X:=x,Y:=(v[k]).Lo}) ⟨g.1,g.2,by simp only;omega,by simp only;omega⟩ j;obtain ⟨y,m,w,l2⟩:=qd8 s b (p:={X:=x,Y:=(v[k]).Hi}) ⟨g.1,g.2,by simp only;omega,by simp only;omega⟩ u;refine .inl ⟨y,?_,w.congr fun p=>?_,q9⟩
    · simp only [q55,hb,Qb,Kf hk,qq,e1,m];rw [Qd q9];rfl
    · rw [takeN hk];unfold q7s;constructor
      · rintro (((h | h) | ⟨rfl,h⟩) | ⟨rfl,h⟩)
        · exact .inl h
        · exact .inr (.inl h)
        · exact .inr (.inr ⟨rfl,.inl rfl,h⟩)
        · exact .inr (.inr ⟨rfl,.inr rfl,h⟩)
      · rintro (h | h | ⟨d,h | h,q⟩)
        · exact .inl (.inl (.inl h))
        · exact .inl (.inl (.inr h))
        · have : p = {X:=x,Y:=(v[k]).Lo}:=by rw [← h,← d]
          exact .inl (.inr ⟨this,by rw [← h,← d];exact q⟩)
        · have : p = {X:=x,Y:=(v[k]).Hi}:=by rw [← h,← d]
          exact .inr ⟨this,by rw [← h,← d];exact q⟩
  · rintro c ⟨j,n⟩;have hb : decide ((v.length : Int) < (v.length : Int)) = false:=Q6 q9;refine ⟨c,by simp only [q55,hb,Q4],?_,n⟩
    rwa [List.take_length] at j
theorem qc6 (c : Rep r.rows_ F) (b : Rep r.columns_ G) : ∀ (l : List (Int × List qm)),(∀ e∈l,e∈r.columns_)→∀ {a : List (qb × Bool)} {S : qb→Prop},KS a S→
    ∃ a',Kp (q40 r) l a = some (.inl a')∧KS a' (fun p=>S p∨q7u F G l p)∧a'.length≤a.length + 1600 * l.length
  | [],_,a,S,h=>⟨a,rfl,h.congr fun p=>by simp [q7u],qc⟩
  | (x,v)::l,hl,a,S,h=>by
    obtain ⟨m,e1,d,n⟩:=qqn c b (hl (x,v) qc) h
    obtain ⟨j,k,f,o⟩:=qc6 c b l (fun e g=>hl e (by simp [g])) d
    have:=b.len x v (hl (x,v) qc)
    refine ⟨j,by rw [q5q e1];exact k,f.congr fun p=>?_,by simp only [List.length_cons];omega⟩
    rw [or_assoc];simp [q7u]
theorem qqu (f : Rep r.rows_ F) (d : Rep r.columns_ G) {a : List (qb × Bool)} {S : qb→Prop} (h : KS a S) : q14 (fun (x y : List (qb × Bool))=>List.Perm x y) (q40 r) r.columns_ a = some ():=by
  refine qgd fun l c=>?_;obtain ⟨k,e1,g,_⟩:=qc6 f d r.columns_ (fun e b=>b) h;obtain ⟨m,n,j,_⟩:=qc6 f d l (fun e b=>(c.mem_iff).1 b) h;refine ⟨_,_,e1,n,?_⟩;show m.Perm k;exact KS.perm (j.congr fun p=>by simp only [q7u,c.mem_iff]) g
theorem qht : ∀ (l : List (qb × Bool)) (acc : List qb),acc.length + l.length≤1000000→Kp q34 l acc = some (.inl (acc ++ l.map (·.1)))
  | [],acc,_=>by simp [Kp]
  | e::l,acc,h=>by
    simp only [List.length_cons] at h
    have hs : q34 acc e = some (.inl (acc ++ [e.1])):=by
      unfold q34;rw [Zu (by simp;omega)];rfl
    rw [q5q hs,qht l _ (by simp;omega)]
    simp
theorem qhu {l : List (qb × Bool)} {S : qb→Prop} (h : KS l S) (b : l.length≤1000000) (hb : ∀ p,S p→PtB p) : ∃ ys,(Kp q34 l []).bind (q7h q41) = some (ys,decide (ys.length≤400))∧ys.Pairwise ltP∧∀ p,p∈ys↔S p:=by
  obtain ⟨ys,e1,a,c⟩:=q11n (l.map (·.1)) (by simpa using b) (fun p hp=>hb p ((h.mem p).1 hp)) h.nd;refine ⟨ys,?_,c,fun p=>by rw [a.mem_iff,h.mem]⟩;rw [qht l [] (by simpa using b)];show q41 ([] ++ l.map (·.1)) = _;rw [List.nil_append];unfold q41;have le : Qy ys.length (l.map (·.1)).length = some ():=by unfold Qy;rw [qr a.length_eq]
  rw [e1,qq,le,qq];congr 2;exact decide_eq_decide.2 (by have:=a.length_eq;omega)
theorem qlw (g : Rep r.rows_ F) (k : Rep r.columns_ G) (p : qb) : (q1z F G r.rows_ p∨q7u F G r.columns_ p)↔Ky F G p.X p.Y:=by
  constructor
  · rintro (⟨⟨y,v⟩,j,t,f,rfl,⟨_,h⟩ | ⟨h3,h4,o⟩⟩ | ⟨e,j,t,f,_,_,h⟩)
    · exact h
    · have g1 : F p.Y p.X:=(g.pts _ _ j _).1 ⟨t,f,q9,q9⟩;have g2 : F p.Y (p.X - 1):=(g.pts _ _ j _).1 ⟨t,f,q9,q9⟩;unfold Ky;rw [Q2 g1,Q2 g2];simp only at o;rcases o with o | o
      · rw [Q2 o];generalize decide (G p.X (p.Y - 1)) = b;revert b;decide
      · rw [Q2 o];generalize decide (G p.X p.Y) = b;revert b;decide
    · exact h
  · intro h
    have row : ∀ x,F p.Y x→∃ v,(p.Y,v)∈r.rows_:=fun x q=>by
      obtain ⟨⟨a,v⟩,c,j⟩:=List.mem_map.1 (g.all _ _ q);simp only at j;subst j;exact ⟨v,c⟩
    have col : ∀ y,G p.X y→∃ v,(p.X,v)∈r.columns_:=fun x q=>by
      obtain ⟨⟨a,v⟩,c,j⟩:=List.mem_map.1 (k.all _ _ q);simp only at j;subst j;exact ⟨v,c⟩
    by_cases e : F p.Y p.X <;> by_cases w : F p.Y (p.X - 1)
    ·
      obtain ⟨v,c⟩:=row _ e;have hc:=(g.good _ _ c).can;obtain ⟨t,f,t1,z⟩:=(g.pts _ _ c _).2 e
      have ab : t.Lo≠p.X:=fun u=>by
        have:=((qec hc p.X).1 ⟨t,f,u⟩).2;exact this ((g.pts _ _ c _).2 w)
      refine .inl ⟨(p.Y,v),c,t,f,rfl,.inr ⟨q9,z,?_⟩⟩;unfold Ky at h;rw [Q2 e,Q2 w] at h;by_cases n : G p.X p.Y
      · exact .inl n
      · by_cases s : G p.X (p.Y - 1)
        · exact .inr s
        · rw [Q6 n,Q6 s] at h;exact absurd h Q0
    · obtain ⟨v,c⟩:=row _ e;obtain ⟨t,f,d⟩:=(qec (g.good _ _ c).can p.X).2 ⟨(g.pts _ _ c _).2 e,fun l=>w ((g.pts _ _ c _).1 l)⟩;exact .inl ⟨(p.Y,v),c,t,f,rfl,.inl ⟨.inl d.symm,h⟩⟩
    · obtain ⟨v,c⟩:=row _ w;obtain ⟨t,f,d⟩:=(qif (g.good _ _ c).can p.X).2 ⟨fun l=>e ((g.pts _ _ c _).1 l),(g.pts _ _ c _).2 w⟩;exact .inl ⟨(p.Y,v),c,t,f,rfl,.inl ⟨.inr d.symm,h⟩⟩
    · right;have m:=h;unfold Ky at m;rw [Q6 e,Q6 w] at m;by_cases n : G p.X p.Y <;> by_cases s : G p.X (p.Y - 1)
      · rw [Q2 n,Q2 s] at m;exact absurd m Q0
      · obtain ⟨v,c⟩:=col _ n;obtain ⟨t,f,d⟩:=(qec (k.good _ _ c).can p.Y).2 ⟨(k.pts _ _ c _).2 n,fun l=>s ((k.pts _ _ c _).1 l)⟩;exact ⟨(p.X,v),c,t,f,rfl,.inl d.symm,h⟩
      · obtain ⟨v,c⟩:=col _ s;obtain ⟨t,f,d⟩:=(qif (k.good _ _ c).can p.Y).2 ⟨fun l=>n ((k.pts _ _ c _).1 l),(k.pts _ _ c _).2 s⟩;exact ⟨(p.X,v),c,t,f,rfl,.inr d.symm,h⟩
      · rw [Q6 n,Q6 s] at m;exact absurd m Q0
theorem Rep.bnd {R : List (Int × List qm)} {F : Int→Int→Prop} (h : Rep R F) {k x : Int} (b : F k x) : -1000000≤k∧k≤1000000∧-1000000≤x∧x < 1000000:=by
  have hk:=h.key k (h.all _ _ b);obtain ⟨⟨a,v⟩,c,d⟩:=List.mem_map.1 (h.all _ _ b);simp only at d;subst d;obtain ⟨t,f,l,g⟩:=(h.pts _ _ c _).2 b;obtain ⟨m,j,n⟩:=(h.good _ _ c).1 t f;exact ⟨hk.1,hk.2,q9,q9⟩
theorem qd1 {C : List (Int × List qm)} {R : List (Int × List qm)} (b : Rep R F) (a : Rep C G) {x y : Int} (h : Ky F G x y) : PtB {X:=x,Y:=y}:=by
  unfold PtB;simp only;by_cases e : F y x
  · have:=b.bnd e;omega
  · by_cases n : G x y
    · have:=a.bnd n;omega
    · by_cases w : F y (x - 1)
      · have:=b.bnd w;omega
      · by_cases s : G x (y - 1)
        · have:=a.bnd s;omega
        · unfold Ky at h;rw [Q6 e,Q6 n,Q6 w,Q6 s] at h;exact absurd h Q0
structure Yl (F G : Int→Int→Prop) (N : List qb) : Prop where
  srt : N.Pairwise ltP
  mem : ∀ p,p∈N↔Ky F G p.X p.Y
theorem qv0 (d : Rep r.rows_ F) (c : Rep r.columns_ G) : (∃ N,Yl F G N∧N.length≤400∧q7f r = some (N,true))∨((∃ b : List qb,b.Nodup∧400 < b.length∧∀ p∈b,Ky F G p.X p.Y)∧∃ q,q7f r = some (q,false)):=by
  unfold q7f;rw [qz8 d c];simp only [qq];rcases qde d c r.rows_ (fun e k=>k) KS.nil qc with ⟨a1,e1,f,v⟩ | ⟨e1,b,T,f,v,y⟩
  · rw [e1];simp only [qq];rw [qqu d c f];simp only [qq];obtain ⟨t,x,k2,l2⟩:=qc6 d c r.columns_ (fun e k=>k) f;rw [x];simp only [qq];have hc:=c.cnt;have g : t.length≤1000000:=by omega
    have m : KS t (fun p=>Ky F G p.X p.Y):=k2.congr fun p=>by
      rw [← qlw d c p];simp
    have hb : ∀ p : qb,Ky F G p.X p.Y→PtB p:=fun p hp=>qd1 d c hp;obtain ⟨ys,f1,s,u⟩:=qhu m g hb
    have j : q4q (fun l=>(Kp q34 l []).bind (q7h q41)) t = some ():=by
      refine q10g fun l n=>?_;have k4 : KS l (fun p=>Ky F G p.X p.Y):=⟨((n.map (·.1)).nodup_iff).2 m.nd,fun e k=>m.val e ((n.mem_iff).1 k),fun p=>by rw [((n.map (·.1)).mem_iff),m.mem]⟩
      obtain ⟨zs,z,w,g3⟩:=qhu k4 (by rw [n.length_eq];exact g) hb;simp only [f1,z];have : zs = ys:=qdn q4m w s fun p=>by rw [g3,u]
      rw [this]
    rw [j];simp only [qq];rw [f1];by_cases o : ys.length≤400
    · exact .inl ⟨ys,⟨s,u⟩,o,by rw [Q2 o]⟩
    · refine .inr ⟨⟨ys,s.imp (by rintro a b h rfl;exact q4m a a h h),q9,fun p hp=>(u p).1 hp⟩,ys,by rw [Q6 o]⟩
  · rw [e1];refine .inr ⟨⟨b.map (·.1),f.nd,by simpa using v,fun p hp=>?_⟩,[],rfl⟩;rcases y p ((f.mem p).1 hp) with h | h
    · exact h.elim
    · exact (qlw d c p).1 (.inl h)
end
end Go.Sh
namespace Go.Sh
open Go Go.Am
open Classical
section
variable {F G : Int→Int→Prop} {L M : List qgl}
structure JN (F G : Int→Int→Prop) (N : List qb) (S : qb→Prop) : Prop where
  srt : N.Pairwise ltP
  sub : ∀ p∈N,Ky F G p.X p.Y
  all : N.length≤400→∀ p,S p→Ky F G p.X p.Y→p∈N
  len : N.length≤402
theorem JN.congr {N : List qb} {S T : qb→Prop} (h : JN F G N S) (e : ∀ p,T p→S p) : JN F G N T:=⟨h.srt,h.sub,fun a p hp=>h.all a p (e p hp),h.len⟩
end
end Go.Sh
namespace Go.Sh
open Go Go.Am
open Classical
section
variable {F G : Int→Int→Prop} {L M : List qgl}
theorem JN.big {N : List qb} {S T : qb→Prop} (h : JN F G N S) (b : ¬ N.length≤400) : JN F G N T:=⟨h.srt,h.sub,fun a=>absurd a b,h.len⟩
end
end Go.Sh
namespace Go.Sh
open Go Go.Am
open Classical
section
variable {F G : Int→Int→Prop} {N : List qb}
structure Zd (N : List qb) (i k : Nat) : Prop where
  lt : i < k
  hk : k < N.length
  eq : ∀ (h1 : i < N.length) (h2 : k < N.length),N[k].X = N[i].X
  no : ∀ j (h1 : i < N.length) (h2 : j < N.length),i < j→j < k→N[j].X≠N[i].X
structure Ze (N : List qb) (i k : Nat) : Prop where
  lt : i < k
  hk : k < N.length
  eq : ∀ (h1 : i < N.length) (h2 : k < N.length),N[k].Y = N[i].Y
  no : ∀ j (h1 : i < N.length) (h2 : j < N.length),i < j→j < k→N[j].Y≠N[i].Y
def q4i (F G : Int→Int→Prop) (N : List qb) (i k : Nat) : Prop:=∃ h : i < N.length,(Zd N i k∧G N[i].X N[i].Y)∨(Ze N i k∧F N[i].Y N[i].X)
structure q58 (F G : Int→Int→Prop) (N : List qb) (E : List qk) : Prop where
  srt : E.Pairwise ltG
  mem : ∀ e,e∈E↔∃ i k : Nat,e = {A:=(i : Int),B:=(k : Int)}∧q4i F G N i k
theorem qlx {N M : List qb} (h : Yl F G N) (a : Yl F G M) : N = M:=qdn q4m h.srt a.srt fun p=>by rw [h.mem,a.mem]
theorem qjg {D E : List qk} (h : q58 F G N D) (a : q58 F G N E) : D = E:=qdn ql6 h.srt a.srt fun p=>by rw [h.mem,a.mem]
theorem q17 (h : N.Pairwise ltP) {i j : Nat} (hi : i < N.length) (b : j < N.length) (a : i < j) : ltP N[i] N[j]:=List.pairwise_iff_getElem.1 h i j hi b a
theorem J9 (h : N.Pairwise ltP) {i j : Nat} (hi : i < N.length) (c : j < N.length) (a : ltP N[i] N[j]) : i < j:=by
  rcases Nat.lt_trichotomy i j with b | b | b
  · exact b
  · subst b;exact absurd a (q4m _ _ a)
  · exact absurd a (q4m _ _ (q17 h c hi b))
theorem qut (h : N.Pairwise ltP) {i k m : Nat} (c : Zd N i k) (b : Ze N i m) : k < m:=by
  have hi : i < N.length:=by have:=c.lt;have:=c.hk;omega
  have a:=q17 h hi b.hk b.lt;have e1:=c.eq hi c.hk;have d:=b.eq hi b.hk;refine J9 h c.hk b.hk ?_;unfold ltP at *;omega
theorem Jz {f : Int→Prop} {lo : Int} : ∀ (n : Nat),(∀ x,lo < x→x≤lo + n→(f x↔f (x - 1)))→(f lo↔f (lo + n))
  | 0,_=>by simp
  | n + 1,h=>by
    rw [Jz n fun x a b=>h x a q9,h (lo + ((n + 1 : Nat) : Int)) q9 q9]
    have : lo + ((n + 1 : Nat) : Int) - 1 = lo + (n : Int):=by omega
    rw [this]
theorem q63 {x y : Int} (h : ¬ Ky F G x y) : F y x↔F y (x - 1):=by
  by_cases e : F y x <;> by_cases w : F y (x - 1) <;> by_cases n : G x y <;> by_cases s : G x (y - 1) <;> simp [Ky,q61,e,w,n,s] at h ⊢
theorem q62 {x y : Int} (h : ¬ Ky F G x y) : G x y↔G x (y - 1):=by
  by_cases e : F y x <;> by_cases w : F y (x - 1) <;> by_cases n : G x y <;> by_cases s : G x (y - 1) <;> simp [Ky,q61,e,w,n,s] at h ⊢
theorem qng (b : Yl F G N) {i k : Nat} (h : Ze N i k) (hi : i < N.length) : F N[i].Y N[i].X↔F N[i].Y ((N[k]'h.hk).X - 1):=by
  have a:=q17 b.srt hi h.hk h.lt;have e:=h.eq hi h.hk;have j : N[i].X < (N[k]'h.hk).X:=by unfold ltP at a;omega
  obtain ⟨n,l⟩ : ∃ n : Nat,(N[k]'h.hk).X - 1 = N[i].X + n:=⟨((N[k]'h.hk).X - 1 - N[i].X).toNat,q9⟩
  have : ((N[k]'h.hk).X - 1) = N[i].X + n:=l;rw [this];refine Jz (f:=F N[i].Y) n fun x q p=>?_;refine q63 (G:=G) fun c=>?_;obtain ⟨m,d,g⟩:=List.mem_iff_getElem.1 ((b.mem {X:=x,Y:=N[i].Y}).2 c);have ex : N[m].X = x:=by rw [g]
  have o : N[m].Y = N[i].Y:=by rw [g]
  refine h.no m hi d (J9 b.srt hi d ?_) (J9 b.srt d h.hk ?_) o
  · unfold ltP;omega
  · unfold ltP;omega
theorem qix (b : Yl F G N) {i k : Nat} (h : Zd N i k) (hi : i < N.length) : G N[i].X N[i].Y↔G N[i].X ((N[k]'h.hk).Y - 1):=by
  have a:=q17 b.srt hi h.hk h.lt;have e:=h.eq hi h.hk;have j : N[i].Y < (N[k]'h.hk).Y:=by unfold ltP at a;omega
  obtain ⟨n,l⟩ : ∃ n : Nat,(N[k]'h.hk).Y - 1 = N[i].Y + n:=⟨((N[k]'h.hk).Y - 1 - N[i].Y).toNat,q9⟩
  have : ((N[k]'h.hk).Y - 1) = N[i].Y + n:=l;rw [this];refine Jz (f:=G N[i].X) n fun y p o=>?_;refine q62 (F:=F) fun c=>?_;obtain ⟨m,d,g⟩:=List.mem_iff_getElem.1 ((b.mem {X:=N[i].X,Y:=y}).2 c);have ex : N[m].X = N[i].X:=by rw [g]
  have q : N[m].Y = y:=by rw [g]
  refine h.no m hi d (J9 b.srt hi d ?_) (J9 b.srt d h.hk ?_) ex
  · unfold ltP;omega
  · unfold ltP;omega
theorem qyz (k : Yl F G N) (hb : ∀ y x,F y x→-1000000≤x) {i : Nat} (hi : i < N.length) (c : F N[i].Y (N[i].X - 1)) : ∃ j,∃ h : j < N.length,j < i∧N[j].Y = N[i].Y:=by
  refine Classical.byContradiction fun a=>?_
  have step : ∀ x,x < N[i].X→(F N[i].Y x↔F N[i].Y (x - 1)):=by
    intro x l;refine q63 (G:=G) fun b=>a ?_;obtain ⟨m,d,g⟩:=List.mem_iff_getElem.1 ((k.mem {X:=x,Y:=N[i].Y}).2 b);have ex : N[m].X = x:=by rw [g]
    have o : N[m].Y = N[i].Y:=by rw [g]
    exact ⟨m,d,J9 k.srt d hi (by unfold ltP;omega),o⟩
  have l:=hb _ _ c;obtain ⟨n,b⟩ : ∃ n : Nat,N[i].X - 1 = -1000001 + (n : Int):=⟨(N[i].X + 1000000).toNat,q9⟩
  have:=Jz (f:=F N[i].Y) (lo:=-1000001) n fun x q p=>step x q9;rw [← b] at this;have:=hb _ _ (this.2 c);omega
theorem qqj (k : Yl F G N) (hb : ∀ x y,G x y→-1000000≤y) {i : Nat} (hi : i < N.length) (c : G N[i].X (N[i].Y - 1)) : ∃ j,∃ h : j < N.length,j < i∧N[j].X = N[i].X:=by
  refine Classical.byContradiction fun a=>?_
  have step : ∀ y,y < N[i].Y→(G N[i].X y↔G N[i].X (y - 1)):=by
    intro y p;refine q62 (F:=F) fun b=>a ?_;obtain ⟨m,d,g⟩:=List.mem_iff_getElem.1 ((k.mem {X:=N[i].X,Y:=y}).2 b);have ex : N[m].X = N[i].X:=by rw [g]
    have r : N[m].Y = y:=by rw [g]
    exact ⟨m,d,J9 k.srt d hi (by unfold ltP;omega),ex⟩
  have q:=hb _ _ c;obtain ⟨n,b⟩ : ∃ n : Nat,N[i].Y - 1 = -1000001 + (n : Int):=⟨(N[i].Y + 1000000).toNat,q9⟩
  have:=Jz (f:=G N[i].X) (lo:=-1000001) n fun y o l=>step y q9;rw [← b] at this;have:=hb _ _ (this.2 c);omega
theorem q87 {P : Nat→Prop} : ∀ {n : Nat},(∃ j,j < n∧P j)→∃ j,j < n∧P j∧∀ m,j < m→m < n→¬ P m
  | 0,⟨j,h,_⟩=>by omega
  | n + 1,⟨j,h,hp⟩=>by
    by_cases e : P n
    · exact ⟨n,q9,e,fun m f a=>q9⟩
    · have : j≠n:=fun c=>e (c ▸ hp)
      obtain ⟨k,f,a,g⟩:=q87 (n:=n) ⟨j,q9,hp⟩
      refine ⟨k,q9,a,fun m d l=>?_⟩
      by_cases b : m = n
      · subst b;exact e
      · exact g m d q9
theorem qmr (f : Yl F G N) (hb : ∀ y x,F y x→-1000000≤x) {k : Nat} (hk : k < N.length) (c : F N[k].Y (N[k].X - 1)) : ∃ j,Ze N j k:=by
  obtain ⟨j,h,a,l⟩:=qyz f hb hk c;obtain ⟨m,p,⟨s,b⟩,d⟩:=q87 (P:=fun j=>∃ h : j < N.length,N[j].Y = N[k].Y) (n:=k) ⟨j,a,h,l⟩;exact ⟨m,p,hk,fun _ _=>b.symm,fun q _ g o r e=>d q o r ⟨g,by rw [e,b]⟩⟩
theorem qmq (f : Yl F G N) (hb : ∀ x y,G x y→-1000000≤y) {k : Nat} (hk : k < N.length) (c : G N[k].X (N[k].Y - 1)) : ∃ j,Zd N j k:=by
  obtain ⟨j,h,a,l⟩:=qqj f hb hk c;obtain ⟨m,p,⟨s,b⟩,d⟩:=q87 (P:=fun j=>∃ h : j < N.length,N[j].X = N[k].X) (n:=k) ⟨j,a,h,l⟩;exact ⟨m,p,hk,fun _ _=>b.symm,fun q _ g o r e=>d q o r ⟨g,by rw [e,b]⟩⟩
theorem Ze.uniq {i j k : Nat} (b : Ze N i k) (a : Ze N j k) : i = j:=by
  have hi : i < N.length:=by have:=b.lt;have:=b.hk;omega
  have c : j < N.length:=by have:=a.lt;have:=a.hk;omega
  have e1:=b.eq hi b.hk;have d:=a.eq c a.hk;rcases Nat.lt_trichotomy i j with h | h | h
  · exact absurd (by rw [← e1,← d]) (b.no j hi c h a.lt)
  · exact h
  · exact absurd (by rw [← e1,← d]) (a.no i c hi h b.lt)
theorem Zd.uniq {i j k : Nat} (b : Zd N i k) (a : Zd N j k) : i = j:=by
  have hi : i < N.length:=by have:=b.lt;have:=b.hk;omega
  have c : j < N.length:=by have:=a.lt;have:=a.hk;omega
  have e1:=b.eq hi b.hk;have d:=a.eq c a.hk;rcases Nat.lt_trichotomy i j with h | h | h
  · exact absurd (by rw [← e1,← d]) (b.no j hi c h a.lt)
  · exact h
  · exact absurd (by rw [← e1,← d]) (a.no i c hi h b.lt)
theorem qcm (c : Yl F G N) (f : ∀ y x,F y x→-1000000≤x) (d : ∀ x y,G x y→-1000000≤y) {k : Nat} (hk : k < N.length) (i : Nat) : q4i F G N i k↔(Ze N i k∧F N[k].Y (N[k].X - 1))∨(Zd N i k∧G N[k].X (N[k].Y - 1)):=by
  constructor
  · rintro ⟨hi,⟨a,b⟩ | ⟨a,b⟩⟩
    · have:=(qix c a hi).1 b;rw [← a.eq hi hk] at this;exact .inr ⟨a,this⟩
    · have:=(qng c a hi).1 b;rw [← a.eq hi hk] at this;exact .inl ⟨a,this⟩
  · rintro (⟨a,b⟩ | ⟨a,b⟩)
    · have hi : i < N.length:=by have:=a.lt;omega
      refine ⟨hi,.inr ⟨a,(qng c a hi).2 ?_⟩⟩;rw [← a.eq hi hk];exact b
    · have hi : i < N.length:=by have:=a.lt;omega
      refine ⟨hi,.inl ⟨a,(qix c a hi).2 ?_⟩⟩;rw [← a.eq hi hk];exact b
end
end Go.Sh
namespace Go.Sh
open Go Go.Am
open Classical
theorem q8d {α β : Type} [DecidableEq α] {z : β} {k a : α} {v : β} : ∀ {R : List (α × β)},K4 z a (K8 k v R) = if a = k then v else K4 z a R
  | []=>by simp only [K8,K4]
  | (b,w)::r=>by
    simp only [K8]
    by_cases e : k = b
    · subst e
      simp only [if_true,K4]
      by_cases c : a = k
      · simp [c]
      · simp [c]
    · rw [qu e]
      simp only [K4]
      rw [q8d (R:=r)]
      by_cases c : a = b
      · subst c
        have : ¬ a = k:=fun h=>e h.symm
        simp [this]
      · simp [c]
section
variable {F G : Int→Int→Prop} {N : List qb}
structure PE (F G : Int→Int→Prop) (N : List qb) (k : Nat) (c : List (Int × Int) × List (Int × Int) × List qk) : Prop where
  rm : ∀ j (h : j < N.length),j < k→(∀ m (h2 : m < N.length),j < m→m < k→N[m].Y≠N[j].Y)→K4 0 N[j].Y c.1 = (j : Int)
  cm : ∀ j (h : j < N.length),j < k→(∀ m (h2 : m < N.length),j < m→m < k→N[m].X≠N[j].X)→K4 0 N[j].X c.2.1 = (j : Int)
  nd : c.2.2.Nodup
  mem : ∀ e,e∈c.2.2↔∃ i q : Nat,q < k∧e = {A:=(i : Int),B:=(q : Int)}∧q4i F G N i q
  len : c.2.2.length≤2 * k
theorem qur {r : Ya} (h1 : Rep r.rows_ F) (h2 : Rep r.columns_ G) (hN : Yl F G N) (hl : N.length≤400) : ∃ E,loop (q3w (N,true) r) (0,[],[],[]) = some E∧E.Nodup∧(∀ e,e∈E↔∃ i q : Nat,e = {A:=(i : Int),B:=(q : Int)}∧q4i F G N i q)∧E.length≤2 * N.length:=by
  have hF : ∀ y x,F y x→-1000000≤x:=fun y x h=>(h1.bnd h).2.2.1;have hG : ∀ x y,G x y→-1000000≤y:=fun x y h=>(h2.bnd h).2.2.1;refine Yv (f:=q3w (N,true) r) (σ:=List (Int × Int) × List (Int × Int) × List qk) (fun k c=>((k : Int),c)) N.length (PE F G N) _ ?_ ?_ (k0:=0) (c0:=([],[],[])) q9 ⟨fun j h h'=>q9,fun j h h'=>q9,.nil,fun e=>⟨fun h=>(by cases h),fun ⟨i,q,h,_⟩=>q9⟩,qc⟩
  · rintro k ⟨rm,cm,E⟩ hk ⟨p1,p2,p3,p4,p5⟩;simp only at p1 p2 p3 p4 p5;have hb : decide ((k : Int) < (N.length : Int)) = true:=Q2 q9;have ap:=qd1 h1 h2 ((hN.mem N[k]).1 (Yf hk));have am : PtB N[k]:=ap;have o:=qcm hN hF hG hk
    have hold : ∀ i,({A:=(i : Int),B:=(k : Int)} : qk) ∉ E:=by
      intro i hm;obtain ⟨i',q,hq,l,_⟩:=(p4 _).1 hm;simp only [qk.mk.injEq] at l;omega
    have hw : ∃ u,(cond (decide (F N[k].Y (N[k].X - 1))) ((app 16 E [({A:=K4 0 N[k].Y rm,B:=(k : Int)} : qk)]).bind fun ak=>some ak) (some E)) = some u∧u.Nodup∧u.length≤E.length + 1∧∀ e,e∈u↔e∈E∨∃ i : Nat,e = {A:=(i : Int),B:=(k : Int)}∧Ze N i k∧F N[k].Y (N[k].X - 1):=by
      by_cases w : F N[k].Y (N[k].X - 1)
      · obtain ⟨j,g⟩:=qmr hN hF hk w;have d : j < N.length:=by have:=g.lt;omega
        have t : K4 0 N[k].Y rm = (j : Int):=by
          rw [g.eq d hk];exact p1 j d g.lt fun m p z h5=>g.no m d p z h5
        rw [Q2 w,Qb,t,Zu (by simp;omega)];refine ⟨_,rfl,?_,qc,fun e=>?_⟩
        · rw [List.nodup_append];exact ⟨p3,qc,fun a ha b hb e=>by rw [List.mem_singleton] at hb;subst hb;subst e;exact hold j ha⟩
        · rw [List.mem_append,List.mem_singleton];constructor
          · rintro (h | rfl)
            · exact .inl h
            · exact .inr ⟨j,rfl,g,w⟩
          · rintro (h | ⟨i,rfl,p,_⟩)
            · exact .inl h
            · rw [p.uniq g];exact .inr rfl
      · rw [Q6 w,Q4];exact ⟨E,rfl,p3,q9,fun e=>⟨.inl,fun h=>h.elim id fun ⟨_,_,_,h⟩=>absurd h w⟩⟩
    obtain ⟨u,e1,n1,l1,m1⟩:=hw
    have hs : ∃ E2,(cond (decide (G N[k].X (N[k].Y - 1))) ((app 16 u [({A:=K4 0 N[k].X cm,B:=(k : Int)} : qk)]).bind fun ao=>some ao) (some u)) = some E2∧E2.Nodup∧E2.length≤u.length + 1∧∀ e,e∈E2↔e∈u∨∃ i : Nat,e = {A:=(i : Int),B:=(k : Int)}∧Zd N i k∧G N[k].X (N[k].Y - 1):=by
      by_cases s : G N[k].X (N[k].Y - 1)
      · obtain ⟨j,g⟩:=qmq hN hG hk s;have d : j < N.length:=by have:=g.lt;omega
        have t : K4 0 N[k].X cm = (j : Int):=by
          rw [g.eq d hk];exact p2 j d g.lt fun m p z h5=>g.no m d p z h5
        rw [Q2 s,Qb,t,Zu (by simp;omega)];refine ⟨_,rfl,?_,qc,fun e=>?_⟩
        · rw [List.nodup_append];refine ⟨n1,qc,fun a ha b hb e=>?_⟩;rw [List.mem_singleton] at hb;subst hb;subst e;rcases (m1 _).1 ha with h | ⟨i,l,hy,_⟩
          · exact hold j h
          · simp only [qk.mk.injEq] at l;have aj : i = j:=by omega
            subst aj;have q1:=hy.eq d hk;have q2:=g.eq d hk;have:=q17 hN.srt d hk g.lt;unfold ltP at this;omega
        · rw [List.mem_append,List.mem_singleton];constructor
          · rintro (h | rfl)
            · exact .inl h
            · exact .inr ⟨j,rfl,g,s⟩
          · rintro (h | ⟨i,rfl,p,_⟩)
            · exact .inl h
            · rw [p.uniq g];exact .inr rfl
      · rw [Q6 s,Q4];exact ⟨u,rfl,n1,q9,fun e=>⟨.inl,fun h=>h.elim id fun ⟨_,_,_,h⟩=>absurd h s⟩⟩
    obtain ⟨E2,e2,n2,l2,m2⟩:=hs;refine .inl ⟨(K8 N[k].Y (k : Int) rm,K8 N[k].X (k : Int) cm,E2),?_,fun j g ai n=>?_,fun j g ai n=>?_,n2,fun e=>?_,by simp only;omega⟩
    · simp only [q3w,hb,Qb,Kf hk,qq,qe7 h1 h2 am,arB];rw [e1,qq,e2,qq,Qd q9];rfl
    · simp only;rw [q8d];by_cases v : N[j].Y = N[k].Y
      · rw [qr v];by_cases aa : j = k
        · subst aa;rfl
        · exact absurd v.symm (n k hk q9 q9)
      · rw [qu v];have : j≠k:=fun h=>by subst h;exact v rfl
        exact p1 j g q9 fun m p z h5=>n m p z q9
    · simp only;rw [q8d];by_cases v : N[j].X = N[k].X
      · rw [qr v];by_cases aa : j = k
        · subst aa;rfl
        · exact absurd v.symm (n k hk q9 q9)
      · rw [qu v];have : j≠k:=fun h=>by subst h;exact v rfl
        exact p2 j g q9 fun m p z h5=>n m p z q9
    · simp only;rw [m2,m1,p4];constructor
      · rintro ((⟨i,q,hq,l,h⟩ | ⟨i,l,h⟩) | ⟨i,l,h⟩)
        · exact ⟨i,q,q9,l,h⟩
        · exact ⟨i,k,q9,l,(o i).2 (.inl h)⟩
        · exact ⟨i,k,q9,l,(o i).2 (.inr h)⟩
      · rintro ⟨i,q,hq,l,h⟩;by_cases eq : q = k
        · subst eq;rcases (o i).1 h with h | h
          · exact .inl (.inr ⟨i,l,h⟩)
          · exact .inr ⟨i,l,h⟩
        · exact .inl (.inl ⟨i,q,q9,l,h⟩)
  · rintro ⟨rm,cm,E⟩ ⟨p1,p2,p3,p4,p5⟩;simp only at p3 p4 p5;have hb : decide ((N.length : Int) < (N.length : Int)) = false:=Q6 q9;refine ⟨E,by simp only [q3w,hb,Q4],p3,fun e=>?_,q9⟩;rw [p4];constructor
    · rintro ⟨i,q,_,l,h⟩;exact ⟨i,q,l,h⟩
    · rintro ⟨i,q,l,h⟩;obtain ⟨hi,h'⟩:=h;refine ⟨i,q,?_,l,hi,h'⟩;rcases h' with ⟨h,_⟩ | ⟨h,_⟩
      · exact h.hk
      · exact h.hk
theorem quq {r : Ya} (n : Rep r.rows_ F) (d : Rep r.columns_ G) (g : Yl F G N) (f : N.length≤400) : ∃ D E,loop (q3w (N,true) r) (0,[],[],[]) = some D∧q4r (fun c o=>q33 c o) D = some E∧E.length = D.length∧q58 F G N E∧E.length≤2 * N.length:=by
  obtain ⟨D,e1,l,b,k⟩:=qur n d g f
  have m : ∀ e∈D,PtB (eP2 e):=by
    intro e j;obtain ⟨i,q,rfl,hi,h⟩:=(b e).1 j;have t : q < N.length:=by rcases h with ⟨h,_⟩ | ⟨h,_⟩ <;> exact h.hk
    unfold PtB eP2;simp only;omega
  obtain ⟨E,s,a,p⟩:=q11m D q9 m l;exact ⟨D,E,e1,s,a.length_eq,⟨p,fun e=>by rw [a.mem_iff,b]⟩,by rw [a.length_eq];exact k⟩
end
end Go.Sh
namespace Go.Sh
open Go Go.Am
open Classical
section
variable {F G : Int→Int→Prop} {N : List qb} {L M : List qgl}
structure RE (F G : Int→Int→Prop) (N : List qb) (k : Nat) (E : List qk) : Prop where
  srt : E.Pairwise ltG
  mem : ∀ e,e∈E↔∃ i q : Nat,i < k∧e = {A:=(i : Int),B:=(q : Int)}∧q4i F G N i q
  len : E.length≤2 * k
end
structure J5 (F G : Int→Int→Prop) (n : Qq) : Prop where
  nodes : Yl F G n.Nodes
  edges : q58 F G n.Nodes n.Edges
  nlen : n.Nodes.length≤400
  elen : n.Edges.length≤2 * n.Nodes.length
theorem J5.uniq {F G : Int→Int→Prop} {n m : Qq} (h : J5 F G n) (a : J5 F G m) : n = m:=by
  obtain ⟨N,E⟩:=n;obtain ⟨c,b⟩:=m;have e : N = c:=qlx h.nodes a.nodes;subst e;have : E = b:=qjg h.edges a.edges;rw [this]
abbrev rowP (l : List qt) : Int→Int→Prop:=onL (q2v l)
abbrev colP (l : List qt) : Int→Int→Prop:=onL (q27 l)
def qbu (F G : Int→Int→Prop) : Prop:=∃ b : List qb,b.Nodup∧400 < b.length∧∀ p∈b,Ky F G p.X p.Y
theorem qbu.not {F G : Int→Int→Prop} (h : qbu F G) {N : List qb} (d : Yl F G N) : 400 < N.length:=by
  obtain ⟨b,a,f,c⟩:=h;have:=List.Nodup.length_le_of_subset a (l₂:=N) fun p hp=>(d.mem p).2 (c p hp);omega
theorem qg2 {l : List qt} (k : l.length≤400) (o : ∀ s∈l,SegV s) : (∃ n,q53 l = some (n,true)∧J5 (rowP l) (colP l) n)∨(q53 l = some ({Nodes:=[],Edges:=[]},false)∧qbu (rowP l) (colP l)):=by
  obtain ⟨r,e1,f,d⟩:=qc5 k o;unfold q53;rw [e1,qq];rcases qv0 f d with ⟨N,g,a,c⟩ | ⟨p,q,c⟩
  · left;obtain ⟨D,E,m,t,j,h,b⟩:=quq f d g a;rw [c];simp only [qq,Bool.not_true,Q4,m,t];have le : Qy E.length D.length = some ():=by unfold Qy;rw [qr j]
    rw [le,qq];refine ⟨{Nodes:=N,Edges:=E},?_,g,h,a,b⟩;rw [Q2 (show (D.length : Int)≤800 by omega)]
  · right;rw [c];exact ⟨rfl,p⟩
end Go.Sh
namespace Go.Sh
open Go Go.Am
open Classical
theorem beqI (a b : Int) : (a == b) = decide (a = b):=by
  by_cases h : a = b
  · rw [Q2 h];simpa using h
  · rw [Q6 h];simpa using h
theorem qfk (p : qb) : q52 p = some (decide (PtB p)):=by
  unfold q52;by_cases h : PtB p
  · have a:=h;unfold PtB at a;rw [Q2 h,Q2 (show min p.X p.Y ≥ -1000000 by omega),Qb,Q2 (show max p.X p.Y≤1000000 by omega)];rfl
  · have a:=h;unfold PtB at a;rw [Q6 h];by_cases b : min p.X p.Y ≥ -1000000
    · rw [Q2 b,Qb,Q6 (show ¬ max p.X p.Y≤1000000 by omega)];rfl
    · rw [Q6 b,Q4];rfl
theorem q6h (s : qt) : SegV s↔PtB s.A∧PtB s.B∧((s.A.X = s.B.X∧s.A.Y≠s.B.Y)∨(s.A.X≠s.B.X∧s.A.Y = s.B.Y)):=by
  constructor
  · rintro ⟨a,b,c⟩;exact ⟨a,b,c⟩
  · rintro ⟨a,b,c⟩;exact ⟨a,b,c⟩
theorem qhg (s : qt) : q7g s = some (decide (SegV s)):=by
  unfold q7g;rw [qfk,qq];by_cases a : PtB s.A
  · rw [Q2 a,Qb,qfk,qq,qq];by_cases b : PtB s.B
    · rw [Q2 b,Qb,qq];congr 1;rw [beqI,beqI];by_cases e1 : s.A.X = s.B.X <;> by_cases c : s.A.Y = s.B.Y <;> simp [q6h,a,b,e1,c]
    · rw [Q6 b,Q4,qq];simp [q6h,b]
  · rw [Q6 a,Q4,qq,Q4,qq];simp [q6h,a]
theorem qn1 (p : qb) : q68 p = some (decide (PtB p)):=by
  unfold q68;by_cases h : PtB p
  · have a:=h;unfold PtB at a;rw [Q2 h,Q2 (show p.X ≥ -1000000 by omega),Qb,Q2 (show p.X≤1000000 by omega),Q2 (show p.Y ≥ -1000000 by omega),Q2 (show p.Y≤1000000 by omega)];rfl
  · have a:=h;unfold PtB at a;rw [Q6 h];by_cases d : p.X ≥ -1000000 <;> by_cases b : p.X≤1000000 <;> by_cases f : p.Y ≥ -1000000 <;> by_cases c : p.Y≤1000000
    all_goals first | omega | (simp only [d,b,f,c,decide_true,decide_false,Qb,Q4,qq])
end Go.Sh
namespace Go.Sh
open Go Go.Am
open Classical
theorem dlt' {k n : Nat} (h : k < n) : decide ((k : Int) < (n : Int)) = true:=Q2 q9
theorem dnl' {n : Nat} : decide ((n : Int) < (n : Int)) = false:=Q6 q9
theorem beqP (a b : qb) : ((a.X == b.X) && ((a.Y == b.Y) && true)) = decide (a = b):=by
  obtain ⟨f,h⟩:=a;obtain ⟨bx,c⟩:=b;simp only [beqI,Bool.and_true,qb.mk.injEq];by_cases g : f = bx <;> by_cases d : h = c <;> simp [g,d]
theorem beqG (a b : qk) : ((a.A == b.A) && ((a.B == b.B) && true)) = decide (a = b):=by
  obtain ⟨f,h⟩:=a;obtain ⟨bx,c⟩:=b;simp only [beqI,Bool.and_true,qk.mk.injEq];by_cases g : f = bx <;> by_cases d : h = c <;> simp [g,d]
theorem q4e {α : Type} [DecidableEq α] {f : Int→Option (Int ⊕ (Unit ⊕ Bool))} {p q : List α} (j : p.length = q.length) (r : p.length≤1000000)
    (hs : ∀ k (a : k < p.length) (c : k < q.length),f (k : Int) = if p[k] = q[k] then some (.inl (w64 ((k : Int) + 1))) else some (.inr (.inr false))) (hd : f (p.length : Int) = some (.inr (.inl ()))) :
    loop f 0 = some (if p = q then .inl () else .inr false):=by
  have:=Yv (f:=f) (σ:=Unit) (fun k _=>(k : Int)) p.length (fun k _=>∀ i (a : i < p.length) (c : i < q.length),i < k→p[i] = q[i]) (fun o=>o = if p = q then .inl () else .inr false) ?_ ?_ (k0:=0) (c0:=()) q9 (fun i _ _ h=>q9)
  · obtain ⟨b,a,rfl⟩:=this;exact a
  · rintro k _ hk d;have c : k < q.length:=by omega
    have:=hs k hk c;by_cases e : p[k] = q[k]
    · rw [qr e,Qd q9] at this;refine .inl ⟨(),by rw [this];rfl,fun i g l n=>?_⟩;by_cases m : i = k
      · subst m;exact e
      · exact d i g l q9
    · rw [qu e] at this;refine .inr ⟨_,this,?_⟩;rw [qu];rintro rfl;exact e rfl
  · rintro _ d;refine ⟨_,hd,?_⟩;rw [qr];exact List.ext_getElem j fun i a c=>d i a c a
theorem qsc (p q : List qb) (d : p.length≤1000000) : q93 p q = some (decide (p = q)):=by
  unfold q93;by_cases a : p.length = q.length
  · have e1 : ((p.length : Int) != (q.length : Int)) = false:=by rw [a];simp
    have f : loop (q6k p q) 0 = some (if p = q then .inl () else .inr false):=by
      refine q4e a d (fun k b c=>?_) ?_
      · simp only [q6k,dlt' b,Qb,Kf b,Kf c,qq,beqP];by_cases e : p[k] = q[k] <;> simp [e]
      · simp only [q6k,dnl',Q4]
    rw [e1,Q4,f];by_cases e : p = q <;> simp [e]
  · have e1 : ((p.length : Int) != (q.length : Int)) = true:=by simp;omega
    rw [e1,Qb,Q6 (fun h=>a (by rw [h]))]
theorem qsb (p q : List qk) (d : p.length≤1000000) : q92 p q = some (decide (p = q)):=by
  unfold q92;by_cases a : p.length = q.length
  · have e1 : ((p.length : Int) != (q.length : Int)) = false:=by rw [a];simp
    have f : loop (q6j p q) 0 = some (if p = q then .inl () else .inr false):=by
      refine q4e a d (fun k b c=>?_) ?_
      · simp only [q6j,dlt' b,Qb,Kf b,Kf c,qq,beqG];by_cases e : p[k] = q[k] <;> simp [e]
      · simp only [q6j,dnl',Q4]
    rw [e1,Q4,f];by_cases e : p = q <;> simp [e]
  · have e1 : ((p.length : Int) != (q.length : Int)) = true:=by simp;omega
    rw [e1,Qb,Q6 (fun h=>a (by rw [h]))]
theorem qnm (p q : Qq) (b : p.Nodes.length≤1000000) (a : p.Edges.length≤1000000) : qbi p q = some (decide (p = q)):=by
  obtain ⟨N,E⟩:=p;obtain ⟨d,c⟩:=q;unfold qbi;simp only at b a ⊢;rw [qsc _ _ b,qq];by_cases e1 : N = d
  · rw [Q2 e1,Qb,qsb _ _ a];by_cases f : E = c <;> simp [e1,f]
  · rw [Q6 e1];simp [e1]
theorem qgt (p q : Qq) (c : p.Nodes.length≤1000000) (d : p.Edges.length≤1000000) : q2u p q = some (decide (p = q)):=by
  obtain ⟨N,E⟩:=p;obtain ⟨a,b⟩:=q;unfold q2u;simp only at c d ⊢;by_cases g : N.length = a.length
  · by_cases j : E.length = b.length
    · have e1 : ((N.length : Int) != (a.length : Int)) = false:=by rw [g];simp
      have l : ((E.length : Int) != (b.length : Int)) = false:=by rw [j];simp
      have f1 : loop (q6a {Nodes:=N,Edges:=E} {Nodes:=a,Edges:=b}) 0 = some (if N = a then .inl () else .inr false):=by
        refine q4e g c (fun k c d=>?_) ?_
        · simp only [q6a,dlt' c,Qb,Kf c,Kf d,qq,beqP];by_cases e : N[k] = a[k] <;> simp [e]
        · simp only [q6a,dnl',Q4]
      have m : loop (q6b {Nodes:=N,Edges:=E} {Nodes:=a,Edges:=b}) 0 = some (if E = b then .inl () else .inr false):=by
        refine q4e j d (fun k c d=>?_) ?_
        · simp only [q6b,dlt' c,Qb,Kf c,Kf d,qq,beqG];by_cases e : E[k] = b[k] <;> simp [e]
        · simp only [q6b,dnl',Q4]
      rw [e1,Q4,l,qq,Q4,f1,m];by_cases f : N = a <;> by_cases n : E = b <;> simp [f,n]
    · have e1 : ((N.length : Int) != (a.length : Int)) = false:=by rw [g];simp
      have l : ((E.length : Int) != (b.length : Int)) = true:=by simp;omega
      have f : ¬ E = b:=fun h=>j (by rw [h]);rw [e1,Q4,l,qq,Qb];simp [f]
  · have e1 : ((N.length : Int) != (a.length : Int)) = true:=by simp;omega
    have f : ¬ N = a:=fun h=>g (by rw [h]);rw [e1,Qb,qq,Qb];simp [f]
end Go.Sh
namespace Go.Sh
open Go Go.Am
open Classical
noncomputable def Ji (n : Qq) (e : qk) : qt:={A:=(n.Nodes[e.A.toNat]?).getD default,B:=(n.Nodes[e.B.toNat]?).getD default}
def eOk (n : Qq) (e : qk) : Prop:=(0≤e.A∧e.A < n.Nodes.length)∧(0≤e.B∧e.B < n.Nodes.length)∧SegV (Ji n e)
noncomputable def q4c (n : Qq) : List qt × Bool:=if ∀ e∈n.Edges,eOk n e then (n.Edges.map (Ji n),true) else ([],false)
theorem qck {N : List qb} {a : Int} (h : 0≤a∧a < N.length) : idx N a = some ((N[a.toNat]?).getD default):=by
  rw [q85 (k:=a.toNat) q9 q9,List.getElem?_eq_getElem q9];rfl
theorem qev (n : Qq) (r : n.Edges.length≤1000) : q7e n = some (q4c n):=by
  have:=Yv (f:=q32 n) (σ:=List qt) (fun k c=>((k : Int),c)) n.Edges.length (fun k c=>(∀ i (h : i < n.Edges.length),i < k→eOk n n.Edges[i])∧c = (n.Edges.take k).map (Ji n)) (fun o=>o = if ∀ e∈n.Edges,eOk n e then .inl (n.Edges.map (Ji n)) else .inr ([],false)) ?_ ?_ (k0:=0) (c0:=[]) q9 ⟨fun i h q=>q9,rfl⟩
  · obtain ⟨o,e,l⟩:=this;have e : loop (q32 n) (0,[]) = some o:=e;unfold q7e q4c;rw [e,l];by_cases h : ∀ e∈n.Edges,eOk n e
    · simp only [qr h];rfl
    · simp only [qu h];rfl
  · rintro k c hk ⟨g,rfl⟩;have hb : decide ((k : Int) < (n.Edges.length : Int)) = true:=Q2 q9
    have bad : ¬ eOk n n.Edges[k]→(Sum.inr ([],false) : List qt ⊕ (List qt × Bool)) = if ∀ e∈n.Edges,eOk n e then .inl (n.Edges.map (Ji n)) else .inr ([],false):=fun h=>by
      rw [qu (fun m=>h (m _ (Yf hk)))]
    by_cases a : (0≤n.Edges[k].A∧n.Edges[k].A < n.Nodes.length)∧(0≤n.Edges[k].B∧n.Edges[k].B < n.Nodes.length)
    · have d : (cond (decide ((min n.Edges[k].A n.Edges[k].B) < 0)) (some true) (some (decide ((max n.Edges[k].A n.Edges[k].B) ≥ (n.Nodes.length : Int))))) = some false:=by
        rw [Q6 q9,Q4,Q6 q9]
      have hs : ({A:=(n.Nodes[(n.Edges[k].A).toNat]?).getD default,B:=(n.Nodes[(n.Edges[k].B).toNat]?).getD default} : qt) = Ji n n.Edges[k]:=rfl;by_cases b : SegV (Ji n n.Edges[k])
      · refine .inl ⟨(n.Edges.take (k + 1)).map (Ji n),?_,fun i hi j=>?_,rfl⟩
        · simp only [q32,hb,Qb,Kf hk,qq,d,Q4,qck a.1,qck a.2,hs,qhg,Q2 b,Bool.not_true];rw [Zu (by simp;omega),qq,Qd q9,List.take_succ_eq_append_getElem hk,List.map_append];rfl
        · by_cases e : i = k
          · subst e;exact ⟨a.1,a.2,b⟩
          · exact g i hi q9
      · refine .inr ⟨_,?_,bad fun h=>b h.2.2⟩;simp only [q32,hb,Qb,Kf hk,qq,d,Q4,qck a.1,qck a.2,hs,qhg,Q6 b,Bool.not_false]
    · have d : (cond (decide ((min n.Edges[k].A n.Edges[k].B) < 0)) (some true) (some (decide ((max n.Edges[k].A n.Edges[k].B) ≥ (n.Nodes.length : Int))))) = some true:=by
        by_cases h : min n.Edges[k].A n.Edges[k].B < 0
        · rw [Q2 h];rfl
        · rw [Q6 h,Q4,Q2 q9]
      refine .inr ⟨_,?_,bad fun h=>a ⟨h.1,h.2.1⟩⟩;simp only [q32,hb,Qb,Kf hk,qq,d]
  · rintro c ⟨g,rfl⟩;have hb : decide ((n.Edges.length : Int) < (n.Edges.length : Int)) = false:=Q6 q9;refine ⟨.inl _,by simp only [q32,hb,Q4];rfl,?_⟩;rw [qr,List.take_length];intro e p;obtain ⟨i,hi,rfl⟩:=List.mem_iff_getElem.1 p;exact g i hi hi
end Go.Sh
namespace Go.Sh
open Go Go.Am
open Classical
def Nrf : Prop:=(0 : Nat) = 0
structure Jo (n : Qq) (l : List qt) : Prop where
  drawn : q4c n = (l,true)
  len : l.length = n.Edges.length
  le : n.Edges.length≤400
  val : ∀ s∈l,SegV s
  net : J5 (rowP l) (colP l) n
theorem qr5 {n : Qq} {l : List qt} (h : q4c n = (l,true)) : l = n.Edges.map (Ji n)∧∀ e∈n.Edges,eOk n e:=by
  unfold q4c at h;split at h
  · rename_i a;cases h;exact ⟨rfl,a⟩
  · cases h
def Fit (n : Qq) : Prop:=(n.Nodes.length≤100000∧n.Edges.length≤1000)∧(n.Edges.length≤400∨400 < n.Nodes.length∨800 < n.Edges.length)
theorem qzc {n : Qq} (p : Fit n) : ∃ c,q18 n = some c∧Nrf∧((c = 0∧∃ l,Jo n l)∨c = 4∨c = 8):=by
  obtain ⟨⟨f1,q⟩,u⟩:=p;unfold q18;by_cases k : 400 < n.Nodes.length∨800 < n.Edges.length
  · have e : (cond (decide ((n.Nodes.length : Int) > 400)) (some true) (some (decide ((n.Edges.length : Int) > 800)))) = some true:=by
      by_cases h : (n.Nodes.length : Int) > 400
      · rw [Q2 h];rfl
      · rw [Q6 h,Q4,Q2 q9]
    rw [e];exact ⟨4,rfl,rfl,.inr (.inl rfl)⟩
  · have e : (cond (decide ((n.Nodes.length : Int) > 400)) (some true) (some (decide ((n.Edges.length : Int) > 800)))) = some false:=by
      rw [Q6 q9,Q4,Q6 q9]
    have o : n.Edges.length≤400:=by omega
    rw [e,qq,Q4,qev n q,qq]
    cases hd : q4c n with
    | mk l b=>
      cases b with
      | false=>exact ⟨8,rfl,rfl,.inr (.inr rfl)⟩
      | true=>
        obtain ⟨j,r⟩:=qr5 hd
        have a : ∀ s∈l,SegV s:=by
          subst j;intro s hs;obtain ⟨e,t,rfl⟩:=List.mem_map.1 hs;exact (r e t).2.2
        have d : l.length = n.Edges.length:=by rw [j];simp
        simp only [Bool.not_true,Q4];rcases qg2 q9 a with ⟨m,e1,f⟩ | ⟨e1,f⟩
        · rw [e1];have:=f.nlen;have:=f.elen;simp only [qq,Bool.not_true,Q4,qnm m n q9 q9];by_cases g : m = n
          · subst g;rw [Q2 rfl];exact ⟨0,rfl,rfl,.inl ⟨rfl,l,hd,d,o,a,f⟩⟩
          · rw [Q6 g];exact ⟨8,rfl,rfl,.inr (.inr rfl)⟩
        · rw [e1];exact ⟨8,rfl,rfl,.inr (.inr rfl)⟩
theorem qgx {n : Qq} (a : Fit n) : ∃ l c,q3v n = some (l,c)∧Nrf∧q18 n = some c∧Nrf∧((c = 0∧Jo n l)∨((c = 4∨c = 8)∧l = [])):=by
  obtain ⟨c,e1,d,h⟩:=qzc a;unfold q3v;rw [e1];rcases h with ⟨rfl,l,b⟩ | h
  · refine ⟨l,0,?_,rfl,rfl,rfl,.inl ⟨rfl,b⟩⟩
    · simp only [qq];rw [qev n a.1.2,b.drawn];rfl
  · have : (c != 0) = true:=by rcases h with rfl | rfl <;> rfl
    refine ⟨[],c,?_,rfl,rfl,rfl,.inr ⟨h,rfl⟩⟩;simp only [qq,this,Qb]
end Go.Sh
namespace Go.Sh
open Go Go.Am
open Classical
abbrev net0 : Qq:={Nodes:=[],Edges:=[]}
theorem quc (l : List qt) (m : l.length≤400) : loop (q7c l) 0 = some (if ∀ s∈l,SegV s then .inl () else .inr (net0,8))∧Nrf:=by
  have key : ∀ f : Int→Option (Int ⊕ (Unit ⊕ (Qq × Int))),(∀ k (hk : k < l.length),f (k : Int) = if SegV l[k] then some (.inl (w64 ((k : Int) + 1))) else some (.inr (.inr (net0,8))))→f (l.length : Int) = some (.inr (.inl ()))→loop f 0 = some (if ∀ s∈l,SegV s then .inl () else .inr (net0,8)):=by
    intro f hs hd;have:=Yv (f:=f) (σ:=Unit) (fun k _=>(k : Int)) l.length (fun k _=>∀ i (hi : i < l.length),i < k→SegV l[i]) (fun o=>o = if ∀ s∈l,SegV s then .inl () else .inr (net0,8)) ?_ ?_ (k0:=0) (c0:=()) q9 (fun i hi h=>q9)
    · obtain ⟨b,j,rfl⟩:=this;exact j
    · rintro k _ hk c;have:=hs k hk;by_cases a : SegV l[k]
      · rw [qr a,Qd q9] at this;refine .inl ⟨(),by rw [this];rfl,fun i hi g=>?_⟩;by_cases e : i = k
        · subst e;exact a
        · exact c i hi q9
      · rw [qu a] at this;exact .inr ⟨_,this,by rw [qu (fun h=>a (h _ (Yf hk)))]⟩
    · rintro _ c;refine ⟨_,hd,?_⟩;rw [qr];intro s d;obtain ⟨i,hi,rfl⟩:=List.mem_iff_getElem.1 d;exact c i hi hi
  constructor
  · refine key _ (fun k hk=>?_) (by simp only [q7c,dnl',Q4]);simp only [q7c,dlt' hk,Qb,Kf hk,qq,qhg];by_cases h : SegV l[k]
    · rw [qr h,Q2 h];rfl
    · rw [qu h,Q6 h];rfl
  · rfl
theorem qfq {l : List qt} (a : l.length≤400) (b : ∀ s∈l,SegV s) : (∃ n,Jm l = some (n,0)∧Nrf∧J5 (rowP l) (colP l) n)∨(Jm l = some (net0,4)∧Nrf∧qbu (rowP l) (colP l)):=by
  unfold Jm;rw [Q6 (show ¬ (l.length : Int) > 400 by omega),Q4,(quc l a).1,qr b];rcases qg2 a b with ⟨n,e,h⟩ | ⟨e,h⟩
  · exact .inl ⟨n,by rw [qq,e];rfl,rfl,h⟩
  · exact .inr ⟨by rw [qq,e];rfl,rfl,h⟩
end Go.Sh
namespace Go.Sh
open Go Go.Am
open Classical
def Yp (s : qt) (p : qb) : Prop:=(min s.A.X s.B.X≤p.X∧p.X≤max s.A.X s.B.X)∧min s.A.Y s.B.Y≤p.Y∧p.Y≤max s.A.Y s.B.Y
theorem qvp (s : qt) (p : qb) : qdq s p = some (decide (Yp s p)):=by
  unfold qdq;by_cases h : Yp s p
  · rw [Q2 h];obtain ⟨⟨c,a⟩,d,b⟩:=h;rw [Q2 c,Qb,Q2 a,Q2 d,Q2 b];rfl
  · rw [Q6 h];unfold Yp at h;by_cases c : min s.A.X s.B.X≤p.X <;> by_cases a : p.X≤max s.A.X s.B.X <;> by_cases d : min s.A.Y s.B.Y≤p.Y <;> by_cases b : p.Y≤max s.A.Y s.B.Y
    all_goals first | (exfalso;exact h ⟨⟨c,a⟩,d,b⟩) | (simp only [c,a,d,b,decide_true,decide_false,Qb,Q4,qq])
theorem q10f (l : List qt) (p : qt→Option Bool) (c : qt→Bool) (h : ∀ t,p t = some (c t)) (n : l.length≤1000000) : qdh l p = some (l.any c):=by
  have:=Yv (f:=q6l l p) (σ:=Unit) (fun k _=>(k : Int)) l.length (fun k _=>∀ i (hi : i < l.length),i < k→c l[i] = false) (fun o=>(∃ k : Nat,o = .inr (k : Int)∧l.any c = true)∨(o = .inl ()∧l.any c = false)) ?_ ?_ (k0:=0) (c0:=()) q9 (fun i hi h=>q9)
  · obtain ⟨o,e,g⟩:=this;have e : loop (q6l l p) 0 = some o:=e;unfold qdh qnx;rw [e];rcases g with ⟨k,rfl,d⟩ | ⟨rfl,d⟩
    · simp only [qq,d];rw [Q2 (show (k : Int) ≥ 0 by omega)]
    · simp only [qq,d];rfl
  · rintro k _ hk b
    cases a : c l[k] with
    | true=>
      refine .inr ⟨.inr (k : Int),?_,.inl ⟨k,rfl,List.any_eq_true.2 ⟨_,Yf hk,a⟩⟩⟩;simp only [q6l,dlt' hk,Qb,Kf hk,qq,h,a]
    | false=>
      refine .inl ⟨(),?_,fun i hi m=>?_⟩
      · simp only [q6l,dlt' hk,Qb,Kf hk,qq,h,a,Q4];rw [Qd q9];rfl
      · by_cases e : i = k
        · subst e;exact a
        · exact b i hi q9
  · rintro _ b;refine ⟨.inl (),by simp only [q6l,dnl',Q4],.inr ⟨rfl,List.any_eq_false.2 fun x j=>?_⟩⟩;obtain ⟨i,hi,rfl⟩:=List.mem_iff_getElem.1 j;rw [b i hi hi];simp
noncomputable def q38 (l : List qt) (p : qb) : Bool:=l.any fun s=>decide (Yp s p)
theorem Jo.len400 {n : Qq} {l : List qt} (h : Jo n l) : l.length≤400:=by have:=h.len;have:=h.le;omega
theorem qkh {n : Qq} (k : Fit n) (p : qb) : ∃ b c,qoc n p = some (b,c)∧Nrf∧q18 n = some c∧(∀ l,Jo n l→b = q38 l p∧c = 0):=by
  obtain ⟨l,c,e1,w,d,_,h⟩:=qgx k;unfold qoc;rw [e1];rcases h with ⟨rfl,hs⟩ | ⟨h,rfl⟩
  · have u:=hs.len400;refine ⟨q38 l p,0,?_,rfl,d,fun l' a=>⟨?_,rfl⟩⟩
    · simp only [qq];show (qdh l fun j=>qod j p).bind (fun o=>some (o,0)) = _;rw [q10f l _ (fun s=>decide (Yp s p)) (fun t=>by show (qdq t p).bind _ = _;rw [qvp];rfl) q9];rfl
    · have:=hs.drawn;have:=a.drawn;simp_all
  · have q : (c != 0) = true:=by rcases h with rfl | rfl <;> rfl
    refine ⟨false,c,?_,rfl,d,fun l' a=>?_⟩
    · simp only [qq,q,Qb]
    · exfalso;unfold q18 at d;have v:=a.net.nlen;have r:=a.net.elen;rw [Q6 (show ¬ (n.Nodes.length : Int) > 400 by omega),Q4,Q6 (show ¬ (n.Edges.length : Int) > 800 by omega),qq,Q4,qev n q9,qq,a.drawn] at d;simp only [Bool.not_true,Q4] at d;rcases qg2 a.len400 a.val with ⟨m,g,f⟩ | ⟨g,f⟩
      · have:=f.uniq a.net;subst this;rw [g] at d;simp only [qq,Bool.not_true,Q4,qnm m m q9 q9,decide_true] at d;have : c = 0:=(Zj (show some (0 : Int) = some c from d)).symm;rcases h with rfl | rfl <;> cases this
      · have:=f.not a.net.nodes;omega
end Go.Sh
