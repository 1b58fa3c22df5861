/- Sq1 Sq2 St5 St6 St7 St8 St9 St10 St11 St12 St13 St14 St13b St14b St18 St15 -/
import Derived.Test.YtgkialgkmjnfbaaGreatK12
namespace Go.Sh
open Go Go.Am
theorem qyi : qbh = q4h:=rfl
theorem qxj : q2y = q3l:=by
  funext p0;simp only [q2y,q3l,qyi]
  all_goals exact Qm
theorem qmc : Uh = q1p:=by
  funext p0;simp only [Uh,q1p,qxj]
  all_goals exact Qm
theorem qxv : q1a = q2r:=by
  funext p0;simp only [q1a,q2r,qmc]
  all_goals exact Qm
theorem qyj : q1b = q2u:=by
  funext p0;simp only [q1b,q2u]
  all_goals exact Qm
theorem qxt : q9t = Ua:=by
  funext p1 q1 a459;simp only [q9t,Ua]
  all_goals exact Qm
theorem qxs : q9s = q1t:=by
  funext p2 p1 q1 a278;simp only [q9s,q1t,qxt]
  all_goals exact Qm
theorem qxr : q9r = q2q:=by
  funext q1 p0 p1 p2;simp only [q9r,q2q,qxs]
  all_goals exact Qm
theorem qyh : qb7 = Ue:=by
  funext p2 p3 q1 a197;simp only [qb7,Ue]
  all_goals exact Qm
theorem qme : q75 = q11:=by
  funext q1 p0 p1 p2 p3;simp only [q75,q11,qyh]
  all_goals exact Qm
theorem qxp : q9j = q1r:=by
  funext q1 p2 p1 a123;simp only [q9j,q1r,qme]
  all_goals exact Qm
theorem qxq : q9k = q1s:=by
  funext p1 q1 a191;simp only [q9k,q1s,qme]
  all_goals exact Qm
theorem qxo : q9i = q2p:=by
  funext q1 p0 p1 p2;simp only [q9i,q2p,qxp,qxq]
  all_goals exact Qm
theorem qxw : q4t = Uw:=by
  funext q1 p0 p1 p2 p3;simp only [q4t,Uw]
  all_goals exact Qm
theorem qmd : q6n = Uv:=by
  funext q1 p0 p1 p2 p3 p4;simp only [q6n,Uv,qxw]
  all_goals exact Qm
theorem qxu : q4q = Ub:=by
  funext q1 p0 p1 p2;simp only [q4q,Ub,qmd]
  all_goals exact Qm
theorem qxn : q9d = q2o:=by
  funext p0 p1 p2 p3;simp only [q9d,q2o,qmd,qxu]
  all_goals exact Qm
theorem qyg : qb3 = q1z:=by
  funext a119;simp only [qb3,q1z]
  all_goals exact Qm
theorem qyf : qb2 = q1y:=by
  funext q1 p0 p1 p2;simp only [qb2,q1y,qyg]
  all_goals exact Qm
theorem qxz : qa0 = Ux:=by
  funext p2 a438 q1 a681;simp only [qa0,Ux]
  all_goals exact Qm
theorem qy0 : qa1 = Uc:=by
  funext q1 a838;simp only [qa1,Uc]
  all_goals exact Qm
theorem qy1 : qa2 = Uy:=by
  funext p2 q1 b684 a928;simp only [qa2,Uy]
  all_goals exact Qm
theorem qxy : q6s = Zz:=by
  funext p2 q1 p1 a438;have a : @q6s.match_1.{1} = @Zz.match_1.{1} qa:=by funext motive m f g;cases m <;> rfl
  unfold q6s Zz;rw [a];simp only [qxz,qy0,qy1]
theorem qxx : q6r = Ju:=by
  funext q1 p0 p1 p2;have a : @q6r.match_1.{1} = @Ju.match_1.{1} qa:=by funext motive m f g;cases m <;> rfl
  unfold q6r Ju;rw [a];simp only [qxy]
theorem qy5 : qau = Uz:=by
  funext a318 p1 q1 a378;simp only [qau,Uz]
  all_goals exact Qm
theorem qy6 : qav = q10:=by
  funext b381 a318 p1 q1 a463;simp only [qav,q10]
  all_goals exact Qm
theorem qy4 : qat = q1w:=by
  funext p1 q1 a318;simp only [qat,q1w,qy5,qy6]
  all_goals exact Qm
theorem qy3 : qas = q1v:=by
  funext q1 p0 p1 p2 p3;simp only [qas,q1v,qy4]
  all_goals exact Qm
theorem qy7 : qad = q2s:=by
  funext p2 p0 p1 v101 p3 v103 q1 a163;simp only [qad,q2s]
  all_goals exact Qm
theorem qy8 : qae = q2t:=by
  funext b166 p0 p1 v101 p3 v103 q1 a249;simp only [qae,q2t]
  all_goals exact Qm
theorem qya : qag = Jg:=by
  funext a514 p1 q1 a572;simp only [qag,Jg]
  all_goals exact Qm
theorem qyb : qah = Jh:=by
  funext b575 a514 p1 q1 a658;simp only [qah,Jh]
  all_goals exact Qm
theorem qy9 : qaf = q1x:=by
  funext p1 q1 a514;simp only [qaf,q1x,qya,qyb]
  all_goals exact Qm
theorem qy2 : qac = q1u:=by
  funext q1 p0 p1 p2 p3;simp only [qac,q1u,qy7,qy8,qy9]
  all_goals exact Qm
theorem qxm : q99 = Uu:=by
  funext p1 p2 r101 a153;simp only [q99,Uu,qyj]
  all_goals exact Qm
theorem qxl : q98 = q1q:=by
  funext q1 p0 p1 p2;simp only [q98,q1q,qxv,qxm]
  all_goals exact Qm
theorem qyd : q6z = Zo:=by
  funext q1 rec a412;have a : @q6z.match_1.{1} = @Zo.match_1.{1} qa:=by funext motive m f g;cases m <;> rfl
  unfold q6z Zo;rw [a];simp only [qxr,qxo,qxn,qyf,qxx,qy3,qy2,qxl]
theorem qye : q70 = Ud:=by
  funext rec q1 p0 p1 p2 p3;simp only [q70,Ud,qyd]
  all_goals exact Qm
theorem qyc : ∀ N q,q6y N q = Zj N q:=by
  intro N q
  induction N with
  | zero=>rfl
  | succ N ih=>
    funext a b c d;show q70 (q6y N q) q a b c d = Ud (Zj N q) q a b c d;rw [ih,qye]
theorem qxk : q6k = q2n:=by
  funext q1 p0;simp only [q6k,q2n,qmc,qyc]
  all_goals exact Qm
end Go.Sh
namespace Go.Sh
open Go Go.Am
theorem qs3 : qbh = q4h:=rfl
theorem qr4 : q2y = q3l:=by
  funext p0;simp only [q2y,q3l,qs3]
  all_goals exact Qm
theorem qj1 : Uh = q1p:=by
  funext p0;simp only [Uh,q1p,qr4]
  all_goals exact Qm
theorem qrg : q1a = q2r:=by
  funext p0;simp only [q1a,q2r,qj1]
  all_goals exact Qm
theorem qs4 : q1b = q2u:=by
  funext p0;simp only [q1b,q2u]
  all_goals exact Qm
theorem qre : q9q = Ua:=by
  funext p1 q1 a459;simp only [q9q,Ua]
  all_goals exact Qm
theorem qrd : q9p = q1t:=by
  funext p2 p1 q1 a278;simp only [q9p,q1t,qre]
  all_goals exact Qm
theorem qrc : q9o = q2q:=by
  funext q1 p0 p1 p2;simp only [q9o,q2q,qrd]
  all_goals exact Qm
theorem qs2 : qb6 = Ue:=by
  funext p2 p3 q1 a197;simp only [qb6,Ue]
  all_goals exact Qm
theorem qj3 : q74 = q11:=by
  funext q1 p0 p1 p2 p3;simp only [q74,q11,qs2]
  all_goals exact Qm
theorem qra : q9g = q1r:=by
  funext q1 p2 p1 a123;simp only [q9g,q1r,qj3]
  all_goals exact Qm
theorem qrb : q9h = q1s:=by
  funext p1 q1 a191;simp only [q9h,q1s,qj3]
  all_goals exact Qm
theorem qr9 : q9f = q2p:=by
  funext q1 p0 p1 p2;simp only [q9f,q2p,qra,qrb]
  all_goals exact Qm
theorem qrh : q4s = Uw:=by
  funext q1 p0 p1 p2 p3;simp only [q4s,Uw]
  all_goals exact Qm
theorem qj2 : q6m = Uv:=by
  funext q1 p0 p1 p2 p3 p4;simp only [q6m,Uv,qrh]
  all_goals exact Qm
theorem qrf : q4p = Ub:=by
  funext q1 p0 p1 p2;simp only [q4p,Ub,qj2]
  all_goals exact Qm
theorem qr8 : q9c = q2o:=by
  funext p0 p1 p2 p3;simp only [q9c,q2o,qj2,qrf]
  all_goals exact Qm
theorem qs1 : qb1 = q1z:=by
  funext a119;simp only [qb1,q1z]
  all_goals exact Qm
theorem qs0 : qb0 = q1y:=by
  funext q1 p0 p1 p2;simp only [qb0,q1y,qs1]
  all_goals exact Qm
theorem qrk : q9x = Ux:=by
  funext p2 a438 q1 a681;simp only [q9x,Ux]
  all_goals exact Qm
theorem qrl : q9y = Uc:=by
  funext q1 a838;simp only [q9y,Uc]
  all_goals exact Qm
theorem qrm : q9z = Uy:=by
  funext p2 q1 b684 a928;simp only [q9z,Uy]
  all_goals exact Qm
theorem qrj : q6q = Zz:=by
  funext p2 q1 p1 a438;have a : @q6q.match_1.{1} = @Zz.match_1.{1} qg:=by funext motive m f g;cases m <;> rfl
  unfold q6q Zz;rw [a];simp only [qrk,qrl,qrm]
theorem qri : q6p = Ju:=by
  funext q1 p0 p1 p2;have a : @q6p.match_1.{1} = @Ju.match_1.{1} qg:=by funext motive m f g;cases m <;> rfl
  unfold q6p Ju;rw [a];simp only [qrj]
theorem qrq : qaq = Uz:=by
  funext a318 p1 q1 a378;simp only [qaq,Uz]
  all_goals exact Qm
theorem qrr : qar = q10:=by
  funext b381 a318 p1 q1 a463;simp only [qar,q10]
  all_goals exact Qm
theorem qrp : qap = q1w:=by
  funext p1 q1 a318;simp only [qap,q1w,qrq,qrr]
  all_goals exact Qm
theorem qro : qao = q1v:=by
  funext q1 p0 p1 p2 p3;simp only [qao,q1v,qrp]
  all_goals exact Qm
theorem qrs : qa7 = q2s:=by
  funext p2 p0 p1 v101 p3 v103 q1 a163;simp only [qa7,q2s]
  all_goals exact Qm
theorem qrt : qa8 = q2t:=by
  funext b166 p0 p1 v101 p3 v103 q1 a249;simp only [qa8,q2t]
  all_goals exact Qm
theorem qrv : qaa = Jg:=by
  funext a514 p1 q1 a572;simp only [qaa,Jg]
  all_goals exact Qm
theorem qrw : qab = Jh:=by
  funext b575 a514 p1 q1 a658;simp only [qab,Jh]
  all_goals exact Qm
theorem qru : qa9 = q1x:=by
  funext p1 q1 a514;simp only [qa9,q1x,qrv,qrw]
  all_goals exact Qm
theorem qrn : qa6 = q1u:=by
  funext q1 p0 p1 p2 p3;simp only [qa6,q1u,qrs,qrt,qru]
  all_goals exact Qm
theorem qr7 : q97 = Uu:=by
  funext p1 p2 r101 a153;simp only [q97,Uu,qs4]
  all_goals exact Qm
theorem qr6 : q96 = q1q:=by
  funext q1 p0 p1 p2;simp only [q96,q1q,qrg,qr7]
  all_goals exact Qm
theorem qry : q6w = Zo:=by
  funext q1 rec a412;have a : @q6w.match_1.{1} = @Zo.match_1.{1} qg:=by funext motive m f g;cases m <;> rfl
  unfold q6w Zo;rw [a];simp only [qrc,qr9,qr8,qs0,qri,qro,qrn,qr6]
theorem qrz : q6x = Ud:=by
  funext rec q1 p0 p1 p2 p3;simp only [q6x,Ud,qry]
  all_goals exact Qm
theorem qrx : ∀ N q,q6v N q = Zj N q:=by
  intro N q
  induction N with
  | zero=>rfl
  | succ N ih=>
    funext a b c d;show q6x (q6v N q) q a b c d = Ud (Zj N q) q a b c d;rw [ih,qrz]
theorem qr5 : q4o = q2n:=by
  funext q1 p0;simp only [q4o,q2n,qj1,qrx]
  all_goals exact Qm
end Go.Sh
namespace Go.Sh
open Go Go.Am
theorem qdm {α : Type} {lt : α→α→Prop} (hs : ∀ a b,lt a b→¬ lt b a) : ∀ {s t : List α},s.Pairwise lt→t.Pairwise lt→(∀ x,x∈s↔x∈t)→s = t
  | [],[],_,_,_=>rfl
  | [],b::t,_,_,h=>by have:=(h b).2 qd;cases this
  | a::s,[],_,_,h=>by have:=(h a).1 qd;cases this
  | a::s,b::t,h1,h2,h=>by
    rw [List.pairwise_cons] at h1 h2
    have e : a = b:=by
      rcases List.mem_cons.1 ((h a).1 qd) with e | e
      · exact e
      · rcases List.mem_cons.1 ((h b).2 qd) with d | d
        · exact d.symm
        · exact absurd (h1.1 b d) (hs _ _ (h2.1 a e))
    subst e
    congr 1
    refine qdm hs h1.2 h2.2 fun x=>⟨fun c=>?_,fun c=>?_⟩
    · rcases List.mem_cons.1 ((h x).1 (by simp [c])) with rfl | e
      · exact absurd (h1.1 x c) (hs _ _ (h1.1 x c))
      · exact e
    · rcases List.mem_cons.1 ((h x).2 (by simp [c])) with rfl | e
      · exact absurd (h2.1 x c) (hs _ _ (h2.1 x c))
      · exact e
def ltP (a b : qa) : Prop:=a.X < b.X∨(a.X = b.X∧a.Y < b.Y)
instance (a b : qa) : Decidable (ltP a b):=by unfold ltP;exact inferInstance
theorem q4j (a b : qa) : ltP a b→¬ ltP b a:=by unfold ltP;omega
theorem qkx {a b : qa} (h : ¬ ltP a b) (d : a≠b) : ltP b a:=by
  obtain ⟨f,j⟩:=a;obtain ⟨bx,c⟩:=b;have : ¬ (f = bx∧j = c):=fun ⟨g,h3⟩=>d (by rw [g,h3]);unfold ltP at *;simp only at *;omega
theorem swoP : Sort.SWO (fun a b=>decide (ltP a b)) where
  irrefl:=by intro x;simp only [decide_eq_false_iff_not,ltP];omega
  trans:=by
    intro x y z d c;have d:=of_decide_eq_true d;have c:=of_decide_eq_true c;exact Q9 (by unfold ltP at *;omega)
  ntrans:=by
    intro x y z d c;have d:=of_decide_eq_false d;have c:=of_decide_eq_false c;exact Qa (by unfold ltP at *;omega)
instance : Inhabited qa:=⟨⟨0,0⟩⟩
instance : Inhabited qg:=⟨⟨0,0⟩⟩
theorem qis {x y : qa} (c : PtB x) (b : PtB y) : ∃ n : Int,q29 x y = some n∧decide (n < 0) = decide (ltP x y):=by
  obtain ⟨f,g,j,d⟩:=c;obtain ⟨b1,b2,k,h⟩:=b;unfold q29 ltP;by_cases e : x.X = y.X
  · have a : (x.X != y.X) = false:=by simp [e]
    rw [a,Q6,Qh q8];exact ⟨_,rfl,decide_eq_decide.2 q8⟩
  · have a : (x.X != y.X) = true:=by simp [e]
    rw [a,Qb,Qh q8];exact ⟨_,rfl,decide_eq_decide.2 q8⟩
theorem q122 (xs : List qa) (l : xs.length≤1000000) (hb : ∀ p∈xs,PtB p) (q : xs.Nodup) : ∃ ys,q6k (fun c f=>q29 c f) xs = some ys∧ys.Perm xs∧ys.Pairwise ltP:=by
  have cmp : Ya (fun c f=>q29 c f) (fun a b=>decide (ltP a b)) PtB:=by
    intro x y o m;exact qis o m
  obtain ⟨ys,j,g,n⟩:=qh1 cmp swoP xs l hb;refine ⟨ys,by rw [qxk];exact j,g,?_⟩;have d:=(g.nodup_iff).2 q;refine (n.and d).imp ?_;rintro a b ⟨h,k⟩;exact qkx (of_decide_eq_false h) (fun e=>k e.symm)
def eP2 (e : qg) : qa:={X:=e.A,Y:=e.B}
def ltG (a b : qg) : Prop:=ltP (eP2 a) (eP2 b)
theorem qkw (a b : qg) : ltG a b→¬ ltG b a:=q4j _ _
theorem q121 (xs : List qg) (k : xs.length≤1000000) (hb : ∀ p∈xs,PtB (eP2 p)) (q : xs.Nodup) : ∃ ys,q4o (fun f j=>q38 f j) xs = some ys∧ys.Perm xs∧ys.Pairwise ltG:=by
  have cmp : Ya (fun f j=>q38 f j) (fun a b=>decide (ltP (eP2 a) (eP2 b))) (fun e=>PtB (eP2 e)):=by
    intro x y o l;obtain ⟨n,c,d⟩:=qis o l;refine ⟨n,?_,d⟩;show q38 x y = _;unfold q38;have c : q29 {X:=x.A,Y:=x.B} {X:=y.A,Y:=y.B} = some n:=c;rw [c];rfl
  have h : Sort.SWO (fun a b : qg=>decide (ltP (eP2 a) (eP2 b))):=⟨fun x=>swoP.irrefl (eP2 x),fun x y z=>swoP.trans (eP2 x) (eP2 y) (eP2 z),fun x y z=>swoP.ntrans (eP2 x) (eP2 y) (eP2 z)⟩
  obtain ⟨ys,c,d,m⟩:=qh1 cmp h xs k hb;refine ⟨ys,by rw [qr5];exact c,d,?_⟩;have g:=(d.nodup_iff).2 q;refine (m.and g).imp ?_;rintro ⟨t,u⟩ ⟨b1,b2⟩ ⟨r,s⟩;refine qkx (of_decide_eq_false r) (fun e=>s ?_);simp only [eP2,qa.mk.injEq] at e;rw [e.1,e.2]
structure KS (a : List (qa × Bool)) (S : qa→Prop) : Prop where
  nd : (a.map (·.1)).Nodup
  val : ∀ e∈a,e.2 = true
  mem : ∀ p,p∈a.map (·.1)↔S p
theorem KS.nil : KS [] (fun _=>False):=⟨.nil,fun e h=>(by cases h),fun p=>qd⟩
theorem KS.put {a : List (qa × Bool)} {S : qa→Prop} (h : KS a S) (p : qa) : KS (K8 p true a) (fun q=>S q∨q = p):=by
  refine ⟨qfv h.nd,?_,fun q=>?_⟩
  · rintro ⟨q,b⟩ c;rcases (qfn h.nd q b).1 c with ⟨_,rfl⟩ | ⟨_,c⟩
    · rfl
    · exact h.val _ c
  · rw [q8l,h.mem];exact or_comm
theorem KS.congr {a : List (qa × Bool)} {S T : qa→Prop} (h : KS a S) (e : ∀ p,S p↔T p) : KS a T:=⟨h.nd,h.val,fun p=>(h.mem p).trans (e p)⟩
theorem KS.perm {a b : List (qa × Bool)} {S : qa→Prop} (h : KS a S) (c : KS b S) : a.Perm b:=by
  have o : a.Nodup:=(List.pairwise_map.1 h.nd).imp fun h e=>h (by rw [e]);have n : b.Nodup:=(List.pairwise_map.1 c.nd).imp fun h e=>h (by rw [e]);rw [List.perm_ext_iff_of_nodup o n];rintro ⟨p,v⟩
  have key : ∀ {x y : List (qa × Bool)},KS x S→KS y S→(p,v)∈x→(p,v)∈y:=by
    intro x y k j l;have m:=k.val _ l;obtain ⟨⟨q,w⟩,d,e⟩:=List.mem_map.1 ((j.mem p).2 ((k.mem p).1 (List.mem_map_of_mem (f:=(·.1)) l)));have g:=j.val _ d;simp only at m g e;rw [m];rw [← g,← e];exact d
  exact ⟨key h c,key c h⟩
theorem KS.le {a b : List (qa × Bool)} {S T : qa→Prop} (h : KS a S) (d : KS b T) (c : ∀ p,S p→T p) : a.length≤b.length:=by
  have:=List.Nodup.length_le_of_subset h.nd (l₂:=b.map (·.1)) fun p hp=>(d.mem p).2 (c p ((h.mem p).1 hp));simpa using this
theorem q5p {α ε ρ : Type} {R : α→ε→Option (α ⊕ ρ)} {a a' : α} {e : ε} {l : List ε} (h : R a e = some (.inl a')) : Kq R (e::l) a = Kq R l a':=by simp only [Kq,h]
theorem qu5 {α ε ρ : Type} {R : α→ε→Option (α ⊕ ρ)} {a : α} {x : ρ} {e : ε} {l : List ε} (h : R a e = some (.inr x)) : Kq R (e::l) a = some (.inr x):=by simp only [Kq,h]
end Go.Sh
namespace Go.Sh
open Go Go.Am
open Classical
theorem qg7 {α ε ρ : Type} {E : α→α→Prop} {R : α→ε→Option (α ⊕ ρ)} {es : List ε} {a : α} (h : ∀ l : List ε,l.Perm es→∃ m b,Kq R es a = some m∧Kq R l a = some b∧MEq E b m) : q19 E R es a = some ():=by
  unfold q19;rw [qu h]
theorem q10t {ε β : Type} {F : List ε→Option β} {es : List ε} (h : ∀ l : List ε,l.Perm es→F l = F es) : q4n F es = some ():=by
  unfold q4n;rw [qu h]
section
variable {F G : Int→Int→Prop} {r : Yc}
def U0 (F G : Int→Int→Prop) (y : Int) (t : ql) (p : qa) : Prop:=p.Y = y∧(((p.X = t.Lo∨p.X = t.Hi)∧Y4 F G p.X p.Y)∨(t.Lo < p.X∧p.X < t.Hi∧(G p.X y∨G p.X (y - 1))))
def q7p (F G : Int→Int→Prop) (x : Int) (t : ql) (p : qa) : Prop:=p.X = x∧(p.Y = t.Lo∨p.Y = t.Hi)∧Y4 F G p.X p.Y
theorem qom (j : Rep r.columns_ G) {t : ql} {y : Int} {w : List ql} (m : -1000000≤y∧y≤1000000) {c : Int × List ql} (k : c∈r.columns_) (a : List (qa × Bool)) :
    q43 t (y,w) a c = some (.inl (if t.Lo < c.1∧c.1 < t.Hi∧(G c.1 y∨G c.1 (y - 1)) then K8 ({X:=c.1,Y:=y} : qa) true a else a)):=by
  obtain ⟨x,h⟩:=c;have l:=j.len x h k;have hp:=j.pts x h k;unfold q43;simp only;by_cases b : t.Lo < x
  · rw [Q9 (show x > t.Lo from b),Qb,qr];by_cases d : x < t.Hi
    · rw [Q9 d,Qb,q5l _ _ q8,qr,Qh q8,q5l _ _ q8];rw [decide_eq_decide.2 (hp y),decide_eq_decide.2 (hp (y - 1))];by_cases g : G x y
      · rw [Q9 g];simp [b,d,g]
      · rw [Qa g];by_cases f : G x (y - 1)
        · rw [Q9 f];simp [b,d,f]
        · rw [Qa f];simp [b,d,g,f]
    · rw [Qa d];simp [d]
  · rw [Qa (show ¬ x > t.Lo from b)];simp [b]
theorem q7k (f : Rep r.columns_ G) {t : ql} {y : Int} {w : List ql} (g : -1000000≤y∧y≤1000000) : ∀ (l : List (Int × List ql)),(∀ c∈l,c∈r.columns_)→∀ {a : List (qa × Bool)} {S : qa→Prop},KS a S→
    ∃ a',Kq (q43 t (y,w)) l a = some (.inl a')∧KS a' (fun p=>S p∨∃ c∈l,p = {X:=c.1,Y:=y}∧t.Lo < c.1∧c.1 < t.Hi∧(G c.1 y∨G c.1 (y - 1)))
  | [],_,a,S,h=>⟨a,rfl,h.congr fun p=>qd⟩
  | c::l,hl,a,S,h=>by
    have hs:=qom f (t:=t) (w:=w) g (hl c qd) a
    by_cases b : t.Lo < c.1∧c.1 < t.Hi∧(G c.1 y∨G c.1 (y - 1))
    · rw [qu b] at hs
      obtain ⟨a',e1,j⟩:=q7k f g l (fun d hd=>hl d (by simp [hd])) (h.put {X:=c.1,Y:=y})
      refine ⟨a',by rw [q5p hs];exact e1,j.congr fun p=>?_⟩
      constructor
      · rintro ((h | h) | ⟨d,hd,h⟩)
        · exact .inl h
        · exact .inr ⟨c,qd,h,b⟩
        · exact .inr ⟨d,by simp [hd],h⟩
      · rintro (h | ⟨d,hd,h⟩)
        · exact .inl (.inl h)
        · rcases List.mem_cons.1 hd with rfl | hd
          · exact .inl (.inr h.1)
          · exact .inr ⟨d,hd,h⟩
    · rw [qw b] at hs
      obtain ⟨a',e1,j⟩:=q7k f g l (fun d hd=>hl d (by simp [hd])) h
      refine ⟨a',by rw [q5p hs];exact e1,j.congr fun p=>?_⟩
      constructor
      · rintro (h | ⟨d,hd,h⟩)
        · exact .inl h
        · exact .inr ⟨d,by simp [hd],h⟩
      · rintro (h | ⟨d,hd,h⟩)
        · exact .inl h
        · rcases List.mem_cons.1 hd with rfl | hd
          · exact absurd h.2 b
          · exact .inr ⟨d,hd,h⟩
theorem qon (f : Rep r.columns_ G) {t : ql} {y : Int} {w : List ql} (g : -1000000≤y∧y≤1000000) {a : List (qa × Bool)} {S : qa→Prop} (h : KS a S) : q19 (fun (x y : List (qa × Bool))=>List.Perm x y) (q43 t (y,w)) r.columns_ a = some ():=by
  refine qg7 fun l d=>?_;obtain ⟨n,e1,j⟩:=q7k f (t:=t) (w:=w) g r.columns_ (fun c b=>b) h;obtain ⟨o,k,m⟩:=q7k f (t:=t) (w:=w) g l (fun c b=>(d.mem_iff).1 b) h;refine ⟨_,_,e1,k,?_⟩;show o.Perm n;refine KS.perm (m.congr fun p=>?_) j;simp only [d.mem_iff]
theorem qd8 (d : Rep r.rows_ F) (c : Rep r.columns_ G) {p : qa} (hp : PtB p) {a : List (qa × Bool)} {S : qa→Prop} (h : KS a S) :
    ∃ a',q41 p r.rows_ r.columns_ a = some a'∧KS a' (fun q=>S q∨(q = p∧Y4 F G p.X p.Y))∧a'.length≤a.length + 1:=by
  unfold q41;rw [qva (r:={rows_:=r.rows_,columns_:=r.columns_}) d c (p:={X:=p.X,Y:=p.Y}) hp,qr];by_cases b : Y4 F G p.X p.Y
  · rw [Q9 b];exact ⟨_,rfl,(h.put p).congr fun q=>by simp [b],qlb⟩
  · rw [Qa b];exact ⟨_,rfl,h.congr fun q=>by simp [b],q8⟩
theorem q12f (m : Rep r.rows_ F) (j : Rep r.columns_ G) {y : Int} {v : List ql} (u : (y,v)∈r.rows_) {k : Nat} (hk : k < v.length) {a : List (qa × Bool)} {S : qa→Prop} (h : KS a S) :
    ∃ a',KS a' (fun p=>S p∨U0 F G y v[k] p)∧q42 (y,v) r ((k : Int),a) = if 400 < a'.length then some (.inr (.inr ([],false))) else some (.inl (((k + 1 : Nat) : Int),a')):=by
  have g:=m.key y (List.mem_map_of_mem (f:=(·.1)) u);have hv:=(m.good y v u).1 _ (Yi hk);have hl:=m.len y v u;obtain ⟨v1,v2,v3⟩:=hv;have hb : decide ((k : Int) < (v.length : Int)) = true:=Q9 q8;obtain ⟨a1,e1,k1,_⟩:=qd8 m j (p:={X:=(v[k]).Lo,Y:=y}) ⟨by simp only;omega,by simp only;omega,g.1,g.2⟩ h;obtain ⟨a2,e2,z,_⟩:=qd8 m j (p:={X:=(v[k]).Hi,Y:=y}) ⟨by simp only;omega,by simp only;omega,g.1,g.2⟩ k1;obtain ⟨n,e3,k3⟩:=q7k j (t:=v[k]) (w:=v) g r.columns_ (fun c o=>o) z;have e4:=qon j (t:=v[k]) (w:=v) g z;refine ⟨n,k3.congr fun p=>?_,?_⟩
  · unfold U0;constructor
    · rintro (((h | ⟨rfl,h⟩) | ⟨rfl,h⟩) | ⟨c,o,rfl,s,q,d⟩)
      · exact .inl h
      · exact .inr ⟨rfl,.inl ⟨.inl rfl,h⟩⟩
      · exact .inr ⟨rfl,.inl ⟨.inr rfl,h⟩⟩
      · exact .inr ⟨rfl,.inr ⟨s,q,d⟩⟩
    · rintro (h | ⟨rfl,⟨h | h,x⟩ | ⟨s,q,d⟩⟩)
      · exact .inl (.inl (.inl h))
      · have : p = {X:=(v[k]).Lo,Y:=p.Y}:=by rw [← h]
        exact .inl (.inl (.inr ⟨this,by rw [← h];exact x⟩))
      · have : p = {X:=(v[k]).Hi,Y:=p.Y}:=by rw [← h]
        exact .inl (.inr ⟨this,by rw [← h];exact x⟩)
      · have l : p.X∈r.columns_.map (·.1):=by rcases d with d | d <;> exact j.all _ _ d
        obtain ⟨c,o,he⟩:=List.mem_map.1 l;refine .inr ⟨c,o,?_,?_⟩
        · rw [he]
        · rw [he];exact ⟨s,q,d⟩
  · simp only [q42,hb,Qb,Ko hk,qr,e1,e2,e4,e3];by_cases b : 400 < n.length
    · rw [qu b,Q9 (show (n.length : Int) > 400 by omega),Qb]
    · rw [qw b,Qa (show ¬ (n.length : Int) > 400 by omega),Q6,Qh q8];rfl
theorem qzj (x : Rep r.rows_ F) (s : Rep r.columns_ G) {y : Int} {v : List ql} (u : (y,v)∈r.rows_) {a : List (qa × Bool)} {S : qa→Prop} (h : KS a S) (w : a.length≤400) :
    (∃ a',q1e r a (y,v) = some (.inl a')∧KS a' (fun p=>S p∨∃ t∈v,U0 F G y t p)∧a'.length≤400)∨
    (q1e r a (y,v) = some (.inr ([],false))∧∃ b T,KS b T∧400 < b.length∧∀ p,T p→S p∨∃ t∈v,U0 F G y t p):=by
  have q : ∀ k (hk : k < v.length) p,(∃ t∈v.take (k + 1),U0 F G y t p)↔(∃ t∈v.take k,U0 F G y t p)∨U0 F G y v[k] p:=by
    intro k hk p;rw [List.take_succ_eq_append_getElem hk];constructor
    · rintro ⟨t,g,h⟩;rcases List.mem_append.1 g with g | g
      · exact .inl ⟨t,g,h⟩
      · rw [List.mem_singleton] at g;subst g;exact .inr h
    · rintro (⟨t,g,h⟩ | h)
      · exact ⟨t,List.mem_append_left _ g,h⟩
      · exact ⟨v[k],List.mem_append_right _ (List.mem_singleton.2 rfl),h⟩
  have:=Yx (f:=q42 (y,v) r) (σ:=List (qa × Bool)) (fun k c=>((k : Int),c)) v.length (fun k c=>KS c (fun p=>S p∨∃ t∈v.take k,U0 F G y t p)∧c.length≤400)
    (fun o=>(∃ a',o = .inl a'∧KS a' (fun p=>S p∨∃ t∈v,U0 F G y t p)∧a'.length≤400)∨(o = .inr ([],false)∧∃ b T,KS b T∧400 < b.length∧∀ p,T p→S p∨∃ t∈v,U0 F G y t p)) ?_ ?_ (k0:=0) (c0:=a) q8 ⟨h.congr fun p=>qd,w⟩
  · obtain ⟨o,e1,z⟩:=this;have e1 : loop (q42 (y,v) r) (0,a) = some o:=e1;rcases z with ⟨a',rfl,j,l⟩ | ⟨rfl,j⟩
    · exact .inl ⟨a',by unfold q1e;rw [e1];rfl,j,l⟩
    · exact .inr ⟨by unfold q1e;rw [e1];rfl,j⟩
  · rintro k c hk ⟨m,n⟩;obtain ⟨a',j,e1⟩:=q12f x s u hk m;have l : KS a' (fun p=>S p∨∃ t∈v.take (k + 1),U0 F G y t p):=j.congr fun p=>by rw [q k hk,or_assoc]
    by_cases d : 400 < a'.length
    · rw [qu d] at e1;refine .inr ⟨_,e1,.inr ⟨rfl,a',_,l,d,?_⟩⟩;rintro p (hp | ⟨t,g,hp⟩)
      · exact .inl hp
      · exact .inr ⟨t,List.mem_of_mem_take g,hp⟩
    · rw [qw d] at e1;exact .inl ⟨a',e1,l,q8⟩
  · rintro c ⟨m,n⟩;have hb : decide ((v.length : Int) < (v.length : Int)) = false:=Qa q8;refine ⟨.inl c,by simp only [q42,hb,Q6],.inl ⟨c,rfl,?_,n⟩⟩
    rwa [List.take_length] at m
def q25 (F G : Int→Int→Prop) (l : List (Int × List ql)) (p : qa) : Prop:=∃ e∈l,∃ t∈e.2,U0 F G e.1 t p
theorem qdc (n : Rep r.rows_ F) (m : Rep r.columns_ G) : ∀ (l : List (Int × List ql)),(∀ e∈l,e∈r.rows_)→∀ {a : List (qa × Bool)} {S : qa→Prop},KS a S→a.length≤400→
    (∃ a',Kq (q1e r) l a = some (.inl a')∧KS a' (fun p=>S p∨q25 F G l p)∧a'.length≤400)∨
    (Kq (q1e r) l a = some (.inr ([],false))∧∃ b T,KS b T∧400 < b.length∧∀ p,T p→S p∨q25 F G l p)
  | [],_,a,S,h,ha=>.inl ⟨a,rfl,h.congr fun p=>by simp [q25],ha⟩
  | (y,v)::l,hl,a,S,h,ha=>by
    have d : ∀ p,q25 F G ((y,v)::l) p↔(∃ t∈v,U0 F G y t p)∨q25 F G l p:=by
      intro p;simp [q25]
    rcases qzj n m (hl (y,v) qd) h ha with ⟨a',e1,c,g⟩ | ⟨e1,b,T,c,g,q⟩
    · rcases qdc n m l (fun e s=>hl e (by simp [s])) c g with ⟨u,k,f,j⟩ | ⟨k,b,T,f,j,o⟩
      · exact .inl ⟨u,by rw [q5p e1];exact k,f.congr fun p=>by rw [d,or_assoc],j⟩
      · refine .inr ⟨by rw [q5p e1];exact k,b,T,f,j,fun p hp=>?_⟩
        rw [d,← or_assoc];exact o p hp
    · refine .inr ⟨qu5 e1,b,T,c,g,fun p hp=>?_⟩
      rw [d,← or_assoc];exact .inl (q p hp)
theorem qzm (o : Rep r.rows_ F) (k : Rep r.columns_ G) : q19 (fun (x y : List (qa × Bool))=>List.Perm x y) (q1e r) r.rows_ [] = some ():=by
  refine qg7 fun l j=>?_;have f : ∀ p,q25 F G l p↔q25 F G r.rows_ p:=by intro p;simp only [q25,j.mem_iff]
  have A:=qdc o k r.rows_ (fun e g=>g) KS.nil qd;have B:=qdc o k l (fun e g=>(j.mem_iff).1 g) KS.nil qd;rcases A with ⟨t,e1,d,u⟩ | ⟨e1,b,T,d,u,s⟩
  · rcases B with ⟨m,c,a,n⟩ | ⟨c,b,T,a,n,q⟩
    · refine ⟨_,_,e1,c,?_⟩;show m.Perm t;exact KS.perm (a.congr fun p=>by rw [f]) d
    · have:=a.le d (fun p hp=>by rcases q p hp with h | h;exact .inl h;exact .inr ((f p).1 h));omega
  · rcases B with ⟨m,c,a,n⟩ | ⟨c,_⟩
    · have:=d.le a (fun p hp=>by rcases s p hp with h | h;exact .inl h;exact .inr ((f p).2 h));omega
    · exact ⟨_,_,e1,c,rfl⟩
end
end Go.Sh
namespace Go.Sh
open Go Go.Am
open Classical
section
variable {F G : Int→Int→Prop} {r : Yc}
def q7r (F G : Int→Int→Prop) (l : List (Int × List ql)) (p : qa) : Prop:=∃ e∈l,∃ t∈e.2,q7p F G e.1 t p
theorem takeN {α : Type} {v : List α} {k : Nat} (hk : k < v.length) {P : α→Prop} : (∃ t∈v.take (k + 1),P t)↔(∃ t∈v.take k,P t)∨P v[k]:=by
  rw [List.take_succ_eq_append_getElem hk];constructor
  · rintro ⟨t,a,h⟩;rcases List.mem_append.1 a with a | a
    · exact .inl ⟨t,a,h⟩
    · rw [List.mem_singleton] at a;subst a;exact .inr h
  · rintro (⟨t,a,h⟩ | h)
    · exact ⟨t,List.mem_append_left _ a,h⟩
    · exact ⟨v[k],List.mem_append_right _ (List.mem_singleton.2 rfl),h⟩
theorem qqi (s : Rep r.rows_ F) (b : Rep r.columns_ G) {x : Int} {v : List ql} (l : (x,v)∈r.columns_) {a : List (qa × Bool)} {S : qa→Prop} (h : KS a S) :
    ∃ a',q44 r a (x,v) = some (.inl a')∧KS a' (fun p=>S p∨∃ t∈v,q7p F G x t p)∧a'.length≤a.length + 2 * v.length:=by
  have g:=b.key x (List.mem_map_of_mem (f:=(·.1)) l);have z:=b.len x v l
  have:=Yx (f:=q54 (x,v) r) (σ:=List (qa × Bool)) (fun k c=>((k : Int),c)) v.length (fun k c=>KS c (fun p=>S p∨∃ t∈v.take k,q7p F G x t p)∧c.length≤a.length + 2 * k)
    (fun o=>KS o (fun p=>S p∨∃ t∈v,q7p F G x t p)∧o.length≤a.length + 2 * v.length) ?_ ?_ (k0:=0) (c0:=a) q8 ⟨h.congr fun p=>qd,q8⟩
  · obtain ⟨o,e1,m⟩:=this;have e1 : loop (q54 (x,v) r) (0,a) = some o:=e1;exact ⟨o,by unfold q44;rw [e1];rfl,m⟩
  · rintro k c hk ⟨j,n⟩;have hb : decide ((k : Int) < (v.length : Int)) = true:=Q9 q8;obtain ⟨v1,v2,v3⟩:=(b.good x v l).1 _ (Yi hk);obtain ⟨a1,e1,u,l1⟩:=qd8 s b (p:={X:=x,Y:=(v[k]).Lo}) ⟨g.1,g.2,by simp only;omega,by simp only;omega⟩ j;obtain ⟨y,m,w,l2⟩:=qd8 s b (p:={X:=x,Y:=(v[k]).Hi}) ⟨g.1,g.2,by simp only;omega,by simp only;omega⟩ u;refine .inl ⟨y,?_,w.congr fun p=>?_,q8⟩
    · simp only [q54,hb,Qb,Ko hk,qr,e1,m];rw [Qh q8];rfl
    · rw [takeN hk];unfold q7p;constructor
      · rintro (((h | h) | ⟨rfl,h⟩) | ⟨rfl,h⟩)
        · exact .inl h
        · exact .inr (.inl h)
        · exact .inr (.inr ⟨rfl,.inl rfl,h⟩)
        · exact .inr (.inr ⟨rfl,.inr rfl,h⟩)
      · rintro (h | h | ⟨d,h | h,q⟩)
        · exact .inl (.inl (.inl h))
        · exact .inl (.inl (.inr h))
        · have : p = {X:=x,Y:=(v[k]).Lo}:=by rw [← h,← d]
          exact .inl (.inr ⟨this,by rw [← h,← d];exact q⟩)
        · have : p = {X:=x,Y:=(v[k]).Hi}:=by rw [← h,← d]
          exact .inr ⟨this,by rw [← h,← d];exact q⟩
  · rintro c ⟨j,n⟩;have hb : decide ((v.length : Int) < (v.length : Int)) = false:=Qa q8;refine ⟨c,by simp only [q54,hb,Q6],?_,n⟩
    rwa [List.take_length] at j
theorem qc6 (c : Rep r.rows_ F) (b : Rep r.columns_ G) : ∀ (l : List (Int × List ql)),(∀ e∈l,e∈r.columns_)→∀ {a : List (qa × Bool)} {S : qa→Prop},KS a S→
    ∃ a',Kq (q44 r) l a = some (.inl a')∧KS a' (fun p=>S p∨q7r F G l p)∧a'.length≤a.length + 1600 * l.length
  | [],_,a,S,h=>⟨a,rfl,h.congr fun p=>by simp [q7r],qd⟩
  | (x,v)::l,hl,a,S,h=>by
    obtain ⟨m,e1,d,n⟩:=qqi c b (hl (x,v) qd) h
    obtain ⟨j,k,f,o⟩:=qc6 c b l (fun e g=>hl e (by simp [g])) d
    have:=b.len x v (hl (x,v) qd)
    refine ⟨j,by rw [q5p e1];exact k,f.congr fun p=>?_,by simp only [List.length_cons];omega⟩
    rw [or_assoc];simp [q7r]
theorem qqp (f : Rep r.rows_ F) (d : Rep r.columns_ G) {a : List (qa × Bool)} {S : qa→Prop} (h : KS a S) : q19 (fun (x y : List (qa × Bool))=>List.Perm x y) (q44 r) r.columns_ a = some ():=by
  refine qg7 fun l c=>?_;obtain ⟨k,e1,g,_⟩:=qc6 f d r.columns_ (fun e b=>b) h;obtain ⟨m,n,j,_⟩:=qc6 f d l (fun e b=>(c.mem_iff).1 b) h;refine ⟨_,_,e1,n,?_⟩;show m.Perm k;exact KS.perm (j.congr fun p=>by simp only [q7r,c.mem_iff]) g
theorem qhn : ∀ (l : List (qa × Bool)) (acc : List qa),acc.length + l.length≤1000000→Kq q39 l acc = some (.inl (acc ++ l.map (·.1)))
  | [],acc,_=>by simp [Kq]
  | e::l,acc,h=>by
    simp only [List.length_cons] at h
    have hs : q39 acc e = some (.inl (acc ++ [e.1])):=by
      unfold q39;rw [Jc (by simp;omega)];rfl
    rw [q5p hs,qhn l _ (by simp;omega)]
    simp
theorem qho {l : List (qa × Bool)} {S : qa→Prop} (h : KS l S) (b : l.length≤1000000) (hb : ∀ p,S p→PtB p) : ∃ ys,(Kq q39 l []).bind (q7g q45) = some (ys,decide (ys.length≤400))∧ys.Pairwise ltP∧∀ p,p∈ys↔S p:=by
  obtain ⟨ys,e1,a,c⟩:=q122 (l.map (·.1)) (by simpa using b) (fun p hp=>hb p ((h.mem p).1 hp)) h.nd;refine ⟨ys,?_,c,fun p=>by rw [a.mem_iff,h.mem]⟩;rw [qhn l [] (by simpa using b)];show q45 ([] ++ l.map (·.1)) = _;rw [List.nil_append];unfold q45;have le : K1 ys.length (l.map (·.1)).length = some ():=by unfold K1;rw [qu a.length_eq]
  rw [e1,qr,le,qr];congr 2;exact decide_eq_decide.2 (by have:=a.length_eq;omega)
theorem qln (g : Rep r.rows_ F) (k : Rep r.columns_ G) (p : qa) : (q25 F G r.rows_ p∨q7r F G r.columns_ p)↔Y4 F G p.X p.Y:=by
  constructor
  · rintro (⟨⟨y,v⟩,j,t,f,rfl,⟨_,h⟩ | ⟨h3,h4,o⟩⟩ | ⟨e,j,t,f,_,_,h⟩)
    · exact h
    · have g1 : F p.Y p.X:=(g.pts _ _ j _).1 ⟨t,f,q8,q8⟩;have g2 : F p.Y (p.X - 1):=(g.pts _ _ j _).1 ⟨t,f,q8,q8⟩;unfold Y4;rw [Q9 g1,Q9 g2];simp only at o;rcases o with o | o
      · rw [Q9 o];generalize decide (G p.X (p.Y - 1)) = b;revert b;decide
      · rw [Q9 o];generalize decide (G p.X p.Y) = b;revert b;decide
    · exact h
  · intro h
    have row : ∀ x,F p.Y x→∃ v,(p.Y,v)∈r.rows_:=fun x q=>by
      obtain ⟨⟨a,v⟩,c,j⟩:=List.mem_map.1 (g.all _ _ q);simp only at j;subst j;exact ⟨v,c⟩
    have col : ∀ y,G p.X y→∃ v,(p.X,v)∈r.columns_:=fun x q=>by
      obtain ⟨⟨a,v⟩,c,j⟩:=List.mem_map.1 (k.all _ _ q);simp only at j;subst j;exact ⟨v,c⟩
    by_cases e : F p.Y p.X <;> by_cases w : F p.Y (p.X - 1)
    ·
      obtain ⟨v,c⟩:=row _ e;have hc:=(g.good _ _ c).can;obtain ⟨t,f,t1,z⟩:=(g.pts _ _ c _).2 e
      have ab : t.Lo≠p.X:=fun u=>by
        have:=((qea hc p.X).1 ⟨t,f,u⟩).2;exact this ((g.pts _ _ c _).2 w)
      refine .inl ⟨(p.Y,v),c,t,f,rfl,.inr ⟨q8,z,?_⟩⟩;unfold Y4 at h;rw [Q9 e,Q9 w] at h;by_cases n : G p.X p.Y
      · exact .inl n
      · by_cases s : G p.X (p.Y - 1)
        · exact .inr s
        · rw [Qa n,Qa s] at h;exact absurd h qq
    · obtain ⟨v,c⟩:=row _ e;obtain ⟨t,f,d⟩:=(qea (g.good _ _ c).can p.X).2 ⟨(g.pts _ _ c _).2 e,fun l=>w ((g.pts _ _ c _).1 l)⟩;exact .inl ⟨(p.Y,v),c,t,f,rfl,.inl ⟨.inl d.symm,h⟩⟩
    · obtain ⟨v,c⟩:=row _ w;obtain ⟨t,f,d⟩:=(qi5 (g.good _ _ c).can p.X).2 ⟨fun l=>e ((g.pts _ _ c _).1 l),(g.pts _ _ c _).2 w⟩;exact .inl ⟨(p.Y,v),c,t,f,rfl,.inl ⟨.inr d.symm,h⟩⟩
    · right;have m:=h;unfold Y4 at m;rw [Qa e,Qa w] at m;by_cases n : G p.X p.Y <;> by_cases s : G p.X (p.Y - 1)
      · rw [Q9 n,Q9 s] at m;exact absurd m qq
      · obtain ⟨v,c⟩:=col _ n;obtain ⟨t,f,d⟩:=(qea (k.good _ _ c).can p.Y).2 ⟨(k.pts _ _ c _).2 n,fun l=>s ((k.pts _ _ c _).1 l)⟩;exact ⟨(p.X,v),c,t,f,rfl,.inl d.symm,h⟩
      · obtain ⟨v,c⟩:=col _ s;obtain ⟨t,f,d⟩:=(qi5 (k.good _ _ c).can p.Y).2 ⟨fun l=>n ((k.pts _ _ c _).1 l),(k.pts _ _ c _).2 s⟩;exact ⟨(p.X,v),c,t,f,rfl,.inr d.symm,h⟩
      · rw [Qa n,Qa s] at m;exact absurd m qq
theorem Rep.bnd {R : List (Int × List ql)} {F : Int→Int→Prop} (h : Rep R F) {k x : Int} (b : F k x) : -1000000≤k∧k≤1000000∧-1000000≤x∧x < 1000000:=by
  have hk:=h.key k (h.all _ _ b);obtain ⟨⟨a,v⟩,c,d⟩:=List.mem_map.1 (h.all _ _ b);simp only at d;subst d;obtain ⟨t,f,l,g⟩:=(h.pts _ _ c _).2 b;obtain ⟨m,j,n⟩:=(h.good _ _ c).1 t f;exact ⟨hk.1,hk.2,q8,q8⟩
theorem qd2 {C : List (Int × List ql)} {R : List (Int × List ql)} (b : Rep R F) (a : Rep C G) {x y : Int} (h : Y4 F G x y) : PtB {X:=x,Y:=y}:=by
  unfold PtB;simp only;by_cases e : F y x
  · have:=b.bnd e;omega
  · by_cases n : G x y
    · have:=a.bnd n;omega
    · by_cases w : F y (x - 1)
      · have:=b.bnd w;omega
      · by_cases s : G x (y - 1)
        · have:=a.bnd s;omega
        · unfold Y4 at h;rw [Qa e,Qa n,Qa w,Qa s] at h;exact absurd h qq
structure Ym (F G : Int→Int→Prop) (N : List qa) : Prop where
  srt : N.Pairwise ltP
  mem : ∀ p,p∈N↔Y4 F G p.X p.Y
theorem qvc (d : Rep r.rows_ F) (c : Rep r.columns_ G) : (∃ N,Ym F G N∧N.length≤400∧q7e r = some (N,true))∨((∃ b : List qa,b.Nodup∧400 < b.length∧∀ p∈b,Y4 F G p.X p.Y)∧∃ q,q7e r = some (q,false)):=by
  unfold q7e;rw [qzm d c];simp only [qr];rcases qdc d c r.rows_ (fun e k=>k) KS.nil qd with ⟨a1,e1,f,v⟩ | ⟨e1,b,T,f,v,y⟩
  · rw [e1];simp only [qr];rw [qqp d c f];simp only [qr];obtain ⟨t,x,k2,l2⟩:=qc6 d c r.columns_ (fun e k=>k) f;rw [x];simp only [qr];have hc:=c.cnt;have g : t.length≤1000000:=by omega
    have m : KS t (fun p=>Y4 F G p.X p.Y):=k2.congr fun p=>by
      rw [← qln d c p];simp
    have hb : ∀ p : qa,Y4 F G p.X p.Y→PtB p:=fun p hp=>qd2 d c hp;obtain ⟨ys,f1,s,u⟩:=qho m g hb
    have j : q4n (fun l=>(Kq q39 l []).bind (q7g q45)) t = some ():=by
      refine q10t fun l n=>?_;have k4 : KS l (fun p=>Y4 F G p.X p.Y):=⟨((n.map (·.1)).nodup_iff).2 m.nd,fun e k=>m.val e ((n.mem_iff).1 k),fun p=>by rw [((n.map (·.1)).mem_iff),m.mem]⟩
      obtain ⟨zs,z,w,g3⟩:=qho k4 (by rw [n.length_eq];exact g) hb;simp only [f1,z];have : zs = ys:=qdm q4j w s fun p=>by rw [g3,u]
      rw [this]
    rw [j];simp only [qr];rw [f1];by_cases o : ys.length≤400
    · exact .inl ⟨ys,⟨s,u⟩,o,by rw [Q9 o]⟩
    · refine .inr ⟨⟨ys,s.imp (by rintro a b h rfl;exact q4j a a h h),q8,fun p hp=>(u p).1 hp⟩,ys,by rw [Qa o]⟩
  · rw [e1];refine .inr ⟨⟨b.map (·.1),f.nd,by simpa using v,fun p hp=>?_⟩,[],rfl⟩;rcases y p ((f.mem p).1 hp) with h | h
    · exact h.elim
    · exact (qln d c p).1 (.inl h)
end
end Go.Sh
namespace Go.Sh
open Go Go.Am
open Classical
section
variable {F G : Int→Int→Prop} {L M : List qgf}
structure JN (F G : Int→Int→Prop) (N : List qa) (S : qa→Prop) : Prop where
  srt : N.Pairwise ltP
  sub : ∀ p∈N,Y4 F G p.X p.Y
  all : N.length≤400→∀ p,S p→Y4 F G p.X p.Y→p∈N
  len : N.length≤402
theorem JN.congr {N : List qa} {S T : qa→Prop} (h : JN F G N S) (e : ∀ p,T p→S p) : JN F G N T:=⟨h.srt,h.sub,fun a p hp=>h.all a p (e p hp),h.len⟩
end
end Go.Sh
namespace Go.Sh
open Go Go.Am
open Classical
section
variable {F G : Int→Int→Prop} {L M : List qgf}
theorem JN.big {N : List qa} {S T : qa→Prop} (h : JN F G N S) (b : ¬ N.length≤400) : JN F G N T:=⟨h.srt,h.sub,fun a=>absurd a b,h.len⟩
end
end Go.Sh
namespace Go.Sh
open Go Go.Am
open Classical
section
variable {F G : Int→Int→Prop} {N : List qa}
structure Zg (N : List qa) (i k : Nat) : Prop where
  lt : i < k
  hk : k < N.length
  eq : ∀ (h1 : i < N.length) (h2 : k < N.length),N[k].X = N[i].X
  no : ∀ j (h1 : i < N.length) (h2 : j < N.length),i < j→j < k→N[j].X≠N[i].X
structure Zh (N : List qa) (i k : Nat) : Prop where
  lt : i < k
  hk : k < N.length
  eq : ∀ (h1 : i < N.length) (h2 : k < N.length),N[k].Y = N[i].Y
  no : ∀ j (h1 : i < N.length) (h2 : j < N.length),i < j→j < k→N[j].Y≠N[i].Y
def q4i (F G : Int→Int→Prop) (N : List qa) (i k : Nat) : Prop:=∃ h : i < N.length,(Zg N i k∧G N[i].X N[i].Y)∨(Zh N i k∧F N[i].Y N[i].X)
structure q56 (F G : Int→Int→Prop) (N : List qa) (E : List qg) : Prop where
  srt : E.Pairwise ltG
  mem : ∀ e,e∈E↔∃ i k : Nat,e = {A:=(i : Int),B:=(k : Int)}∧q4i F G N i k
theorem qlo {N M : List qa} (h : Ym F G N) (a : Ym F G M) : N = M:=qdm q4j h.srt a.srt fun p=>by rw [h.mem,a.mem]
theorem qj8 {D E : List qg} (h : q56 F G N D) (a : q56 F G N E) : D = E:=qdm qkw h.srt a.srt fun p=>by rw [h.mem,a.mem]
theorem q1c (h : N.Pairwise ltP) {i j : Nat} (hi : i < N.length) (b : j < N.length) (a : i < j) : ltP N[i] N[j]:=List.pairwise_iff_getElem.1 h i j hi b a
theorem J8 (h : N.Pairwise ltP) {i j : Nat} (hi : i < N.length) (c : j < N.length) (a : ltP N[i] N[j]) : i < j:=by
  rcases Nat.lt_trichotomy i j with b | b | b
  · exact b
  · subst b;exact absurd a (q4j _ _ a)
  · exact absurd a (q4j _ _ (q1c h c hi b))
theorem qv5 (h : N.Pairwise ltP) {i k m : Nat} (c : Zg N i k) (b : Zh N i m) : k < m:=by
  have hi : i < N.length:=by have:=c.lt;have:=c.hk;omega
  have a:=q1c h hi b.hk b.lt;have e1:=c.eq hi c.hk;have d:=b.eq hi b.hk;refine J8 h c.hk b.hk ?_;unfold ltP at *;omega
theorem Jz {f : Int→Prop} {lo : Int} : ∀ (n : Nat),(∀ x,lo < x→x≤lo + n→(f x↔f (x - 1)))→(f lo↔f (lo + n))
  | 0,_=>by simp
  | n + 1,h=>by
    rw [Jz n fun x a b=>h x a q8,h (lo + ((n + 1 : Nat) : Int)) q8 q8]
    have : lo + ((n + 1 : Nat) : Int) - 1 = lo + (n : Int):=by omega
    rw [this]
theorem q62 {x y : Int} (h : ¬ Y4 F G x y) : F y x↔F y (x - 1):=by
  by_cases e : F y x <;> by_cases w : F y (x - 1) <;> by_cases n : G x y <;> by_cases s : G x (y - 1) <;> simp [Y4,q60,e,w,n,s] at h ⊢
theorem q61 {x y : Int} (h : ¬ Y4 F G x y) : G x y↔G x (y - 1):=by
  by_cases e : F y x <;> by_cases w : F y (x - 1) <;> by_cases n : G x y <;> by_cases s : G x (y - 1) <;> simp [Y4,q60,e,w,n,s] at h ⊢
theorem qn4 (b : Ym F G N) {i k : Nat} (h : Zh N i k) (hi : i < N.length) : F N[i].Y N[i].X↔F N[i].Y ((N[k]'h.hk).X - 1):=by
  have a:=q1c b.srt hi h.hk h.lt;have e:=h.eq hi h.hk;have j : N[i].X < (N[k]'h.hk).X:=by unfold ltP at a;omega
  obtain ⟨n,l⟩ : ∃ n : Nat,(N[k]'h.hk).X - 1 = N[i].X + n:=⟨((N[k]'h.hk).X - 1 - N[i].X).toNat,q8⟩
  have : ((N[k]'h.hk).X - 1) = N[i].X + n:=l;rw [this];refine Jz (f:=F N[i].Y) n fun x q p=>?_;refine q62 (G:=G) fun c=>?_;obtain ⟨m,d,g⟩:=List.mem_iff_getElem.1 ((b.mem {X:=x,Y:=N[i].Y}).2 c);have ex : N[m].X = x:=by rw [g]
  have o : N[m].Y = N[i].Y:=by rw [g]
  refine h.no m hi d (J8 b.srt hi d ?_) (J8 b.srt d h.hk ?_) o
  · unfold ltP;omega
  · unfold ltP;omega
theorem qin (b : Ym F G N) {i k : Nat} (h : Zg N i k) (hi : i < N.length) : G N[i].X N[i].Y↔G N[i].X ((N[k]'h.hk).Y - 1):=by
  have a:=q1c b.srt hi h.hk h.lt;have e:=h.eq hi h.hk;have j : N[i].Y < (N[k]'h.hk).Y:=by unfold ltP at a;omega
  obtain ⟨n,l⟩ : ∃ n : Nat,(N[k]'h.hk).Y - 1 = N[i].Y + n:=⟨((N[k]'h.hk).Y - 1 - N[i].Y).toNat,q8⟩
  have : ((N[k]'h.hk).Y - 1) = N[i].Y + n:=l;rw [this];refine Jz (f:=G N[i].X) n fun y p o=>?_;refine q61 (F:=F) fun c=>?_;obtain ⟨m,d,g⟩:=List.mem_iff_getElem.1 ((b.mem {X:=N[i].X,Y:=y}).2 c);have ex : N[m].X = N[i].X:=by rw [g]
  have q : N[m].Y = y:=by rw [g]
  refine h.no m hi d (J8 b.srt hi d ?_) (J8 b.srt d h.hk ?_) ex
  · unfold ltP;omega
  · unfold ltP;omega
theorem qzd (k : Ym F G N) (hb : ∀ y x,F y x→-1000000≤x) {i : Nat} (hi : i < N.length) (c : F N[i].Y (N[i].X - 1)) : ∃ j,∃ h : j < N.length,j < i∧N[j].Y = N[i].Y:=by
  refine Classical.byContradiction fun a=>?_
  have step : ∀ x,x < N[i].X→(F N[i].Y x↔F N[i].Y (x - 1)):=by
    intro x l;refine q62 (G:=G) fun b=>a ?_;obtain ⟨m,d,g⟩:=List.mem_iff_getElem.1 ((k.mem {X:=x,Y:=N[i].Y}).2 b);have ex : N[m].X = x:=by rw [g]
    have o : N[m].Y = N[i].Y:=by rw [g]
    exact ⟨m,d,J8 k.srt d hi (by unfold ltP;omega),o⟩
  have l:=hb _ _ c;obtain ⟨n,b⟩ : ∃ n : Nat,N[i].X - 1 = -1000001 + (n : Int):=⟨(N[i].X + 1000000).toNat,q8⟩
  have:=Jz (f:=F N[i].Y) (lo:=-1000001) n fun x q p=>step x q8;rw [← b] at this;have:=hb _ _ (this.2 c);omega
theorem qqe (k : Ym F G N) (hb : ∀ x y,G x y→-1000000≤y) {i : Nat} (hi : i < N.length) (c : G N[i].X (N[i].Y - 1)) : ∃ j,∃ h : j < N.length,j < i∧N[j].X = N[i].X:=by
  refine Classical.byContradiction fun a=>?_
  have step : ∀ y,y < N[i].Y→(G N[i].X y↔G N[i].X (y - 1)):=by
    intro y p;refine q61 (F:=F) fun b=>a ?_;obtain ⟨m,d,g⟩:=List.mem_iff_getElem.1 ((k.mem {X:=N[i].X,Y:=y}).2 b);have ex : N[m].X = N[i].X:=by rw [g]
    have r : N[m].Y = y:=by rw [g]
    exact ⟨m,d,J8 k.srt d hi (by unfold ltP;omega),ex⟩
  have q:=hb _ _ c;obtain ⟨n,b⟩ : ∃ n : Nat,N[i].Y - 1 = -1000001 + (n : Int):=⟨(N[i].Y + 1000000).toNat,q8⟩
  have:=Jz (f:=G N[i].X) (lo:=-1000001) n fun y o l=>step y q8;rw [← b] at this;have:=hb _ _ (this.2 c);omega
theorem q8a {P : Nat→Prop} : ∀ {n : Nat},(∃ j,j < n∧P j)→∃ j,j < n∧P j∧∀ m,j < m→m < n→¬ P m
  | 0,⟨j,h,_⟩=>by omega
  | n + 1,⟨j,h,hp⟩=>by
    by_cases e : P n
    · exact ⟨n,q8,e,fun m f a=>q8⟩
    · have : j≠n:=fun c=>e (c ▸ hp)
      obtain ⟨k,f,a,g⟩:=q8a (n:=n) ⟨j,q8,hp⟩
      refine ⟨k,q8,a,fun m d l=>?_⟩
      by_cases b : m = n
      · subst b;exact e
      · exact g m d q8
theorem qmi (f : Ym F G N) (hb : ∀ y x,F y x→-1000000≤x) {k : Nat} (hk : k < N.length) (c : F N[k].Y (N[k].X - 1)) : ∃ j,Zh N j k:=by
  obtain ⟨j,h,a,l⟩:=qzd f hb hk c;obtain ⟨m,p,⟨s,b⟩,d⟩:=q8a (P:=fun j=>∃ h : j < N.length,N[j].Y = N[k].Y) (n:=k) ⟨j,a,h,l⟩;exact ⟨m,p,hk,fun _ _=>b.symm,fun q _ g o r e=>d q o r ⟨g,by rw [e,b]⟩⟩
theorem qmh (f : Ym F G N) (hb : ∀ x y,G x y→-1000000≤y) {k : Nat} (hk : k < N.length) (c : G N[k].X (N[k].Y - 1)) : ∃ j,Zg N j k:=by
  obtain ⟨j,h,a,l⟩:=qqe f hb hk c;obtain ⟨m,p,⟨s,b⟩,d⟩:=q8a (P:=fun j=>∃ h : j < N.length,N[j].X = N[k].X) (n:=k) ⟨j,a,h,l⟩;exact ⟨m,p,hk,fun _ _=>b.symm,fun q _ g o r e=>d q o r ⟨g,by rw [e,b]⟩⟩
theorem Zh.uniq {i j k : Nat} (b : Zh N i k) (a : Zh N j k) : i = j:=by
  have hi : i < N.length:=by have:=b.lt;have:=b.hk;omega
  have c : j < N.length:=by have:=a.lt;have:=a.hk;omega
  have e1:=b.eq hi b.hk;have d:=a.eq c a.hk;rcases Nat.lt_trichotomy i j with h | h | h
  · exact absurd (by rw [← e1,← d]) (b.no j hi c h a.lt)
  · exact h
  · exact absurd (by rw [← e1,← d]) (a.no i c hi h b.lt)
theorem Zg.uniq {i j k : Nat} (b : Zg N i k) (a : Zg N j k) : i = j:=by
  have hi : i < N.length:=by have:=b.lt;have:=b.hk;omega
  have c : j < N.length:=by have:=a.lt;have:=a.hk;omega
  have e1:=b.eq hi b.hk;have d:=a.eq c a.hk;rcases Nat.lt_trichotomy i j with h | h | h
  · exact absurd (by rw [← e1,← d]) (b.no j hi c h a.lt)
  · exact h
  · exact absurd (by rw [← e1,← d]) (a.no i c hi h b.lt)
theorem qcm (c : Ym F G N) (f : ∀ y x,F y x→-1000000≤x) (d : ∀ x y,G x y→-1000000≤y) {k : Nat} (hk : k < N.length) (i : Nat) : q4i F G N i k↔(Zh N i k∧F N[k].Y (N[k].X - 1))∨(Zg N i k∧G N[k].X (N[k].Y - 1)):=by
  constructor
  · rintro ⟨hi,⟨a,b⟩ | ⟨a,b⟩⟩
    · have:=(qin c a hi).1 b;rw [← a.eq hi hk] at this;exact .inr ⟨a,this⟩
    · have:=(qn4 c a hi).1 b;rw [← a.eq hi hk] at this;exact .inl ⟨a,this⟩
  · rintro (⟨a,b⟩ | ⟨a,b⟩)
    · have hi : i < N.length:=by have:=a.lt;omega
      refine ⟨hi,.inr ⟨a,(qn4 c a hi).2 ?_⟩⟩;rw [← a.eq hi hk];exact b
    · have hi : i < N.length:=by have:=a.lt;omega
      refine ⟨hi,.inl ⟨a,(qin c a hi).2 ?_⟩⟩;rw [← a.eq hi hk];exact b
end
end Go.Sh
namespace Go.Sh
open Go Go.Am
open Classical
theorem q8h {α β : Type} [DecidableEq α] {z : β} {k a : α} {v : β} : ∀ {R : List (α × β)},K5 z a (K8 k v R) = if a = k then v else K5 z a R
  | []=>by simp only [K8,K5]
  | (b,w)::r=>by
    simp only [K8]
    by_cases e : k = b
    · subst e
      simp only [if_true,K5]
      by_cases c : a = k
      · simp [c]
      · simp [c]
    · rw [qw e]
      simp only [K5]
      rw [q8h (R:=r)]
      by_cases c : a = b
      · subst c
        have : ¬ a = k:=fun h=>e h.symm
        simp [this]
      · simp [c]
section
variable {F G : Int→Int→Prop} {N : List qa}
structure PE (F G : Int→Int→Prop) (N : List qa) (k : Nat) (c : List (Int × Int) × List (Int × Int) × List qg) : Prop where
  rm : ∀ j (h : j < N.length),j < k→(∀ m (h2 : m < N.length),j < m→m < k→N[m].Y≠N[j].Y)→K5 0 N[j].Y c.1 = (j : Int)
  cm : ∀ j (h : j < N.length),j < k→(∀ m (h2 : m < N.length),j < m→m < k→N[m].X≠N[j].X)→K5 0 N[j].X c.2.1 = (j : Int)
  nd : c.2.2.Nodup
  mem : ∀ e,e∈c.2.2↔∃ i q : Nat,q < k∧e = {A:=(i : Int),B:=(q : Int)}∧q4i F G N i q
  len : c.2.2.length≤2 * k
theorem qv1 {r : Yc} (h1 : Rep r.rows_ F) (h2 : Rep r.columns_ G) (hN : Ym F G N) (hl : N.length≤400) : ∃ E,loop (q40 (N,true) r) (0,[],[],[]) = some E∧E.Nodup∧(∀ e,e∈E↔∃ i q : Nat,e = {A:=(i : Int),B:=(q : Int)}∧q4i F G N i q)∧E.length≤2 * N.length:=by
  have hF : ∀ y x,F y x→-1000000≤x:=fun y x h=>(h1.bnd h).2.2.1;have hG : ∀ x y,G x y→-1000000≤y:=fun x y h=>(h2.bnd h).2.2.1;refine Yx (f:=q40 (N,true) r) (σ:=List (Int × Int) × List (Int × Int) × List qg) (fun k c=>((k : Int),c)) N.length (PE F G N) _ ?_ ?_ (k0:=0) (c0:=([],[],[])) q8 ⟨fun j h h'=>q8,fun j h h'=>q8,.nil,fun e=>⟨fun h=>(by cases h),fun ⟨i,q,h,_⟩=>q8⟩,qd⟩
  · rintro k ⟨rm,cm,E⟩ hk ⟨p1,p2,p3,p4,p5⟩;simp only at p1 p2 p3 p4 p5;have hb : decide ((k : Int) < (N.length : Int)) = true:=Q9 q8;have ap:=qd2 h1 h2 ((hN.mem N[k]).1 (Yi hk));have am : PtB N[k]:=ap;have o:=qcm hN hF hG hk
    have hold : ∀ i,({A:=(i : Int),B:=(k : Int)} : qg) ∉ E:=by
      intro i hm;obtain ⟨i',q,hq,l,_⟩:=(p4 _).1 hm;simp only [qg.mk.injEq] at l;omega
    have hw : ∃ u,(cond (decide (F N[k].Y (N[k].X - 1))) ((app 16 E [({A:=K5 0 N[k].Y rm,B:=(k : Int)} : qg)]).bind fun ak=>some ak) (some E)) = some u∧u.Nodup∧u.length≤E.length + 1∧∀ e,e∈u↔e∈E∨∃ i : Nat,e = {A:=(i : Int),B:=(k : Int)}∧Zh N i k∧F N[k].Y (N[k].X - 1):=by
      by_cases w : F N[k].Y (N[k].X - 1)
      · obtain ⟨j,g⟩:=qmi hN hF hk w;have d : j < N.length:=by have:=g.lt;omega
        have t : K5 0 N[k].Y rm = (j : Int):=by
          rw [g.eq d hk];exact p1 j d g.lt fun m p z h5=>g.no m d p z h5
        rw [Q9 w,Qb,t,Jc (by simp;omega)];refine ⟨_,rfl,?_,qd,fun e=>?_⟩
        · rw [List.nodup_append];exact ⟨p3,qd,fun a ha b hb e=>by rw [List.mem_singleton] at hb;subst hb;subst e;exact hold j ha⟩
        · rw [List.mem_append,List.mem_singleton];constructor
          · rintro (h | rfl)
            · exact .inl h
            · exact .inr ⟨j,rfl,g,w⟩
          · rintro (h | ⟨i,rfl,p,_⟩)
            · exact .inl h
            · rw [p.uniq g];exact .inr rfl
      · rw [Qa w,Q6];exact ⟨E,rfl,p3,q8,fun e=>⟨.inl,fun h=>h.elim id fun ⟨_,_,_,h⟩=>absurd h w⟩⟩
    obtain ⟨u,e1,n1,l1,m1⟩:=hw
    have hs : ∃ E2,(cond (decide (G N[k].X (N[k].Y - 1))) ((app 16 u [({A:=K5 0 N[k].X cm,B:=(k : Int)} : qg)]).bind fun ao=>some ao) (some u)) = some E2∧E2.Nodup∧E2.length≤u.length + 1∧∀ e,e∈E2↔e∈u∨∃ i : Nat,e = {A:=(i : Int),B:=(k : Int)}∧Zg N i k∧G N[k].X (N[k].Y - 1):=by
      by_cases s : G N[k].X (N[k].Y - 1)
      · obtain ⟨j,g⟩:=qmh hN hG hk s;have d : j < N.length:=by have:=g.lt;omega
        have t : K5 0 N[k].X cm = (j : Int):=by
          rw [g.eq d hk];exact p2 j d g.lt fun m p z h5=>g.no m d p z h5
        rw [Q9 s,Qb,t,Jc (by simp;omega)];refine ⟨_,rfl,?_,qd,fun e=>?_⟩
        · rw [List.nodup_append];refine ⟨n1,qd,fun a ha b hb e=>?_⟩;rw [List.mem_singleton] at hb;subst hb;subst e;rcases (m1 _).1 ha with h | ⟨i,l,hy,_⟩
          · exact hold j h
          · simp only [qg.mk.injEq] at l;have aj : i = j:=by omega
            subst aj;have q1:=hy.eq d hk;have q2:=g.eq d hk;have:=q1c hN.srt d hk g.lt;unfold ltP at this;omega
        · rw [List.mem_append,List.mem_singleton];constructor
          · rintro (h | rfl)
            · exact .inl h
            · exact .inr ⟨j,rfl,g,s⟩
          · rintro (h | ⟨i,rfl,p,_⟩)
            · exact .inl h
            · rw [p.uniq g];exact .inr rfl
      · rw [Qa s,Q6];exact ⟨u,rfl,n1,q8,fun e=>⟨.inl,fun h=>h.elim id fun ⟨_,_,_,h⟩=>absurd h s⟩⟩
    obtain ⟨E2,e2,n2,l2,m2⟩:=hs;refine .inl ⟨(K8 N[k].Y (k : Int) rm,K8 N[k].X (k : Int) cm,E2),?_,fun j g ai n=>?_,fun j g ai n=>?_,n2,fun e=>?_,by simp only;omega⟩
    · simp only [q40,hb,Qb,Ko hk,qr,qe4 h1 h2 am,arB];rw [e1,qr,e2,qr,Qh q8];rfl
    · simp only;rw [q8h];by_cases v : N[j].Y = N[k].Y
      · rw [qu v];by_cases aa : j = k
        · subst aa;rfl
        · exact absurd v.symm (n k hk q8 q8)
      · rw [qw v];have : j≠k:=fun h=>by subst h;exact v rfl
        exact p1 j g q8 fun m p z h5=>n m p z q8
    · simp only;rw [q8h];by_cases v : N[j].X = N[k].X
      · rw [qu v];by_cases aa : j = k
        · subst aa;rfl
        · exact absurd v.symm (n k hk q8 q8)
      · rw [qw v];have : j≠k:=fun h=>by subst h;exact v rfl
        exact p2 j g q8 fun m p z h5=>n m p z q8
    · simp only;rw [m2,m1,p4];constructor
      · rintro ((⟨i,q,hq,l,h⟩ | ⟨i,l,h⟩) | ⟨i,l,h⟩)
        · exact ⟨i,q,q8,l,h⟩
        · exact ⟨i,k,q8,l,(o i).2 (.inl h)⟩
        · exact ⟨i,k,q8,l,(o i).2 (.inr h)⟩
      · rintro ⟨i,q,hq,l,h⟩;by_cases eq : q = k
        · subst eq;rcases (o i).1 h with h | h
          · exact .inl (.inr ⟨i,l,h⟩)
          · exact .inr ⟨i,l,h⟩
        · exact .inl (.inl ⟨i,q,q8,l,h⟩)
  · rintro ⟨rm,cm,E⟩ ⟨p1,p2,p3,p4,p5⟩;simp only at p3 p4 p5;have hb : decide ((N.length : Int) < (N.length : Int)) = false:=Qa q8;refine ⟨E,by simp only [q40,hb,Q6],p3,fun e=>?_,q8⟩;rw [p4];constructor
    · rintro ⟨i,q,_,l,h⟩;exact ⟨i,q,l,h⟩
    · rintro ⟨i,q,l,h⟩;obtain ⟨hi,h'⟩:=h;refine ⟨i,q,?_,l,hi,h'⟩;rcases h' with ⟨h,_⟩ | ⟨h,_⟩
      · exact h.hk
      · exact h.hk
theorem qv0 {r : Yc} (n : Rep r.rows_ F) (d : Rep r.columns_ G) (g : Ym F G N) (f : N.length≤400) : ∃ D E,loop (q40 (N,true) r) (0,[],[],[]) = some D∧q4o (fun c o=>q38 c o) D = some E∧E.length = D.length∧q56 F G N E∧E.length≤2 * N.length:=by
  obtain ⟨D,e1,l,b,k⟩:=qv1 n d g f
  have m : ∀ e∈D,PtB (eP2 e):=by
    intro e j;obtain ⟨i,q,rfl,hi,h⟩:=(b e).1 j;have t : q < N.length:=by rcases h with ⟨h,_⟩ | ⟨h,_⟩ <;> exact h.hk
    unfold PtB eP2;simp only;omega
  obtain ⟨E,s,a,p⟩:=q121 D q8 m l;exact ⟨D,E,e1,s,a.length_eq,⟨p,fun e=>by rw [a.mem_iff,b]⟩,by rw [a.length_eq];exact k⟩
end
end Go.Sh
namespace Go.Sh
open Go Go.Am
open Classical
section
variable {F G : Int→Int→Prop} {N : List qa} {L M : List qgf}
structure RE (F G : Int→Int→Prop) (N : List qa) (k : Nat) (E : List qg) : Prop where
  srt : E.Pairwise ltG
  mem : ∀ e,e∈E↔∃ i q : Nat,i < k∧e = {A:=(i : Int),B:=(q : Int)}∧q4i F G N i q
  len : E.length≤2 * k
end
structure Jn (F G : Int→Int→Prop) (n : Qd) : Prop where
  nodes : Ym F G n.Nodes
  edges : q56 F G n.Nodes n.Edges
  nlen : n.Nodes.length≤400
  elen : n.Edges.length≤2 * n.Nodes.length
theorem Jn.uniq {F G : Int→Int→Prop} {n m : Qd} (h : Jn F G n) (a : Jn F G m) : n = m:=by
  obtain ⟨N,E⟩:=n;obtain ⟨c,b⟩:=m;have e : N = c:=qlo h.nodes a.nodes;subst e;have : E = b:=qj8 h.edges a.edges;rw [this]
abbrev rowP (l : List qt) : Int→Int→Prop:=onL (q31 l)
abbrev colP (l : List qt) : Int→Int→Prop:=onL (q2e l)
def qbv (F G : Int→Int→Prop) : Prop:=∃ b : List qa,b.Nodup∧400 < b.length∧∀ p∈b,Y4 F G p.X p.Y
theorem qbv.not {F G : Int→Int→Prop} (h : qbv F G) {N : List qa} (d : Ym F G N) : 400 < N.length:=by
  obtain ⟨b,a,f,c⟩:=h;have:=List.Nodup.length_le_of_subset a (l₂:=N) fun p hp=>(d.mem p).2 (c p hp);omega
theorem qd0 {l : List qt} (k : l.length≤400) (o : ∀ s∈l,SegV s) : (∃ n,q52 l = some (n,true)∧Jn (rowP l) (colP l) n)∨(q52 l = some ({Nodes:=[],Edges:=[]},false)∧qbv (rowP l) (colP l)):=by
  obtain ⟨r,e1,f,d⟩:=qc5 k o;unfold q52;rw [e1,qr];rcases qvc f d with ⟨N,g,a,c⟩ | ⟨p,q,c⟩
  · left;obtain ⟨D,E,m,t,j,h,b⟩:=qv0 f d g a;rw [c];simp only [qr,Bool.not_true,Q6,m,t];have le : K1 E.length D.length = some ():=by unfold K1;rw [qu j]
    rw [le,qr];refine ⟨{Nodes:=N,Edges:=E},?_,g,h,a,b⟩;rw [Q9 (show (D.length : Int)≤800 by omega)]
  · right;rw [c];exact ⟨rfl,p⟩
end Go.Sh
namespace Go.Sh
open Go Go.Am
open Classical
theorem beqI (a b : Int) : (a == b) = decide (a = b):=by
  by_cases h : a = b
  · rw [Q9 h];simpa using h
  · rw [Qa h];simpa using h
theorem qff (p : qa) : q51 p = some (decide (PtB p)):=by
  unfold q51;by_cases h : PtB p
  · have a:=h;unfold PtB at a;rw [Q9 h,Q9 (show min p.X p.Y ≥ -1000000 by omega),Qb,Q9 (show max p.X p.Y≤1000000 by omega)];rfl
  · have a:=h;unfold PtB at a;rw [Qa h];by_cases b : min p.X p.Y ≥ -1000000
    · rw [Q9 b,Qb,Qa (show ¬ max p.X p.Y≤1000000 by omega)];rfl
    · rw [Qa b,Q6];rfl
theorem q6f (s : qt) : SegV s↔PtB s.A∧PtB s.B∧((s.A.X = s.B.X∧s.A.Y≠s.B.Y)∨(s.A.X≠s.B.X∧s.A.Y = s.B.Y)):=by
  constructor
  · rintro ⟨a,b,c⟩;exact ⟨a,b,c⟩
  · rintro ⟨a,b,c⟩;exact ⟨a,b,c⟩
theorem qha (s : qt) : q7f s = some (decide (SegV s)):=by
  unfold q7f;rw [qff,qr];by_cases a : PtB s.A
  · rw [Q9 a,Qb,qff,qr,qr];by_cases b : PtB s.B
    · rw [Q9 b,Qb,qr];congr 1;rw [beqI,beqI];by_cases e1 : s.A.X = s.B.X <;> by_cases c : s.A.Y = s.B.Y <;> simp [q6f,a,b,e1,c]
    · rw [Qa b,Q6,qr];simp [q6f,b]
  · rw [Qa a,Q6,qr,Q6,qr];simp [q6f,a]
end Go.Sh
namespace Go.Sh
open Go Go.Am
open Classical
theorem dlt' {k n : Nat} (h : k < n) : decide ((k : Int) < (n : Int)) = true:=Q9 q8
theorem dnl' {n : Nat} : decide ((n : Int) < (n : Int)) = false:=Qa q8
theorem beqP (a b : qa) : ((a.X == b.X) && ((a.Y == b.Y) && true)) = decide (a = b):=by
  obtain ⟨f,h⟩:=a;obtain ⟨bx,c⟩:=b;simp only [beqI,Bool.and_true,qa.mk.injEq];by_cases g : f = bx <;> by_cases d : h = c <;> simp [g,d]
theorem beqG (a b : qg) : ((a.A == b.A) && ((a.B == b.B) && true)) = decide (a = b):=by
  obtain ⟨f,h⟩:=a;obtain ⟨bx,c⟩:=b;simp only [beqI,Bool.and_true,qg.mk.injEq];by_cases g : f = bx <;> by_cases d : h = c <;> simp [g,d]
theorem q4f {α : Type} [DecidableEq α] {f : Int→Option (Int ⊕ (Unit ⊕ Bool))} {p q : List α} (j : p.length = q.length) (r : p.length≤1000000)
    (hs : ∀ k (a : k < p.length) (c : k < q.length),f (k : Int) = if p[k] = q[k] then some (.inl (w64 ((k : Int) + 1))) else some (.inr (.inr false))) (hd : f (p.length : Int) = some (.inr (.inl ()))) :
    loop f 0 = some (if p = q then .inl () else .inr false):=by
  have:=Yx (f:=f) (σ:=Unit) (fun k _=>(k : Int)) p.length (fun k _=>∀ i (a : i < p.length) (c : i < q.length),i < k→p[i] = q[i]) (fun o=>o = if p = q then .inl () else .inr false) ?_ ?_ (k0:=0) (c0:=()) q8 (fun i _ _ h=>q8)
  · obtain ⟨b,a,rfl⟩:=this;exact a
  · rintro k _ hk d;have c : k < q.length:=by omega
    have:=hs k hk c;by_cases e : p[k] = q[k]
    · rw [qu e,Qh q8] at this;refine .inl ⟨(),by rw [this];rfl,fun i g l n=>?_⟩;by_cases m : i = k
      · subst m;exact e
      · exact d i g l q8
    · rw [qw e] at this;refine .inr ⟨_,this,?_⟩;rw [qw];rintro rfl;exact e rfl
  · rintro _ d;refine ⟨_,hd,?_⟩;rw [qu];exact List.ext_getElem j fun i a c=>d i a c a
theorem qsa (p q : List qa) (d : p.length≤1000000) : q93 p q = some (decide (p = q)):=by
  unfold q93;by_cases a : p.length = q.length
  · have e1 : ((p.length : Int) != (q.length : Int)) = false:=by rw [a];simp
    have f : loop (q6j p q) 0 = some (if p = q then .inl () else .inr false):=by
      refine q4f a d (fun k b c=>?_) ?_
      · simp only [q6j,dlt' b,Qb,Ko b,Ko c,qr,beqP];by_cases e : p[k] = q[k] <;> simp [e]
      · simp only [q6j,dnl',Q6]
    rw [e1,Q6,f];by_cases e : p = q <;> simp [e]
  · have e1 : ((p.length : Int) != (q.length : Int)) = true:=by simp;omega
    rw [e1,Qb,Qa (fun h=>a (by rw [h]))]
theorem qs9 (p q : List qg) (d : p.length≤1000000) : q92 p q = some (decide (p = q)):=by
  unfold q92;by_cases a : p.length = q.length
  · have e1 : ((p.length : Int) != (q.length : Int)) = false:=by rw [a];simp
    have f : loop (q6i p q) 0 = some (if p = q then .inl () else .inr false):=by
      refine q4f a d (fun k b c=>?_) ?_
      · simp only [q6i,dlt' b,Qb,Ko b,Ko c,qr,beqG];by_cases e : p[k] = q[k] <;> simp [e]
      · simp only [q6i,dnl',Q6]
    rw [e1,Q6,f];by_cases e : p = q <;> simp [e]
  · have e1 : ((p.length : Int) != (q.length : Int)) = true:=by simp;omega
    rw [e1,Qb,Qa (fun h=>a (by rw [h]))]
theorem qgn (p q : Qd) (b : p.Nodes.length≤1000000) (a : p.Edges.length≤1000000) : qbj p q = some (decide (p = q)):=by
  obtain ⟨N,E⟩:=p;obtain ⟨d,c⟩:=q;unfold qbj;simp only at b a ⊢;rw [qsa _ _ b,qr];by_cases e1 : N = d
  · rw [Q9 e1,Qb,qs9 _ _ a];by_cases f : E = c <;> simp [e1,f]
  · rw [Qa e1];simp [e1]
theorem qn7 (p q : Qd) (c : p.Nodes.length≤1000000) (d : p.Edges.length≤1000000) : q4m p q = some (decide (p = q)):=by
  obtain ⟨N,E⟩:=p;obtain ⟨a,b⟩:=q;unfold q4m;simp only at c d ⊢;by_cases g : N.length = a.length
  · by_cases j : E.length = b.length
    · have e1 : ((N.length : Int) != (a.length : Int)) = false:=by rw [g];simp
      have l : ((E.length : Int) != (b.length : Int)) = false:=by rw [j];simp
      have f1 : loop (q67 {Nodes:=N,Edges:=E} {Nodes:=a,Edges:=b}) 0 = some (if N = a then .inl () else .inr false):=by
        refine q4f g c (fun k c d=>?_) ?_
        · simp only [q67,dlt' c,Qb,Ko c,Ko d,qr,beqP];by_cases e : N[k] = a[k] <;> simp [e]
        · simp only [q67,dnl',Q6]
      have m : loop (q68 {Nodes:=N,Edges:=E} {Nodes:=a,Edges:=b}) 0 = some (if E = b then .inl () else .inr false):=by
        refine q4f j d (fun k c d=>?_) ?_
        · simp only [q68,dlt' c,Qb,Ko c,Ko d,qr,beqG];by_cases e : E[k] = b[k] <;> simp [e]
        · simp only [q68,dnl',Q6]
      rw [e1,Q6,l,qr,Q6,f1,m];by_cases f : N = a <;> by_cases n : E = b <;> simp [f,n]
    · have e1 : ((N.length : Int) != (a.length : Int)) = false:=by rw [g];simp
      have l : ((E.length : Int) != (b.length : Int)) = true:=by simp;omega
      have f : ¬ E = b:=fun h=>j (by rw [h]);rw [e1,Q6,l,qr,Qb];simp [f]
  · have e1 : ((N.length : Int) != (a.length : Int)) = true:=by simp;omega
    have f : ¬ N = a:=fun h=>g (by rw [h]);rw [e1,Qb,qr,Qb];simp [f]
end Go.Sh
namespace Go.Sh
open Go Go.Am
open Classical
noncomputable def J0 (n : Qd) (e : qg) : qt:={A:=(n.Nodes[e.A.toNat]?).getD default,B:=(n.Nodes[e.B.toNat]?).getD default}
def eOk (n : Qd) (e : qg) : Prop:=(0≤e.A∧e.A < n.Nodes.length)∧(0≤e.B∧e.B < n.Nodes.length)∧SegV (J0 n e)
noncomputable def Ut (n : Qd) : List qt × Bool:=if ∀ e∈n.Edges,eOk n e then (n.Edges.map (J0 n),true) else ([],false)
theorem qck {N : List qa} {a : Int} (h : 0≤a∧a < N.length) : idx N a = some ((N[a.toNat]?).getD default):=by
  rw [q86 (k:=a.toNat) q8 q8,List.getElem?_eq_getElem q8];rfl
theorem q7u (n : Qd) (r : n.Edges.length≤1000) : q7c n = some (Ut n):=by
  have:=Yx (f:=q37 n) (σ:=List qt) (fun k c=>((k : Int),c)) n.Edges.length (fun k c=>(∀ i (h : i < n.Edges.length),i < k→eOk n n.Edges[i])∧c = (n.Edges.take k).map (J0 n)) (fun o=>o = if ∀ e∈n.Edges,eOk n e then .inl (n.Edges.map (J0 n)) else .inr ([],false)) ?_ ?_ (k0:=0) (c0:=[]) q8 ⟨fun i h q=>q8,rfl⟩
  · obtain ⟨o,e,l⟩:=this;have e : loop (q37 n) (0,[]) = some o:=e;unfold q7c Ut;rw [e,l];by_cases h : ∀ e∈n.Edges,eOk n e
    · simp only [qu h];rfl
    · simp only [qw h];rfl
  · rintro k c hk ⟨g,rfl⟩;have hb : decide ((k : Int) < (n.Edges.length : Int)) = true:=Q9 q8
    have bad : ¬ eOk n n.Edges[k]→(Sum.inr ([],false) : List qt ⊕ (List qt × Bool)) = if ∀ e∈n.Edges,eOk n e then .inl (n.Edges.map (J0 n)) else .inr ([],false):=fun h=>by
      rw [qw (fun m=>h (m _ (Yi hk)))]
    by_cases a : (0≤n.Edges[k].A∧n.Edges[k].A < n.Nodes.length)∧(0≤n.Edges[k].B∧n.Edges[k].B < n.Nodes.length)
    · have d : (cond (decide ((min n.Edges[k].A n.Edges[k].B) < 0)) (some true) (some (decide ((max n.Edges[k].A n.Edges[k].B) ≥ (n.Nodes.length : Int))))) = some false:=by
        rw [Qa q8,Q6,Qa q8]
      have hs : ({A:=(n.Nodes[(n.Edges[k].A).toNat]?).getD default,B:=(n.Nodes[(n.Edges[k].B).toNat]?).getD default} : qt) = J0 n n.Edges[k]:=rfl;by_cases b : SegV (J0 n n.Edges[k])
      · refine .inl ⟨(n.Edges.take (k + 1)).map (J0 n),?_,fun i hi j=>?_,rfl⟩
        · simp only [q37,hb,Qb,Ko hk,qr,d,Q6,qck a.1,qck a.2,hs,qha,Q9 b,Bool.not_true];rw [Jc (by simp;omega),qr,Qh q8,List.take_succ_eq_append_getElem hk,List.map_append];rfl
        · by_cases e : i = k
          · subst e;exact ⟨a.1,a.2,b⟩
          · exact g i hi q8
      · refine .inr ⟨_,?_,bad fun h=>b h.2.2⟩;simp only [q37,hb,Qb,Ko hk,qr,d,Q6,qck a.1,qck a.2,hs,qha,Qa b,Bool.not_false]
    · have d : (cond (decide ((min n.Edges[k].A n.Edges[k].B) < 0)) (some true) (some (decide ((max n.Edges[k].A n.Edges[k].B) ≥ (n.Nodes.length : Int))))) = some true:=by
        by_cases h : min n.Edges[k].A n.Edges[k].B < 0
        · rw [Q9 h];rfl
        · rw [Qa h,Q6,Q9 q8]
      refine .inr ⟨_,?_,bad fun h=>a ⟨h.1,h.2.1⟩⟩;simp only [q37,hb,Qb,Ko hk,qr,d]
  · rintro c ⟨g,rfl⟩;have hb : decide ((n.Edges.length : Int) < (n.Edges.length : Int)) = false:=Qa q8;refine ⟨.inl _,by simp only [q37,hb,Q6];rfl,?_⟩;rw [qu,List.take_length];intro e p;obtain ⟨i,hi,rfl⟩:=List.mem_iff_getElem.1 p;exact g i hi hi
end Go.Sh
namespace Go.Sh
open Go Go.Am
open Classical
def Nrf : Prop:=(0 : Nat) = 0
structure Jo (n : Qd) (l : List qt) : Prop where
  drawn : Ut n = (l,true)
  len : l.length = n.Edges.length
  le : n.Edges.length≤400
  val : ∀ s∈l,SegV s
  net : Jn (rowP l) (colP l) n
theorem qr2 {n : Qd} {l : List qt} (h : Ut n = (l,true)) : l = n.Edges.map (J0 n)∧∀ e∈n.Edges,eOk n e:=by
  unfold Ut at h;split at h
  · rename_i a;cases h;exact ⟨rfl,a⟩
  · cases h
def Fit (n : Qd) : Prop:=(n.Nodes.length≤100000∧n.Edges.length≤1000)∧(n.Edges.length≤400∨400 < n.Nodes.length∨800 < n.Edges.length)
theorem qzq {n : Qd} (p : Fit n) : ∃ c,Yg n = some c∧Nrf∧((c = 0∧∃ l,Jo n l)∨c = 4∨c = 8):=by
  obtain ⟨⟨f1,q⟩,u⟩:=p;unfold Yg;by_cases k : 400 < n.Nodes.length∨800 < n.Edges.length
  · have e : (cond (decide ((n.Nodes.length : Int) > 400)) (some true) (some (decide ((n.Edges.length : Int) > 800)))) = some true:=by
      by_cases h : (n.Nodes.length : Int) > 400
      · rw [Q9 h];rfl
      · rw [Qa h,Q6,Q9 q8]
    rw [e];exact ⟨4,rfl,rfl,.inr (.inl rfl)⟩
  · have e : (cond (decide ((n.Nodes.length : Int) > 400)) (some true) (some (decide ((n.Edges.length : Int) > 800)))) = some false:=by
      rw [Qa q8,Q6,Qa q8]
    have o : n.Edges.length≤400:=by omega
    rw [e,qr,Q6,q7u n q,qr]
    cases hd : Ut n with
    | mk l b=>
      cases b with
      | false=>exact ⟨8,rfl,rfl,.inr (.inr rfl)⟩
      | true=>
        obtain ⟨j,r⟩:=qr2 hd
        have a : ∀ s∈l,SegV s:=by
          subst j;intro s hs;obtain ⟨e,t,rfl⟩:=List.mem_map.1 hs;exact (r e t).2.2
        have d : l.length = n.Edges.length:=by rw [j];simp
        simp only [Bool.not_true,Q6];rcases qd0 q8 a with ⟨m,e1,f⟩ | ⟨e1,f⟩
        · rw [e1];have:=f.nlen;have:=f.elen;simp only [qr,Bool.not_true,Q6,qgn m n q8 q8];by_cases g : m = n
          · subst g;rw [Q9 rfl];exact ⟨0,rfl,rfl,.inl ⟨rfl,l,hd,d,o,a,f⟩⟩
          · rw [Qa g];exact ⟨8,rfl,rfl,.inr (.inr rfl)⟩
        · rw [e1];exact ⟨8,rfl,rfl,.inr (.inr rfl)⟩
theorem qgq {n : Qd} (a : Fit n) : ∃ l c,q3z n = some (l,c)∧Nrf∧Yg n = some c∧Nrf∧((c = 0∧Jo n l)∨((c = 4∨c = 8)∧l = [])):=by
  obtain ⟨c,e1,d,h⟩:=qzq a;unfold q3z;rw [e1];rcases h with ⟨rfl,l,b⟩ | h
  · refine ⟨l,0,?_,rfl,rfl,rfl,.inl ⟨rfl,b⟩⟩
    · simp only [qr];rw [q7u n a.1.2,b.drawn];rfl
  · have : (c != 0) = true:=by rcases h with rfl | rfl <;> rfl
    refine ⟨[],c,?_,rfl,rfl,rfl,.inr ⟨h,rfl⟩⟩;simp only [qr,this,Qb]
end Go.Sh
namespace Go.Sh
open Go Go.Am
open Classical
abbrev net0 : Qd:={Nodes:=[],Edges:=[]}
theorem qky (l : List qt) (m : l.length≤400) : loop (q7a l) 0 = some (if ∀ s∈l,SegV s then .inl () else .inr (net0,8))∧Nrf:=by
  have key : ∀ f : Int→Option (Int ⊕ (Unit ⊕ (Qd × Int))),(∀ k (hk : k < l.length),f (k : Int) = if SegV l[k] then some (.inl (w64 ((k : Int) + 1))) else some (.inr (.inr (net0,8))))→f (l.length : Int) = some (.inr (.inl ()))→loop f 0 = some (if ∀ s∈l,SegV s then .inl () else .inr (net0,8)):=by
    intro f hs hd;have:=Yx (f:=f) (σ:=Unit) (fun k _=>(k : Int)) l.length (fun k _=>∀ i (hi : i < l.length),i < k→SegV l[i]) (fun o=>o = if ∀ s∈l,SegV s then .inl () else .inr (net0,8)) ?_ ?_ (k0:=0) (c0:=()) q8 (fun i hi h=>q8)
    · obtain ⟨b,j,rfl⟩:=this;exact j
    · rintro k _ hk c;have:=hs k hk;by_cases a : SegV l[k]
      · rw [qu a,Qh q8] at this;refine .inl ⟨(),by rw [this];rfl,fun i hi g=>?_⟩;by_cases e : i = k
        · subst e;exact a
        · exact c i hi q8
      · rw [qw a] at this;exact .inr ⟨_,this,by rw [qw (fun h=>a (h _ (Yi hk)))]⟩
    · rintro _ c;refine ⟨_,hd,?_⟩;rw [qu];intro s d;obtain ⟨i,hi,rfl⟩:=List.mem_iff_getElem.1 d;exact c i hi hi
  constructor
  · refine key _ (fun k hk=>?_) (by simp only [q7a,dnl',Q6]);simp only [q7a,dlt' hk,Qb,Ko hk,qr,qha];by_cases h : SegV l[k]
    · rw [qu h,Q9 h];rfl
    · rw [qw h,Qa h];rfl
  · rfl
theorem quj {l : List qt} (a : l.length≤400) (b : ∀ s∈l,SegV s) : (∃ n,Zf l = some (n,0)∧Nrf∧Jn (rowP l) (colP l) n)∨(Zf l = some (net0,4)∧Nrf∧qbv (rowP l) (colP l)):=by
  unfold Zf;rw [Qa (show ¬ (l.length : Int) > 400 by omega),Q6,(qky l a).1,qu b];rcases qd0 a b with ⟨n,e,h⟩ | ⟨e,h⟩
  · exact .inl ⟨n,by rw [qr,e];rfl,rfl,h⟩
  · exact .inr ⟨by rw [qr,e];rfl,rfl,h⟩
end Go.Sh
namespace Go.Sh
open Go Go.Am
open Classical
def Zu (s : qt) (p : qa) : Prop:=(min s.A.X s.B.X≤p.X∧p.X≤max s.A.X s.B.X)∧min s.A.Y s.B.Y≤p.Y∧p.Y≤max s.A.Y s.B.Y
theorem qw2 (s : qt) (p : qa) : q7d s p = some (decide (Zu s p)):=by
  unfold q7d;by_cases h : Zu s p
  · rw [Q9 h];obtain ⟨⟨c,a⟩,d,b⟩:=h;rw [Q9 c,Qb,Q9 a,Q9 d,Q9 b];rfl
  · rw [Qa h];unfold Zu at h;by_cases c : min s.A.X s.B.X≤p.X <;> by_cases a : p.X≤max s.A.X s.B.X <;> by_cases d : min s.A.Y s.B.Y≤p.Y <;> by_cases b : p.Y≤max s.A.Y s.B.Y
    all_goals first | (exfalso;exact h ⟨⟨c,a⟩,d,b⟩) | (simp only [c,a,d,b,decide_true,decide_false,Qb,Q6,qr])
theorem q10s (l : List qt) (p : qt→Option Bool) (c : qt→Bool) (h : ∀ t,p t = some (c t)) (n : l.length≤1000000) : q6g l p = some (l.any c):=by
  have:=Yx (f:=q3t l p) (σ:=Unit) (fun k _=>(k : Int)) l.length (fun k _=>∀ i (hi : i < l.length),i < k→c l[i] = false) (fun o=>(∃ k : Nat,o = .inr (k : Int)∧l.any c = true)∨(o = .inl ()∧l.any c = false)) ?_ ?_ (k0:=0) (c0:=()) q8 (fun i hi h=>q8)
  · obtain ⟨o,e,g⟩:=this;have e : loop (q3t l p) 0 = some o:=e;unfold q6g qdf;rw [e];rcases g with ⟨k,rfl,d⟩ | ⟨rfl,d⟩
    · simp only [qr,d];rw [Q9 (show (k : Int) ≥ 0 by omega)]
    · simp only [qr,d];rfl
  · rintro k _ hk b
    cases a : c l[k] with
    | true=>
      refine .inr ⟨.inr (k : Int),?_,.inl ⟨k,rfl,List.any_eq_true.2 ⟨_,Yi hk,a⟩⟩⟩;simp only [q3t,dlt' hk,Qb,Ko hk,qr,h,a]
    | false=>
      refine .inl ⟨(),?_,fun i hi m=>?_⟩
      · simp only [q3t,dlt' hk,Qb,Ko hk,qr,h,a,Q6];rw [Qh q8];rfl
      · by_cases e : i = k
        · subst e;exact a
        · exact b i hi q8
  · rintro _ b;refine ⟨.inl (),by simp only [q3t,dnl',Q6],.inr ⟨rfl,List.any_eq_false.2 fun x j=>?_⟩⟩;obtain ⟨i,hi,rfl⟩:=List.mem_iff_getElem.1 j;rw [b i hi hi];simp
noncomputable def q5c (l : List qt) (p : qa) : Bool:=l.any fun s=>decide (Zu s p)
theorem Jo.len400 {n : Qd} {l : List qt} (h : Jo n l) : l.length≤400:=by have:=h.len;have:=h.le;omega
theorem qfc {n : Qd} (k : Fit n) (p : qa) : ∃ b c,q1d n p = some (b,c)∧Nrf∧Yg n = some c∧(∀ l,Jo n l→b = q5c l p∧c = 0):=by
  obtain ⟨l,c,e1,w,d,_,h⟩:=qgq k;unfold q1d;rw [e1];rcases h with ⟨rfl,hs⟩ | ⟨h,rfl⟩
  · have u:=hs.len400;refine ⟨q5c l p,0,?_,rfl,d,fun l' a=>⟨?_,rfl⟩⟩
    · simp only [qr];show (q6g l fun j=>qbi j p).bind (fun o=>some (o,0)) = _;rw [q10s l _ (fun s=>decide (Zu s p)) (fun t=>by show (q7d t p).bind _ = _;rw [qw2];rfl) q8];rfl
    · have:=hs.drawn;have:=a.drawn;simp_all
  · have q : (c != 0) = true:=by rcases h with rfl | rfl <;> rfl
    refine ⟨false,c,?_,rfl,d,fun l' a=>?_⟩
    · simp only [qr,q,Qb]
    · exfalso;unfold Yg at d;have v:=a.net.nlen;have r:=a.net.elen;rw [Qa (show ¬ (n.Nodes.length : Int) > 400 by omega),Q6,Qa (show ¬ (n.Edges.length : Int) > 800 by omega),qr,Q6,q7u n q8,qr,a.drawn] at d;simp only [Bool.not_true,Q6] at d;rcases qd0 a.len400 a.val with ⟨m,g,f⟩ | ⟨g,f⟩
      · have:=f.uniq a.net;subst this;rw [g] at d;simp only [qr,Bool.not_true,Q6,qgn m m q8 q8,decide_true] at d;have : c = 0:=(Zl (show some (0 : Int) = some c from d)).symm;rcases h with rfl | rfl <;> cases this
      · have:=f.not a.net.nodes;omega
end Go.Sh
