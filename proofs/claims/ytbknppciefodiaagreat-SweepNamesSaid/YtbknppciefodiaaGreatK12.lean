/- Rs2 Rs3 Qb1 Rs4 Qb2 Pf3 Rs5 Rs6 Rs7 Sw1 Sw2 Sw3 Sw4 Sw5 Sw6 Sw7 Sw8 Sw9 -/
import Derived.Test.YtbknppciefodiaaGreatK11
namespace Go.Sh
open Go Go.Am
theorem qyq (v : qz) : q6h v = some (decide ((-1000000≤v.X∧-1000000≤v.Y∧-1000000≤v.Z)∧v.X≤1000000∧v.Y≤1000000∧v.Z≤1000000)):=by
  unfold q6h;by_cases a : min (min v.X v.Y) v.Z ≥ -1000000
  · by_cases b : max (max v.X v.Y) v.Z≤1000000
    · rw [Q9 a,Q9 b,Q2,qn];congr 1;exact (Q9 q0).symm
    · rw [Q9 a,Qh b,Q2,qn];congr 1;exact (Qh q0).symm
  · rw [Qh a,Q3,qn];congr 1;exact (Qh q0).symm
theorem qli (b : qg) : q6i b = some (decide (vB b)):=by
  unfold q6i vB;simp only [qyq,qn];by_cases a : b.Lo.X < b.Hi.X
  · by_cases c : b.Lo.Y < b.Hi.Y
    · by_cases d : b.Lo.Z < b.Hi.Z
      · simp only [a,c,d,decide_true,Q2,qn,true_and];by_cases f : (-1000000≤b.Lo.X∧-1000000≤b.Lo.Y∧-1000000≤b.Lo.Z)∧b.Lo.X≤1000000∧b.Lo.Y≤1000000∧b.Lo.Z≤1000000
        · rw [Q9 f];simp only [Q2,qn];congr 1;exact decide_eq_decide.2 q0
        · rw [Qh f];simp only [Q3,qn];congr 1;exact (Qh q0).symm
      · simp [a,c,d]
    · simp [a,c]
  · simp [a]
theorem qyp (l : List qg) (c : l.length≤1000000) : q88 l (fun a=>q33 a) = some (decide (¬ ∀ r∈l,vB r)):=by
  have hs : ∀ (k : Nat) (h : k < l.length),q3o l (fun a=>q33 a) (k : Int) = some (if (fun r=>!decide (vB r)) l[k] = true then .inr (.inr (k : Int)) else .inl ((k + 1 : Nat) : Int)):=by
    intro k h;simp only [q3o,dlt h,Q2,K5 h,qn,w64s h c,q33,qli];by_cases m : vB l[k] <;> simp [m]
  have hd : q3o l (fun a=>q33 a) (l.length : Int) = some (.inr (.inl ())):=by simp only [q3o,dnl,Q3]
  unfold q88 qbh;rcases Uh l (fun r=>!decide (vB r)) (fun k _=>(k : Int)) () _ hs hd with ⟨j,b⟩ | ⟨k,g,f,_,b⟩
  · rw [b];have : ∀ r∈l,vB r:=fun r d=>by simpa using j r d
    simp [];omega
  · rw [b];have : ¬ ∀ r∈l,vB r:=fun h=>by simp [h _ (Y6 g)] at f
    simp only [qn];rw [Q9 this,Q9 q0]
theorem qyo (l : List qg) (c : l.length≤1000000) : q1r l (fun a=>q32 a) = some (decide (¬ ∀ r∈l,vB r)):=by
  have hs : ∀ (k : Nat) (h : k < l.length),Uw l (fun a=>q32 a) (k : Int) = some (if (fun r=>!decide (vB r)) l[k] = true then .inr (.inr (k : Int)) else .inl ((k + 1 : Nat) : Int)):=by
    intro k h;simp only [Uw,dlt h,Q2,K5 h,qn,w64s h c,q32,qli];by_cases m : vB l[k] <;> simp [m]
  have hd : Uw l (fun a=>q32 a) (l.length : Int) = some (.inr (.inl ())):=by simp only [Uw,dnl,Q3]
  unfold q1r q8e;rcases Uh l (fun r=>!decide (vB r)) (fun k _=>(k : Int)) () _ hs hd with ⟨j,b⟩ | ⟨k,g,f,_,b⟩
  · rw [b];have : ∀ r∈l,vB r:=fun r d=>by simpa using j r d
    simp [];omega
  · rw [b];have : ¬ ∀ r∈l,vB r:=fun h=>by simp [h _ (Y6 g)] at f
    simp only [qn];rw [Q9 this,Q9 q0]
theorem qlf (s : Mg qk qg) (a b : Int) (c : List qk) (hl : (s.flat putB).length + c.length≤1000000) :
    q6e (s.flat putB) s.sec (s.done.length : Int) s.hi a b c = some ((addM putB s a b c).sec,((addM putB s a b c).done.length : Int),(addM putB s a b c).hi,(addM putB s a b c).flat putB):=by
  have u : (s.flat putB).length = s.done.length + s.sec.length:=by simp [Mg.flat]
  have d : s.sec.length≤1000000:=by omega
  unfold q6e;rcases q70 putB s a b c with ⟨q,r,x,m⟩ | ⟨q,m⟩
  · have hb : decide ((c.length : Int) > 0) = true:=Q9 (by have:=List.length_pos_iff.2 q;omega);have z : (s.hi == a) = true:=by simpa using x
    rw [r] at hb;rw [m,r];simp only [hb,Q2,z,qn,qda _ _ d,decide_true]
    have:=qhk (fun v : qg=>({Lo:=v.Lo,Hi:=({X:=v.Hi.X,Y:=v.Hi.Y,Z:=b} : qz)} : qg)) s.done (s.sec.map (putB s.lo s.hi)) (by simp;omega) (q6f b) (fun k o f t=>by
      have l : (s.done ++ s.sec.map (putB s.lo s.hi)).length = (s.flat putB).length:=rfl
      simp only [q6f,dlt f,Q2,K5 f,qn,w64s f q0,Int.toNat_natCast]) (fun o=>by simp only [q6f,dnl,Q3])
    rw [show s.flat putB = s.done ++ s.sec.map (putB s.lo s.hi) from rfl,this];simp only [qn,Mg.flat,List.map_map];rfl
  · rw [m]
    have y : ((cond (decide ((c.length : Int) > 0)) (some (s.hi == a)) (some false)).bind fun g=>(cond g ((q5e s.sec c).bind fun j=>some j) (some false))) = some false:=by
      by_cases l : c = []
      · subst l;simp
      · have hb : decide ((c.length : Int) > 0) = true:=Q9 (by have:=List.length_pos_iff.2 l;omega);simp only [hb,Q2,qn,qda _ _ d];by_cases p : s.hi = a
        · have w : s.sec≠c:=fun h=>q ⟨l,h.symm,p⟩;simp [p,w]
        · have : (s.hi == a) = false:=by simpa using p
          simp [this]
    have n:=qj3 c (putB a b) (s.flat putB) (fun o=>(c,((s.flat putB).length : Int),b,o)) (q6g c a b (s.flat putB)) (fun k f o t=>by
      simp only [q6g,dlt f,Q2,K5 f,qn,w64s f q0];rw [Zf (by simp;omega)]
      rfl) (fun o=>by simp only [q6g,dnl,Q3])
    rw [← Option.bind_assoc,y];simp only [qn,Q3,n];simp [Mg.flat]
theorem qfr (l : List qg) (o : List Int) (d : l.length≤400) (f : o.length≤10000) : loop (q1v l) (0,o) = some (o ++ zsOf l):=
  q6z l q0 (fun r=>[r.Lo.Z,r.Hi.Z]) o (fun o=>o) (q1v l) (fun k b c a=>by
    have g : c.length = o.length + 2 * k:=by
      rw [a,List.length_append];have:=q38 (l.take k);rw [List.length_take,Nat.min_eq_left q0] at this;unfold zsOf at this;omega
    simp only [q1v,dlt b,Q2,K5 b,qn,w64s b q0]
    rw [Zf (by simp;omega)]
    rfl) (fun o=>by simp only [q1v,dnl,Q3])
theorem q4e (l : List qg) (f : l.length≤400) (x : Int) : loop (q1w l x) (0,[]) = some (atB l x):=by
  have:=q6z l q0 (fun r=>if covB x r = true then [Jz r] else []) [] (fun o=>o) (q1w l x) (fun k a o d=>by
    have g : o.length≤k:=by rw [d,List.nil_append];have:=q4d (l.take k) x;rw [List.length_take,Nat.min_eq_left q0] at this;exact this
    simp only [q1w,dlt a,Q2,K5 a,qn,w64s a q0];by_cases b : l[k].Lo.Z≤x
    · by_cases c : x < l[k].Hi.Z
      · simp only [b,c,decide_true,Q2,qn,covB,Bool.and_self,if_true];rw [Zf (by simp;omega)];rfl
      · simp only [b,c,decide_true,decide_false,Q2,Q3,qn,covB,Bool.and_false,if_false,Bool.false_eq_true,List.append_nil]
    · simp only [b,decide_false,Q3,qn,covB,Bool.false_and,if_false,Bool.false_eq_true,List.append_nil]) (fun o=>by simp only [q1w,dnl,Q3])
  rw [List.nil_append] at this;exact this
theorem ql3 {kind : Int} {p q : List qg} {xs : List Int} (ac : K1 (zsOf p ++ zsOf q) = xs) (h : p.length + q.length≤800) (F : Int × List qk × Int × Int × List qg→Option ((Int × List qk × Int × Int × List qg) ⊕ ((List qk × Int × Int × List qg) ⊕ (List qg × Int))))
    (aa : ∀ (a b : Int) (k : Nat) (s : Mg qk qg),(s.flat putB).length + 400≤1000000→(h1 : k + 1 < xs.length)→a = xs[k]'(q0)→b = xs[k + 1]'h1→(secB kind p q a).length≤400→
      F (((k + 1 : Nat) : Int),s.sec,(s.done.length : Int),s.hi,s.flat putB) = some (.inl (((k + 1 + 1 : Nat) : Int),(addM putB s a b (secB kind p q a)).sec,((addM putB s a b (secB kind p q a)).done.length : Int),(addM putB s a b (secB kind p q a)).hi,(addM putB s a b (secB kind p q a)).flat putB)))
    (w : ∀ (a : Int) (k : Nat) (s : Mg qk qg),(h1 : k + 1 < xs.length)→a = xs[k]'(q0)→400 < (secB kind p q a).length→
      F (((k + 1 : Nat) : Int),s.sec,(s.done.length : Int),s.hi,s.flat putB) = some (.inr (.inr ([],4))))
    (z : ∀ (k : Nat) (s : Mg qk qg),xs.length≤k + 1→F (((k + 1 : Nat) : Int),s.sec,(s.done.length : Int),s.hi,s.flat putB) = some (.inr (.inl (s.sec,(s.done.length : Int),s.hi,s.flat putB)))) :
    (∃ a b c,loop F (1,[],0,0,[]) = some (.inl (a,b,c,mrgB kind p q)))∨(400 < (mrgB kind p q).length∧loop F (1,[],0,0,[]) = some (.inr ([],4))):=by
  have an:=q38 p;have am:=q38 q;obtain ⟨_,ae,d⟩:=q14 (l:=zsOf p ++ zsOf q) (by simp;omega);have d : (K1 (zsOf p ++ zsOf q)).length≤1600:=by simp at d;omega
  have m : ∀ x,(secB kind p q x).length≤(mrgB kind p q).length:=fun x=>qvb kind q0 x;have ab : mrgB kind p q = (K6 putB K4 (Yx (K1 (zsOf p ++ zsOf q)) (secB kind p q))).flat putB:=rfl;rw [ab] at m ⊢;rw [ac] at ae d m ⊢;generalize v : Yx xs (secB kind p q) = steps at m ⊢;have aj : steps.length = xs.length - 1:=by rw [← v];exact qbx _ _
  have o : ∀ k (g : k < steps.length),steps[k] = (xs[k]'(q0),xs[k + 1]'(q0),secB kind p q (xs[k]'(q0))):=fun k g=>by subst v;exact qfb g q0
  have ad : ∀ k,k≤steps.length→(∀ j,j < k→∀ t,steps[j]? = some t→t.2.2.length≤400)→((K6 putB K4 (steps.take k)).flat putB).length≤1600 * 400:=fun k g n=>by
    have h1:=qdi putB (s0:=K4) (M:=400) (steps:=steps.take k) (fun t u=>by
      obtain ⟨i,hi,rfl⟩:=List.getElem_of_mem u;rw [List.length_take] at hi;rw [List.getElem_take]
      exact n i q0 _ (List.getElem?_eq_getElem q0))
    have y : (steps.take k).length≤1600:=by rw [List.length_take];omega
    have h3 : (K4.flat putB : List qg).length = 0:=rfl;have h4 : (steps.take k).length * 400≤1600 * 400:=Nat.mul_le_mul_right _ y;omega
  have main:=qdy (f:=F) (fun k=>(((k + 1 : Nat) : Int),(K6 putB K4 (steps.take k)).sec,((K6 putB K4 (steps.take k)).done.length : Int),(K6 putB K4 (steps.take k)).hi,(K6 putB K4 (steps.take k)).flat putB))
    steps.length (fun j=>∀ t,steps[j]? = some t→t.2.2.length≤400) (.inl ((K6 putB K4 steps).sec,((K6 putB K4 steps).done.length : Int),(K6 putB K4 steps).hi,(K6 putB K4 steps).flat putB)) (.inr ([],4))
    (fun k g n=>by
      have r : k + 1 < xs.length:=by omega
      have hc:=n k (Nat.le_refl _) _ (List.getElem?_eq_getElem g);have hm:=ad k q0 fun j ak=>n j q0;rw [qdj putB g,o k g] at *;simp only at hc
      exact aa _ _ k (K6 putB K4 (steps.take k)) q0 r rfl rfl hc)
    (fun k g n hb=>by
      have r : k + 1 < xs.length:=by omega
      have ai : k < xs.length:=by omega
      refine w _ k (K6 putB K4 (steps.take k)) r rfl ?_;refine Nat.lt_of_not_le fun h=>hb fun t u=>?_;rw [List.getElem?_eq_getElem g,o k g] at u
      cases u;exact h)
    (fun _=>by
      rw [List.take_length]
      exact z steps.length _ q0)
  have af : ((((0 + 1 : Nat) : Int),(K6 putB K4 (steps.take 0)).sec,((K6 putB K4 (steps.take 0)).done.length : Int),(K6 putB K4 (steps.take 0)).hi,(K6 putB K4 (steps.take 0)).flat putB) : Int × List qk × Int × Int × List qg) = (1,[],0,0,[]):=rfl;rw [af] at main;rcases main with ⟨_,y⟩ | ⟨j,n,hb,y⟩
  · exact .inl ⟨_,_,_,y⟩
  · refine .inr ⟨?_,y⟩;have al : j < xs.length:=by omega
    have h5 : 400 < (secB kind p q xs[j]).length:=by
      refine Nat.lt_of_not_le fun h=>hb fun t u=>?_;rw [List.getElem?_eq_getElem n,o j n] at u;cases u;exact h
    exact Nat.lt_of_lt_of_le h5 (m xs[j])
theorem qkp (l : List qg) (m : l.length≤400) (x : ∀ b∈l,vB b) : q6j l = some (if 400 < (mrgB 2 l []).length then ([],4) else (mrgB 2 l [],0)):=by
  unfold q6j;have v:=q38 l;simp only [show idx [l] 0 = some l from rfl,qn,qfr l [] m qe,List.nil_append];rw [qf9 _ q0];simp only [qn];have t : zsOf l = zsOf l ++ zsOf []:=by simp [zsOf]
  obtain ⟨_,y,d⟩:=q14 (l:=zsOf l ++ zsOf []) (by rw [← t];omega);have d : (K1 (zsOf l ++ zsOf [])).length≤800:=by rw [← t] at d ⊢;omega
  have g : ∀ z,q1o (atB l z) = some (if 400 < (secB 2 l [] z).length then ([],4) else (secB 2 l [] z,0)):=fun z=>by
    have:=q4d l z;rw [qkc,mkR,ql q0,qm (qmo x z)];rfl
  rw [t]
  have:=ql3 (kind:=2) (p:=l) (q:=[]) rfl (by simp;omega) (q40 (K1 (zsOf l ++ zsOf [])) l)
    (fun a b k s hs f o hb u=>by
      have h0 : k < (K1 (zsOf l ++ zsOf [])).length:=by omega
      have n : idx (K1 (zsOf l ++ zsOf [])) (w64 (((k + 1 : Nat) : Int) - 1)) = some a:=by rw [Qe q0,o];exact Zz q0 q0
      have w : idx (K1 (zsOf l ++ zsOf [])) ((k + 1 : Nat) : Int) = some b:=by rw [hb];exact K5 f
      have h:=g a;rw [ql q0] at h;simp only [q40,dlt f,Q2,n,w,qn,show idx [l] 0 = some l from rfl,q4e l m,h,show ((0 : Int) != 0) = false from rfl,Q3,qlf s a b (secB 2 l [] a) q0]
      rw [w64s f q0])
    (fun a k s f o u=>by
      have n : idx (K1 (zsOf l ++ zsOf [])) (w64 (((k + 1 : Nat) : Int) - 1)) = some a:=by rw [Qe q0,o];exact Zz q0 q0
      have h:=g a;rw [qm u] at h
      simp only [q40,dlt f,Q2,n,K5 f,qn,show idx [l] 0 = some l from rfl,q4e l m,h,show ((4 : Int) != 0) = true from rfl])
    (fun k s f=>by
      have : decide (((k + 1 : Nat) : Int) < ((K1 (zsOf l ++ zsOf [])).length : Int)) = false:=Qh q0
      simp only [q40,this,Q3])
  rcases this with ⟨a,b,c,r⟩ | ⟨j,r⟩
  · rw [r];simp only [qn];by_cases j : 400 < (mrgB 2 l []).length
    · rw [Q9 (by omega : ((mrgB 2 l []).length : Int) > 400),qm j];rfl
    · rw [Qh (by omega : ¬ ((mrgB 2 l []).length : Int) > 400),ql j];rfl
  · rw [r,qm j];rfl
theorem qyi (l : List qg) : q98 l = some (mkB l):=by
  unfold q98 mkB;by_cases b : 400 < l.length
  · rw [Q9 (by omega : (l.length : Int) > 400),Q2,qm b]
  rw [Qh (by omega : ¬ (l.length : Int) > 400),Q3,ql b,qyp l q0,qn];by_cases a : ∀ r∈l,vB r
  · rw [Qh (fun h=>h a),Q3,qkp l q0 a,qm a];rfl
  · rw [Q9 a,Q2,ql a]
theorem qp7 (p q : List qg) (a : p.length≤1000000) : qbf p q = some (decide (p = q)):=sameBox p q a
theorem qbp (l : List qg) : q1u l = some (Qt l):=by
  unfold q1u Qt;by_cases c : 400 < l.length
  · rw [Q9 (by omega : (l.length : Int) > 400),Q2,qm c]
  rw [Qh (by omega : ¬ (l.length : Int) > 400),Q3,ql c,qyo l q0,qn];by_cases a : ∀ r∈l,vB r
  · rw [Qh (fun h=>h a),Q3,qkp l q0 a,qm a,qn];by_cases b : 400 < (mrgB 2 l []).length
    · have d : mrgB 2 l []≠l:=fun h=>by rw [h] at b;exact c b
      rw [qm b,ql d];rfl
    · rw [ql b];simp only [qp7 (mrgB 2 l []) l q0];by_cases f : mrgB 2 l [] = l <;> simp [f]
  · rw [Q9 a,Q2,ql a]
end Go.Sh
namespace Go.Sh
open Go Go.Am
theorem sj1 : qbr = q1v:=rfl
theorem sj2 : qbs = q1v:=rfl
theorem sj4 : qbt = q1w:=rfl
theorem sj5 : qbu = q1w:=rfl
theorem qcw {p : List qg} (h : Qt p = 0) (z : Int) : Yi (atB p z) = 0:=by
  obtain ⟨c,b,a⟩:=Yo.1 h;have:=q4d p z;exact q78.2 ⟨q0,qmo b z,a.at z⟩
theorem qau {p : List qg} (h : Qt p = 0) (z : Int) : q1o (atB p z) = some (atB p z,0):=by
  obtain ⟨c,b,a⟩:=q78.1 (qcw h z);rw [qkc,mkR,ql q0,qm b,qjg q0 a,ql q0]
theorem qu3 (kind : Int) (g : List qk→List qk→Option (List qk × Int)) (hg : ∀ a b,g a b = some (jR kind a b)) (p q : List qg) (hp : Qt p = 0) (m : Qt q = 0) :
    q9c g p q = some (if 400 < (mrgB kind p q).length then ([],4) else (mrgB kind p q,0)):=by
  obtain ⟨o,vp,cp⟩:=Yo.1 hp;obtain ⟨r,vq,cq⟩:=Yo.1 m;unfold q9c;have aa:=q38 p;have y:=q38 q;simp only [show idx [p,q] 0 = some p from rfl,show idx [p,q] 1 = some q from rfl,qn,sj1,sj2,qfr p [] o qe,List.nil_append,qfr q (zsOf p) r q0];rw [qf9 _ (by simp;omega)];simp only [qn];obtain ⟨_,ac,d⟩:=q14 (l:=zsOf p ++ zsOf q) (by simp;omega);have d : (K1 (zsOf p ++ zsOf q)).length≤1600:=by simp at d;omega
  have w : ∀ z,g (atB p z) (atB q z) = some (if 400 < (secB kind p q z).length then ([],4) else (secB kind p q z,0)):=fun z=>by
    rw [hg,jR,ql (by simp [qcw hp z]),ql (by simp [qcw m z])];rfl
  have:=ql3 (kind:=kind) (p:=p) (q:=q) rfl q0 (q3z (K1 (zsOf p ++ zsOf q)) p q g)
    (fun a b k s hs f u hb v=>by
      have h0 : k < (K1 (zsOf p ++ zsOf q)).length:=by omega
      have t : idx (K1 (zsOf p ++ zsOf q)) (w64 (((k + 1 : Nat) : Int) - 1)) = some a:=by rw [Qe q0,u];exact Zz q0 q0
      have x : idx (K1 (zsOf p ++ zsOf q)) ((k + 1 : Nat) : Int) = some b:=by rw [hb];exact K5 f
      have h:=w a;rw [ql q0] at h;simp only [q3z,dlt f,Q2,t,x,qn,show idx [p,q] 0 = some p from rfl,show idx [p,q] 1 = some q from rfl,sj4,sj5,q4e p o,q4e q r,qau hp,qau m,show ((0 : Int) == 0) = true from rfl,h,show ((0 : Int) != 0) = false from rfl,Q3,qlf s a b (secB kind p q a) q0]
      rw [w64s f q0])
    (fun a k s f u v=>by
      have t : idx (K1 (zsOf p ++ zsOf q)) (w64 (((k + 1 : Nat) : Int) - 1)) = some a:=by rw [Qe q0,u];exact Zz q0 q0
      have h:=w a;rw [qm v] at h
      simp only [q3z,dlt f,Q2,t,K5 f,qn,show idx [p,q] 0 = some p from rfl,show idx [p,q] 1 = some q from rfl,sj4,sj5,q4e p o,q4e q r,qau hp,qau m,show ((0 : Int) == 0) = true from rfl,h,show ((4 : Int) != 0) = true from rfl])
    (fun k s f=>by
      have : decide (((k + 1 : Nat) : Int) < ((K1 (zsOf p ++ zsOf q)).length : Int)) = false:=Qh q0
      simp only [q3z,this,Q3])
  rcases this with ⟨a,b,c,n⟩ | ⟨j,n⟩
  · rw [n];simp only [qn];by_cases j : 400 < (mrgB kind p q).length
    · rw [Q9 (by omega : ((mrgB kind p q).length : Int) > 400),qm j];rfl
    · rw [Qh (by omega : ¬ ((mrgB kind p q).length : Int) > 400),ql j];rfl
  · rw [n,qm j];rfl
theorem qqf (kind : Int) (g : List qk→List qk→Option (List qk × Int)) (d : ∀ a b,g a b = some (jR kind a b)) (p q : List qg) : q9b p q g = some (jB kind p q):=by
  unfold q9b jB;simp only [qbp,qn];by_cases hp : ¬ Qt p = 0
  · rw [qm hp];have : (Qt p != 0) = true:=by simpa using hp
    rw [this,Q2]
  replace hp:=Classical.not_not.1 hp;by_cases c : ¬ Qt q = 0
  · rw [ql (by simp [hp]),qm c,hp];have : (Qt q != 0) = true:=by simpa using c
    rw [this];rfl
  replace c:=Classical.not_not.1 c;rw [ql (by simp [hp]),ql (by simp [c]),qu3 kind g d p q hp c,hp,c];rfl
theorem qyk (p q : List qg) : q99 p q = some (jB 2 p q):=by
  unfold q99;rw [qqf 2 _ (fun a b=>qtg a b)];rfl
end Go.Sh
namespace Go.Sh
open Go Go.Am
def sumN : Nat→(Int→Int)→Int
  | 0,_=>0
  | n + 1,f=>sumN n f + f n
theorem qlz {f g : Int→Int} : ∀ {n : Nat},sumN n (fun x=>f x + g x) = sumN n f + sumN n g
  | 0=>rfl
  | n + 1=>by rw [sumN,sumN,sumN,qlz (n:=n)];omega
theorem qm2 {c : Int} {f : Int→Int} : ∀ {n : Nat},sumN n (fun x=>c * f x) = c * sumN n f
  | 0=>by simp [sumN]
  | n + 1=>by rw [sumN,sumN,qm2 (n:=n),Int.mul_add]
theorem qm3 : ∀ {n : Nat},sumN n (fun _=>0) = 0
  | 0=>rfl
  | n + 1=>by rw [sumN,qm3 (n:=n)];rfl
theorem qm1 {f g : Int→Int} : ∀ {n : Nat},(∀ k : Nat,k < n→f k≤g k)→sumN n f≤sumN n g
  | 0,_=>Int.le_refl _
  | n + 1,h=>by have:=qm1 (n:=n) fun k a=>h k q0;have:=h n q0;rw [sumN,sumN];omega
noncomputable def ind (p : Prop) : Int:=by classical exact if p then 1 else 0
theorem qao {p : Prop} (h : p) : ind p = 1:=by unfold ind;simp [h]
theorem U7 {p : Prop} (h : ¬ p) : ind p = 0:=by unfold ind;simp [h]
theorem q4o {p q : Prop} (h : p↔q) : ind p = ind q:=by rw [propext h]
theorem qii {p q : Prop} : ind (p∧q) = ind p * ind q:=by
  by_cases hp : p <;> by_cases a : q
  · rw [qao ⟨hp,a⟩,qao hp,qao a];rfl
  · rw [U7 (fun h=>a h.2),U7 a];simp
  · rw [U7 (fun h=>hp h.1),U7 hp];simp
  · rw [U7 (fun h=>hp h.1),U7 hp];simp
theorem qq6 {p q : Prop} : ind (p∨q) = ind p + ind q - ind (p∧q):=by
  by_cases hp : p <;> by_cases a : q <;> simp [ind,hp,a]
theorem qij {p : Prop} : 0≤ind p∧ind p≤1:=by by_cases hp : p <;> simp [ind,hp]
theorem qm0 (a b : Int) : ∀ {n : Nat},sumN n (fun x=>ind (a≤x∧x < b)) = max 0 (min b n - max a 0)
  | 0=>by rw [sumN];omega
  | n + 1=>by
    rw [sumN,qm0 a b (n:=n)]
    by_cases h : a≤(n : Int)∧(n : Int) < b
    · rw [qao h];omega
    · rw [U7 h];omega
def sumZ (N : Nat) (f : Int→Int) : Int:=sumN (2 * N) fun k=>f (k - N)
theorem qzi {N : Nat} {f g : Int→Int} : sumZ N (fun x=>f x + g x) = sumZ N f + sumZ N g:=qlz
theorem q9l {N : Nat} {c : Int} {f : Int→Int} : sumZ N (fun x=>c * f x) = c * sumZ N f:=qm2
theorem qm4 {N : Nat} : sumZ N (fun _=>0) = 0:=qm3
theorem qbz {N : Nat} {f g : Int→Int} (h : ∀ x : Int,-(N : Int)≤x→x < N→f x≤g x) : sumZ N f≤sumZ N g:=
  qm1 fun k a=>h _ q0 q0
theorem qfg {N : Nat} {a b : Int} (f : -N≤a) (d : a≤b) (c : b≤N) : sumZ N (fun x=>ind (a≤x∧x < b)) = b - a:=by
  unfold sumZ
  have : (fun k : Int=>ind (a≤k - N∧k - N < b)) = fun k=>ind (a + N≤k∧k < b + N):=by
    funext k;exact q4o ⟨fun h=>q0,fun h=>q0⟩
  simp only [this];rw [qm0];omega
theorem qfh {N : Nat} {f : Int→Int} (h : ∀ x : Int,-(N : Int)≤x→x < N→0≤f x) : 0≤sumZ N f:=by
  rw [← qm4 (N:=N)];exact qbz h
theorem qff {N : Nat} {c : Int} : sumZ N (fun _=>c) = 2 * N * c:=by
  have : ∀ n : Nat,sumN n (fun _=>c) = n * c:=by
    intro n
    induction n with
    | zero=>simp [sumN]
    | succ n ih=>rw [sumN,ih,Int.natCast_succ,Int.add_mul,Int.one_mul]
  unfold sumZ;rw [this];simp
noncomputable def cnt3 (N : Nat) (P : Int→Int→Int→Prop) : Int:=sumZ N fun x=>sumZ N fun y=>sumZ N fun z=>ind (P x y z)
def sumL {α : Type} (f : α→Int) : List α→Int
  | []=>0
  | a::r=>f a + sumL f r
theorem qly {α : Type} (f : α→Int) (a b : List α) : sumL f (a ++ b) = sumL f a + sumL f b:=by
  induction a with
  | nil=>simp [sumL]
  | cons x a ih=>rw [List.cons_append,sumL,sumL,ih];omega
theorem qzh {α : Type} {f g : α→Int} {l : List α} (h : ∀ a∈l,f a = g a) : sumL f l = sumL g l:=by
  induction l with
  | nil=>rfl
  | cons a l ih=>rw [sumL,sumL,h a qe,ih fun b hb=>h b (by simp [hb])]
theorem qfe {α : Type} {N : Nat} (f : α→Int→Int) (l : List α) : sumL (fun a=>sumZ N (f a)) l = sumZ N fun x=>sumL (fun a=>f a x) l:=by
  induction l with
  | nil=>exact qm4.symm
  | cons a l ih=>
    have : (fun x=>sumL (fun a=>f a x) (a::l)) = fun x=>f a x + (fun x=>sumL (fun a=>f a x) l) x:=rfl;rw [sumL,ih,this,qzi]
def inB (b : qg) (x y z : Int) : Prop:=(b.Lo.X≤x∧x < b.Hi.X)∧(b.Lo.Y≤y∧y < b.Hi.Y)∧(b.Lo.Z≤z∧z < b.Hi.Z)
def inR (r : qk) (x y : Int) : Prop:=(r.X0≤x∧x < r.X1)∧(r.Y0≤y∧y < r.Y1)
def inS (t : qj) (x : Int) : Prop:=t.Lo≤x∧x < t.Hi
def volB (b : qg) : Int:=(b.Hi.X - b.Lo.X) * (b.Hi.Y - b.Lo.Y) * (b.Hi.Z - b.Lo.Z)
theorem q108 {N : Nat} {b : qg} (h : (b.Lo.X≤b.Hi.X∧b.Lo.Y≤b.Hi.Y∧b.Lo.Z≤b.Hi.Z)∧(-(N : Int)≤b.Lo.X∧-(N : Int)≤b.Lo.Y∧-(N : Int)≤b.Lo.Z)∧b.Hi.X≤N∧b.Hi.Y≤N∧b.Hi.Z≤N) :
    volB b = cnt3 N (inB b):=by
  obtain ⟨⟨k,c,a⟩,⟨f,m,l⟩,n,g,j⟩:=h;unfold cnt3
  have e : ∀ x y,(sumZ N fun z=>ind (inB b x y z)) = ind (b.Lo.X≤x∧x < b.Hi.X) * (ind (b.Lo.Y≤y∧y < b.Hi.Y) * (b.Hi.Z - b.Lo.Z)):=fun x y=>by
    have : (fun z=>ind (inB b x y z)) = fun z=>ind (b.Lo.X≤x∧x < b.Hi.X) * (ind (b.Lo.Y≤y∧y < b.Hi.Y) * ind (b.Lo.Z≤z∧z < b.Hi.Z)):=by
      funext z;unfold inB;rw [qii (p:=_∧_) (q:=(_∧_)∧_),qii (p:=_∧_) (q:=_∧_)]
    rw [this,q9l,q9l,qfg l a j]
  have d : ∀ x,(sumZ N fun y=>sumZ N fun z=>ind (inB b x y z)) = ind (b.Lo.X≤x∧x < b.Hi.X) * ((b.Hi.Y - b.Lo.Y) * (b.Hi.Z - b.Lo.Z)):=fun x=>by
    have : (fun y=>sumZ N fun z=>ind (inB b x y z)) = fun y=>ind (b.Lo.X≤x∧x < b.Hi.X) * ((b.Hi.Z - b.Lo.Z) * ind (b.Lo.Y≤y∧y < b.Hi.Y)):=by
      funext y;rw [e,Int.mul_comm (b.Hi.Z - b.Lo.Z)]
    rw [this,q9l,q9l,qfg m c g,Int.mul_comm (b.Hi.Z - b.Lo.Z)]
  have : (fun x=>sumZ N fun y=>sumZ N fun z=>ind (inB b x y z)) = fun x=>((b.Hi.Y - b.Lo.Y) * (b.Hi.Z - b.Lo.Z)) * ind (b.Lo.X≤x∧x < b.Hi.X):=by
    funext x;rw [d,Int.mul_comm]
  rw [this,q9l,qfg f k n,volB];simp only [Int.mul_assoc,Int.mul_left_comm,Int.mul_comm]
noncomputable def cntS (s : List qj) (y : Int) : Int:=sumL (fun t=>ind (inS t y)) s
noncomputable def cntR (l : List qk) (x y : Int) : Int:=sumL (fun t=>ind (inR t x y)) l
noncomputable def cntB (l : List qg) (x y z : Int) : Int:=sumL (fun t=>ind (inB t x y z)) l
theorem qgr : ∀ {s : List qj},Can s→∀ y,cntS s y = ind (has s y)
  | [],_,y=>by rw [U7 (q1i y)];rfl
  | a::s,h,y=>by
    have b:=qgr h.tail y
    unfold cntS at b ⊢
    rw [sumL,b,q4o (Zs (a:=a) (s:=s) (x:=y)),qq6]
    have : ¬ ((a.Lo≤y∧y < a.Hi)∧has s y):=fun ⟨c,h2⟩=>by have:=h.tail_gt h2;omega
    rw [U7 this];unfold inS;omega
theorem qom (l : List qk) (x y : Int) : cntR l x y = cntS (covS l x) y:=by
  unfold cntR cntS
  induction l with
  | nil=>rfl
  | cons r l ih=>
    have e : covS (r::l) x = (if covR x r = true then [ysp r] else []) ++ covS l x:=rfl;rw [sumL,ih,e,qly];congr 1;by_cases a : covR x r = true
    · rw [qm a];have:=q4g.1 a;simp only [sumL,Int.add_zero];exact q4o ⟨fun h=>h.2,fun h=>⟨this,h⟩⟩
    · rw [ql a];rw [q4g] at a;exact U7 fun h=>a h.1
theorem qol (l : List qg) (x y z : Int) : cntB l x y z = cntR (atB l z) x y:=by
  unfold cntB cntR
  induction l with
  | nil=>rfl
  | cons r l ih=>
    have e : atB (r::l) z = (if covB z r = true then [Jz r] else []) ++ atB l z:=rfl;rw [sumL,ih,e,qly];congr 1;by_cases a : covB z r = true
    · rw [qm a];have:=q29.1 a;simp only [sumL,Int.add_zero];exact q4o ⟨fun h=>⟨h.1,h.2.1⟩,fun h=>⟨h.1,h.2,this⟩⟩
    · rw [ql a];rw [q29] at a;exact U7 fun h=>a h.2.2
theorem CanR.cnt {l : List qk} (h : CanR l) (x y : Int) : cntR l x y = ind (hasR l x y):=by
  rw [qom,qgr (h.cov x),q4o q4n]
theorem CanB.cnt {l : List qg} (h : CanB l) (x y z : Int) : cntB l x y z = ind (hasB l x y z):=by
  rw [qol,(h.at z).cnt,q4o q3j]
def volL (l : List qg) : Int:=sumL volB l
theorem q10b {N : Nat} {l : List qg} (a : ∀ x y z,cntB l x y z = ind (hasB l x y z)) (h : ∀ b∈l,(b.Lo.X≤b.Hi.X∧b.Lo.Y≤b.Hi.Y∧b.Lo.Z≤b.Hi.Z)∧(-(N : Int)≤b.Lo.X∧-(N : Int)≤b.Lo.Y∧-(N : Int)≤b.Lo.Z)∧b.Hi.X≤N∧b.Hi.Y≤N∧b.Hi.Z≤N) :
    volL l = cnt3 N (hasB l):=by
  unfold volL;rw [qzh fun b hb=>q108 (h b hb)];unfold cnt3;rw [qfe];congr 1;funext x;rw [qfe];congr 1;funext y;rw [qfe];congr 1;funext z;exact a x y z
theorem q10a {l : List qg} (a : CanB l) (h : ∀ b∈l,vB b) : volL l = cnt3 1000000 (hasB l):=
  q10b a.cnt fun b hb=>by have:=h b hb;unfold vB at this;omega
end Go.Sh
namespace Go.Sh
open Go Go.Am
theorem qhq {α β γ : Type} (l : List α) (b : l.length≤1000000) (g : γ→α→γ) (fin : γ→β) (f : γ × Int→Option ((γ × Int) ⊕ β))
    (hs : ∀ k (h : k < l.length) (s : γ),f (s,(k : Int)) = some (.inl (g s l[k],((k + 1 : Nat) : Int)))) (hd : ∀ s,f (s,(l.length : Int)) = some (.inr (fin s))) (s : γ) :
    loop f (s,0) = some (fin (l.foldl g s)):=by
  have key:=J1 (f:=f) (fun k=>((l.take k).foldl g s,(k : Int))) l.length (fin (l.foldl g s)) (fun k a=>by
    rw [hs k a,List.take_succ_eq_append_getElem a,List.foldl_append];rfl) (by rw [List.take_length,hd]) (Nat.zero_le _)
  exact key
theorem qfl (x : Int) : w64 x = if 9223372036854775808≤x % 18446744073709551616 then x % 18446744073709551616 - 18446744073709551616 else x % 18446744073709551616:=by
  unfold w64 IntKind.wrap;simp [IntKind.bits,IntKind.signed]
theorem q10f (x y : Int) (h : x % 18446744073709551616 = y % 18446744073709551616) : w64 x = w64 y:=by rw [qfl,qfl,h]
theorem q10g (x : Int) : w64 x % 18446744073709551616 = x % 18446744073709551616:=by rw [qfl];split <;> omega
theorem q10e (a b : Int) : w64 (w64 a + b) = w64 (a + b):=q10f _ _ (by have:=q10g a;omega)
theorem qt7 {x y z : Int} (c : 0≤x∧x≤2000000) (b : 0≤y∧y≤2000000) (a : 0≤z∧z≤2000000) : (0≤x * y∧x * y≤4000000000000)∧0≤x * y * z∧x * y * z≤8000000000000000000:=by
  have d : 0≤x * y:=Int.mul_nonneg c.1 b.1;have g : x * y≤2000000 * 2000000:=Int.mul_le_mul c.2 b.2 b.1 q0;have f : 0≤x * y * z:=Int.mul_nonneg d a.1;have h : x * y * z≤4000000000000 * 2000000:=Int.mul_le_mul q0 a.2 a.1 q0;omega
theorem q10d {b : qg} (h : vB b) : w64 ((w64 ((w64 (b.Hi.X - b.Lo.X)) * (w64 (b.Hi.Y - b.Lo.Y)))) * (w64 (b.Hi.Z - b.Lo.Z))) = volB b:=by
  unfold vB at h;rw [Qe (x:=b.Hi.X - b.Lo.X) q0,Qe (x:=b.Hi.Y - b.Lo.Y) q0,Qe (x:=b.Hi.Z - b.Lo.Z) q0];have:=qt7 (x:=b.Hi.X - b.Lo.X) (y:=b.Hi.Y - b.Lo.Y) (z:=b.Hi.Z - b.Lo.Z) q0 q0 q0;rw [Qe (x:=(b.Hi.X - b.Lo.X) * (b.Hi.Y - b.Lo.Y)) q0,Qe q0];rfl
theorem qhv {α : Type} (f : α→Int) : ∀ (l : List α) (n m : Int),n = w64 m→l.foldl (fun n b=>w64 (n + f b)) n = w64 (m + sumL f l)
  | [],n,m,h=>by simp [sumL,h]
  | b::l,n,m,h=>by
    rw [List.foldl_cons,qhv f l _ (m + f b) (by rw [h,q10e]),sumL,Int.add_assoc]
theorem qhu {α γ : Type} {f g : γ→α→γ} : ∀ {l : List α} {s : γ},(∀ b∈l,∀ s,f s b = g s b)→l.foldl f s = l.foldl g s
  | [],_,_=>rfl
  | b::l,s,h=>by rw [List.foldl_cons,List.foldl_cons,h b qe,qhu fun c a=>h c (by simp [a])]
theorem qok (N : Nat) (P : Int→Int→Int→Prop) : 0≤cnt3 N P∧cnt3 N P≤2 * N * (2 * N * (2 * N * 1)):=by
  constructor
  · exact qfh fun x _ _=>qfh fun y _ _=>qfh fun z _ _=>qij.1
  · rw [← qff (N:=N) (c:=1),← qff,← qff];exact qbz fun x _ _=>qbz fun y _ _=>qbz fun z _ _=>qij.2
theorem q109 {l : List qg} (h : Qt l = 0) : 0≤volL l∧volL l≤8000000000000000000:=by
  obtain ⟨c,b,a⟩:=Yo.1 h;rw [q10a a b];have:=qok 1000000 (hasB l);omega
noncomputable def volume (l : List qg) : Int × Int:=if Qt l≠0 then (0,Qt l) else (volL l,0)
theorem q10c {l : List qg} (h : Qt l = 0) : l.foldl (fun n b=>w64 (n + w64 ((w64 ((w64 (b.Hi.X - b.Lo.X)) * (w64 (b.Hi.Y - b.Lo.Y)))) * (w64 (b.Hi.Z - b.Lo.Z))))) 0 = volL l:=by
  obtain ⟨d,a,c⟩:=Yo.1 h;rw [qhu (g:=fun n b=>w64 (n + volB b)) fun b hb s=>by rw [q10d (a b hb)]];rw [qhv volB l 0 0 (by rw [Qe q0])];have:=q109 h;rw [Qe (by unfold volL at this;omega),Int.zero_add];rfl
theorem qym (l : List qg) : q9a l = some (volume l):=by
  unfold q9a volume;rw [qbp,qn];by_cases h : Qt l = 0
  · rw [ql (by simp [h]),h,show ((0 : Int) != 0) = false from rfl,Q3];have c:=(Yo.1 h).1
    rw [qhq l q0 (fun n b=>w64 (n + w64 ((w64 ((w64 (b.Hi.X - b.Lo.X)) * (w64 (b.Hi.Y - b.Lo.Y)))) * (w64 (b.Hi.Z - b.Lo.Z))))) (fun n=>n) (q6d l) (fun k a s=>by
      simp only [q6d,dlt a,Q2,K5 a,qn,qbq,w64s a q0]) (fun s=>by simp only [q6d,dnl,Q3]) 0,q10c h]
    rfl
  · have : (Qt l != 0) = true:=by simpa using h
    rw [qm h,this,Q2]
theorem qdp {b : qg} {l : List qg} {x y z : Int} : hasB (b::l) x y z↔inB b x y z∨hasB l x y z:=by
  constructor
  · rintro ⟨c,a,h⟩;rcases List.mem_cons.1 a with rfl | a
    · exact .inl h
    · exact .inr ⟨c,a,h⟩
  · rintro (h | ⟨c,a,h⟩)
    · exact ⟨b,qe,h⟩
    · exact ⟨c,by simp [a],h⟩
instance (b : qg) (x y z : Int) : Decidable (inB b x y z):=by unfold inB;infer_instance
instance qox : (l : List qg)→(x y z : Int)→Decidable (hasB l x y z)
  | [],x,y,z=>isFalse (q2k x y z)
  | b::l,x,y,z=>by
    have:=qox l x y z
    exact decidable_of_iff _ qdp.symm
end Go.Sh
namespace Go.Sh
open Go Go.Am
def ltB (b : qg) : Prop:=b.Lo.X < b.Hi.X∧b.Lo.Y < b.Hi.Y∧b.Lo.Z < b.Hi.Z
end Go.Sh
namespace Go.Sh
open Go Go.Am
abbrev V3:=qz × qz × qz
def zeroV : qz:=⟨0,0,0⟩
noncomputable def axT (t : Nat) : V3:=match qpq (t : Int) with
  | some m=>m
  | none=>(zeroV,zeroV,zeroV)
def qft (v : qz) : Prop:=-1≤v.X∧v.X≤1∧-1≤v.Y∧v.Y≤1∧-1≤v.Z∧v.Z≤1
instance (v : qz) : Decidable (qft v):=by unfold qft;infer_instance
def mulV (m : V3) (v : qz) : qz:=⟨v.X * m.1.X + v.Y * m.2.1.X + v.Z * m.2.2.X,v.X * m.1.Y + v.Y * m.2.1.Y + v.Z * m.2.2.Y,v.X * m.1.Z + v.Y * m.2.1.Z + v.Z * m.2.2.Z⟩
def addV (a b : qz) : qz:=⟨a.X + b.X,a.Y + b.Y,a.Z + b.Z⟩
noncomputable def qih (t : Nat) (at_ v : qz) : qz:=addV (mulV (axT t) v) at_
def InV (v : qz) (lo : Int) : Prop:=lo≤v.X∧v.X≤1000000∧lo≤v.Y∧v.Y≤1000000∧lo≤v.Z∧v.Z≤1000000
instance (v : qz) (lo : Int) : Decidable (InV v lo):=by unfold InV;infer_instance
theorem qdc (v : qz) (lo : Int) : q7k v lo = some (decide (InV v lo)):=by
  unfold q7k;by_cases a : min (min v.X v.Y) v.Z ≥ lo
  · by_cases b : max (max v.X v.Y) v.Z≤1000000
    · have : InV v lo:=by unfold InV;omega
      simp only [Q9 a,Q9 b,Q9 this,Q2,qn]
    · have : ¬ InV v lo:=by unfold InV;omega
      simp only [Q9 a,Qh b,Qh this,Q2,qn]
  · have : ¬ InV v lo:=by unfold InV;omega
    simp only [Qh a,Qh this,Q3,qn]
def FOk (f : Kg) : Prop:=f.Turn < 24∧InV f.At (-1000000)
instance (f : Kg) : Decidable (FOk f):=by unfold FOk;infer_instance
def SOk (s : qg2) : Prop:=FOk s.Frame∧InV s.Size 0
instance (s : qg2) : Decidable (SOk s):=by unfold SOk;infer_instance
theorem qof {P Q : Prop} [Decidable P] [Decidable Q] {R : Prop} [Decidable R] (h : R↔P∧Q) : ((cond (decide (¬ P)) (some true) ((some (decide Q)).bind fun a=>some (!a))).bind fun c3=>cond c3 (some (8 : Int)) (some 0)) = some (if R then 0 else 8):=by
  by_cases p : P <;> by_cases q : Q <;> simp [p,q,h]
theorem qhx (f : Kg) : q4k f = some (if FOk f then 0 else 8):=by
  unfold q4k;rw [qdc];have e : decide (f.Turn ≥ 24) = decide (¬ f.Turn < 24):=by rw [decide_eq_decide];omega
  rw [e];exact qof Iff.rfl
theorem qr9 {P : Prop} [Decidable P] {a : Int} (h : a≠0) : ((if P then (0 : Int) else a) != 0) = decide (¬ P):=by
  by_cases p : P <;> simp [p,h]
end Go.Sh
namespace Go.Sh
open Go Go.Am
def rowOk (a b c : Int) : Prop:=(a = 1∧b = 0∧c = 0)∨(a = -1∧b = 0∧c = 0)∨(a = 0∧b = 1∧c = 0)∨(a = 0∧b = -1∧c = 0)∨(a = 0∧b = 0∧c = 1)∨(a = 0∧b = 0∧c = -1)
instance (a b c : Int) : Decidable (rowOk a b c):=by unfold rowOk;infer_instance
def qyx (p q : qz) : qg:={Lo:=({X:=min p.X q.X,Y:=min p.Y q.Y,Z:=min p.Z q.Z} : qz),Hi:=({X:=max p.X q.X,Y:=max p.Y q.Y,Z:=max p.Z q.Z} : qz)}
noncomputable def qk2 (t : Nat) (at_ : qz) (b : qg) : qg:=qyx (qih t at_ b.Lo) (qih t at_ b.Hi)
noncomputable def place (l : List qg) (f : Kg) : List qg × Int:=
  if Qt l≠0 then ([],Qt l) else if ¬ FOk f then ([],8) else if ∀ b∈l,vB (qk2 f.Turn.toNat f.At b) then mkB (l.map (qk2 f.Turn.toNat f.At)) else ([],16)
theorem qt4 {l : List qg} (q : l.length≤400) (P : qg→Prop) [DecidablePred P] (pl : qg→qg) (e : List qg × Int) (f : Int × List qg→Option ((Int × List qg) ⊕ ((List qg) ⊕ (List qg × Int))))
    (d : ∀ k (h : k < l.length) (o : List qg),o.length = k→P l[k]→f ((k : Int),o) = some (.inl (((k + 1 : Nat) : Int),o ++ [pl l[k]])))
    (c : ∀ k (h : k < l.length) (o : List qg),o.length = k→¬ P l[k]→f ((k : Int),o) = some (.inr (.inr e)))
    (hd : ∀ o,f ((l.length : Int),o) = some (.inr (.inl o))) : loop f (0,[]) = some (if ∀ b∈l,P b then .inl (l.map pl) else .inr e):=by
  have main:=qdy (f:=f) (fun k=>((k : Int),(l.take k).map pl)) l.length (fun j=>∀ b,l[j]? = some b→P b) (.inl (l.map pl)) (.inr e)
    (fun k a n=>by
      rw [d k a _ (by simp;omega) (n k (Nat.le_refl _) _ (List.getElem?_eq_getElem a)),List.take_succ_eq_append_getElem a,List.map_append];rfl)
    (fun k a _ hb=>c k a _ (by simp;omega) fun h=>hb fun b hb=>by rw [List.getElem?_eq_getElem a] at hb;cases hb;exact h)
    (fun _=>by rw [List.take_length,hd])
  have m : ((((0 : Nat) : Int),(l.take 0).map pl) : Int × List qg) = (0,[]):=rfl;rw [m] at main;rcases main with ⟨p,g⟩ | ⟨j,n,hb,g⟩
  · rw [g,qm];intro b hb;obtain ⟨i,hi,rfl⟩:=List.getElem_of_mem hb;exact p i hi _ (List.getElem?_eq_getElem hi)
  · rw [g,ql];intro h;exact hb fun b hb=>h b (List.mem_of_getElem? hb)
end Go.Sh
namespace Go.Sh
open Go Go.Am
end Go.Sh
namespace Go.Sh
open Go Go.Am
def grpR : List qk→List (Grp qj)
  | []=>[]
  | r::l=>match grpR l with
    | g::gs=>if g.lo = r.X0∧g.hi = r.X1 then ⟨g.lo,g.hi,ysp r::g.sec⟩::gs else ⟨r.X0,r.X1,[ysp r]⟩::g::gs
    | []=>[⟨r.X0,r.X1,[ysp r]⟩]
def grpB : List qg→List (Grp qk)
  | []=>[]
  | r::l=>match grpB l with
    | g::gs=>if g.lo = r.Lo.Z∧g.hi = r.Hi.Z then ⟨g.lo,g.hi,Jz r::g.sec⟩::gs else ⟨r.Lo.Z,r.Hi.Z,[Jz r]⟩::g::gs
    | []=>[⟨r.Lo.Z,r.Hi.Z,[Jz r]⟩]
theorem qia : ∀ l : List qk,Y2 putR (grpR l) = l
  | []=>rfl
  | r::l=>by
    have a:=qia l
    unfold grpR
    split
    · rename_i g d h
      rw [h] at a
      split
      · rename_i b
        obtain ⟨b,c⟩:=b
        rw [← a]
        simp only [Y2,List.flatMap_cons,List.map_cons,List.cons_append,b,c]
        congr 1
      · rw [← a];rfl
    · rename_i h
      rw [h] at a
      rw [← a];rfl
theorem qi9 : ∀ l : List qg,Y2 putB (grpB l) = l
  | []=>rfl
  | r::l=>by
    have a:=qi9 l
    unfold grpB
    split
    · rename_i g d h
      rw [h] at a
      split
      · rename_i b
        obtain ⟨b,c⟩:=b
        rw [← a]
        simp only [Y2,List.flatMap_cons,List.map_cons,List.cons_append,b,c]
        congr 1
      · rw [← a];rfl
    · rename_i h
      rw [h] at a
      rw [← a];rfl
instance {σ : Type} [DecidableEq σ] (gs : List (Grp σ)) : Decidable (CanG gs):=by unfold CanG;infer_instance
instance (s : List qj) : Decidable (Can s):=by unfold Can;infer_instance
def isR (l : List qk) : Prop:=CanG (grpR l)∧∀ g∈grpR l,Can g.sec
instance (l : List qk) : Decidable (isR l):=by unfold isR;infer_instance
def isB (l : List qg) : Prop:=CanG (grpB l)∧∀ g∈grpB l,isR g.sec
instance (l : List qg) : Decidable (isB l):=by unfold isB;infer_instance
theorem isR.can {l : List qk} (h : isR l) : CanR l:=⟨grpR l,(qia l).symm,h.1,h.2⟩
theorem isB.can {l : List qg} (h : isB l) : CanB l:=⟨grpB l,(qi9 l).symm,h.1,fun g a=>(h.2 g a).can⟩
theorem Jr {l : List qg} (h : l.length≤400∧(∀ b∈l,vB b)∧isB l) : Qt l = 0:=Yo.2 ⟨h.1,h.2.1,h.2.2.can⟩
theorem qee {kind : Int} {p q out : List qg} (h : p.length + q.length≤100000) (a : CanB out) (b : ∀ x y z,Yc kind (hasB p x y z) (hasB q x y z)↔hasB out x y z) : mrgB kind p q = out:=
  qgg (q7s kind h) a fun x y z=>by rw [qak kind h];exact b x y z
theorem qr3 {l out : List qg} (h : l.length≤400∧(∀ b∈l,vB b)∧out.length≤400) (a : isB out) (c : ∀ x y z,hasB l x y z↔hasB out x y z) : mkB l = (out,0):=by
  have e : mrgB 2 l [] = out:=qee (by simp;omega) a.can fun x y z=>by rw [Us,← c];simp [q2k]
  unfold mkB;rw [ql q0,qm h.2.1,e,ql q0]
theorem qod {kind : Int} {p q : List qg} (hp : Qt p = 0) (b : Qt q = 0) (c : (mrgB kind p q).length≤400) : Qt (mrgB kind p q) = 0:=by
  obtain ⟨h,d,j⟩:=Yo.1 hp;obtain ⟨k,f,g⟩:=Yo.1 b;have a:=q7s kind (p:=p) (q:=q) q0;exact Yo.2 ⟨c,a.vB (InB.mrg q0 (qfk d) (qfk f)),a⟩
theorem qqe (kind : Int) {p q : List qg} (hp : Qt p = 0) (a : Qt q = 0) :
    jB kind p q = ([],4)∨(jB kind p q = (mrgB kind p q,0)∧Qt (mrgB kind p q) = 0∧∀ x y z,hasB (mrgB kind p q) x y z↔Yc kind (hasB p x y z) (hasB q x y z)):=by
  have b:=(Yo.1 hp).1;have c:=(Yo.1 a).1;unfold jB;rw [ql (by simp [hp]),ql (by simp [a])];by_cases h : 400 < (mrgB kind p q).length
  · exact .inl (by rw [qm h])
  · exact .inr ⟨by rw [ql h],qod hp a q0,qak kind q0⟩
theorem q7l {kind : Int} {p q out : List qg} (hp : Qt p = 0) (a : Qt q = 0) (b : CanB out) (d : out.length≤400) (c : ∀ x y z,Yc kind (hasB p x y z) (hasB q x y z)↔hasB out x y z) : jB kind p q = (out,0):=by
  have f:=(Yo.1 hp).1;have g:=(Yo.1 a).1;have e:=qee (kind:=kind) (p:=p) (q:=q) q0 b c;unfold jB;rw [ql (by simp [hp]),ql (by simp [a]),e,ql q0]
def bx (x y z u v w : Int) : qg:={Lo:=({X:=x,Y:=y,Z:=z} : qz),Hi:=({X:=u,Y:=v,Z:=w} : qz)}
theorem q77 : Qt [] = 0:=Jr qo
instance (kind : Int) (a b : Prop) [Decidable a] [Decidable b] : Decidable (Yc kind a b):=by unfold Yc;infer_instance
end Go.Sh
namespace Go.Sh
open Go Go.Am
def swp (a c : qz) (b : qg) : qg:={Lo:=({X:=b.Lo.X + min a.X c.X,Y:=b.Lo.Y + min a.Y c.Y,Z:=b.Lo.Z + min a.Z c.Z} : qz),Hi:=({X:=b.Hi.X + max a.X c.X,Y:=b.Hi.Y + max a.Y c.Y,Z:=b.Hi.Z + max a.Z c.Z} : qz)}
end Go.Sh
namespace Go.Sh
open Go Go.Am
end Go.Sh
namespace Go.Sh
open Go Go.Am
def Ax (a c : qz) : Prop:=(a.X = c.X∧a.Y = c.Y)∨(a.X = c.X∧a.Z = c.Z)∨(a.Y = c.Y∧a.Z = c.Z)
instance (a c : qz) : Decidable (Ax a c):=by unfold Ax;infer_instance
def LOk (l : Qo) : Prop:=Ax l.From l.To∧InV l.From (-1000000)∧InV l.To (-1000000)
instance (l : Qo) : Decidable (LOk l):=by unfold LOk;infer_instance
def TOk (t : Qw) : Prop:=(t.Lines.length≤2000∧t.Marks.length≤2000∧FOk t.End.Frame)∧(∀ l∈t.Lines,LOk l)∧∀ m∈t.Marks,FOk m.Frame
instance (t : Qw) : Decidable (TOk t):=by unfold TOk;infer_instance
theorem qzy (v : qz) : q9y v = some (decide (InV v (-1000000))):=qdc v (-1000000)
theorem qzv (l : Qo) : loop (q11 l) (0,0) = some ((if w64 (l.To.X - l.From.X) = 0 then 1 else 0) + (if w64 (l.To.Y - l.From.Y) = 0 then 1 else 0) + (if w64 (l.To.Z - l.From.Z) = 0 then 1 else 0)):=by
  have c : w64 (0 + 1) = 1:=by decide
  have a : w64 (1 + 1) = 2:=by decide
  have b : w64 (2 + 1) = 3:=by decide
  have s : ∀ n k v,idxA 3 [w64 (l.To.X - l.From.X),w64 (l.To.Y - l.From.Y),w64 (l.To.Z - l.From.Z)] k = some v→k < 3→q11 l (n,k) = some (.inl (if v = 0 then w64 (n + 1) else n,w64 (k + 1))):=by
    intro n k v o g;unfold q11;simp only [Q9 g,Q2,o,qn];by_cases h : v = 0
    · have e : (v == 0) = true:=by simpa using h
      rw [e,qm h];rfl
    · have e : (v == 0) = false:=by simpa using h
      rw [e,ql h];rfl
  have j : ∀ n,q11 l (n,0) = some (.inl (if w64 (l.To.X - l.From.X) = 0 then w64 (n + 1) else n,1)):=fun n=>by rw [s n 0 _ rfl q0,c]
  have d : ∀ n,q11 l (n,1) = some (.inl (if w64 (l.To.Y - l.From.Y) = 0 then w64 (n + 1) else n,2)):=fun n=>by rw [s n 1 _ rfl q0,a]
  have f : ∀ n,q11 l (n,2) = some (.inl (if w64 (l.To.Z - l.From.Z) = 0 then w64 (n + 1) else n,3)):=fun n=>by rw [s n 2 _ rfl q0,b]
  have m : ∀ n,q11 l (n,3) = some (.inr n):=fun n=>rfl;rw [Kx (j 0),Kx (d _),Kx (f _),Kh (m _)];split <;> split <;> split <;> decide
theorem qqr (l : Qo) : q6u l = some (!decide (LOk l)):=by
  unfold q6u;simp only [qzv,qzy,qn];by_cases d : InV l.From (-1000000)
  · by_cases g : InV l.To (-1000000)
    · have hb : ∀ {a b : Int},-1000000≤a→a≤1000000→-1000000≤b→b≤1000000→(w64 (a - b) = 0↔b = a):=fun d g k j=>by rw [Qe q0];omega
      have f:=d;have c:=g;unfold InV at f c;simp only [hb c.1 c.2.1 f.1 f.2.1,hb c.2.2.1 c.2.2.2.1 f.2.2.1 f.2.2.2.1,hb c.2.2.2.2.1 c.2.2.2.2.2 f.2.2.2.2.1 f.2.2.2.2.2];simp only [d,g,decide_true,Bool.not_true,Q3,qn];congr 1;rw [Bool.eq_iff_iff];simp only [decide_eq_true_eq,Bool.not_eq_true',decide_eq_false_iff_not,LOk,Ax,d,g,and_true];split <;> split <;> split <;> simp_all
    · have : ¬ LOk l:=fun h=>g h.2.2;simp [d,g,this]
  · have : ¬ LOk l:=fun h=>d h.2.1;simp [d,this]
theorem qr5 (m : Yt) : q6v m = some (!decide (FOk m.Frame)):=by
  unfold q6v;rw [qhx];by_cases h : FOk m.Frame <;> simp [h]
theorem qiz (l : List Qo) (b : l.length≤1000000) (p : Qo→Option Bool) (c : Qo→Bool) (h : ∀ v,p v = some (c v)) : q5d l p = some (l.any c):=by
  unfold q5d qbi
  rcases Uh l c (fun k _=>(k : Int)) () (q5f l p) (fun k a=>by
    simp only [q5f,dlt a,Q2,K5 a,qn,w64s a b,h]
    cases c l[k] <;> simp) (by simp only [q5f,dnl,Q3]) with ⟨h1,h2⟩ | ⟨k,a,hc,_,h2⟩
  · rw [h2];have : l.any c = false:=by rw [List.any_eq_false];exact fun v d=>by rw [h1 v d];simp
    rw [this];rfl
  · rw [h2];have : l.any c = true:=List.any_eq_true.2 ⟨_,Y6 a,hc⟩;simp only [qn];rw [this,Q9 q0]
theorem qqy (l : List Yt) (b : l.length≤1000000) (p : Yt→Option Bool) (c : Yt→Bool) (h : ∀ v,p v = some (c v)) : q89 l p = some (l.any c):=by
  unfold q89 qbj
  rcases Uh l c (fun k _=>(k : Int)) () (q5g l p) (fun k a=>by
    simp only [q5g,dlt a,Q2,K5 a,qn,w64s a b,h]
    cases c l[k] <;> simp) (by simp only [q5g,dnl,Q3]) with ⟨h1,h2⟩ | ⟨k,a,hc,_,h2⟩
  · rw [h2];have : l.any c = false:=by rw [List.any_eq_false];exact fun v d=>by rw [h1 v d];simp
    rw [this];rfl
  · rw [h2];have : l.any c = true:=List.any_eq_true.2 ⟨_,Y6 a,hc⟩;simp only [qn];rw [this,Q9 q0]
theorem qzw (t : Qw) (n : t.Lines.length≤1000000) (g : t.Marks.length≤1000000) : q9x t = some (if TOk t then 0 else 8):=by
  unfold q9x;rw [qiz t.Lines n _ _ qqr,qqy t.Marks g _ _ qr5,qhx];simp only [qn,qr9 (show (8 : Int)≠0 by omega)]
  have j : (t.Lines.any fun l=>!decide (LOk l)) = decide (¬ ∀ l∈t.Lines,LOk l):=by
    rw [Bool.eq_iff_iff];simp
  have k : (t.Marks.any fun m=>!decide (FOk m.Frame)) = decide (¬ ∀ m∈t.Marks,FOk m.Frame):=by
    rw [Bool.eq_iff_iff];simp
  have f : decide (max (t.Lines.length : Int) (t.Marks.length : Int) > 2000) = decide (¬ (t.Lines.length≤2000∧t.Marks.length≤2000)):=by
    rw [decide_eq_decide];omega
  rw [j,k,f];by_cases a : ∀ l∈t.Lines,LOk l
  · by_cases b : ∀ m∈t.Marks,FOk m.Frame
    · by_cases d : FOk t.End.Frame
      · by_cases c : t.Lines.length≤2000∧t.Marks.length≤2000
        · have : TOk t:=⟨⟨c.1,c.2,d⟩,a,b⟩
          rw [Qh (not_not_intro a),Qh (not_not_intro b),Qh (not_not_intro d),Qh (not_not_intro c),qm this];rfl
        · have : ¬ TOk t:=fun h=>c ⟨h.1.1,h.1.2.1⟩;rw [Qh (not_not_intro a),Qh (not_not_intro b),Qh (not_not_intro d),Q9 c,ql this];rfl
      · have : ¬ TOk t:=fun h=>d h.1.2.2;rw [Qh (not_not_intro a),Qh (not_not_intro b),Q9 d,ql this];rfl
    · have : ¬ TOk t:=fun h=>b h.2.2;rw [Qh (not_not_intro a),Q9 b,ql this];rfl
  · have : ¬ TOk t:=fun h=>a h.2.1;rw [Q9 a,ql this];rfl
theorem qmg (t : Qw) (b : t.Lines.length≤1000000) (c : t.Marks.length≤1000000) : ∃ n,q49 t = some (n,if TOk t then 0 else 8):=by
  unfold q49;rw [qzw t b c];simp only [qn];by_cases h : TOk t
  · simp only [qm h,show ((0 : Int) != 0) = false from rfl,Q3]
    have:=qhq t.Lines b (fun n (l : Qo)=>w64 (n + (w64 ((w64 ((max (w64 (l.To.X - l.From.X)) (w64 (0 - (w64 (l.To.X - l.From.X))))) + (max (w64 (l.To.Y - l.From.Y)) (w64 (0 - (w64 (l.To.Y - l.From.Y))))))) + (max (w64 (l.To.Z - l.From.Z)) (w64 (0 - (w64 (l.To.Z - l.From.Z))))))))) (fun x=>x) (q6t t) (fun k a s=>by
      simp only [q6t,q6w,dlt a,Q2,K5 a,qn,w64s a b]) (fun s=>by simp only [q6t,dnl,Q3]) 0
    rw [this];exact ⟨_,rfl⟩
  · simp only [ql h];exact ⟨0,rfl⟩
theorem qnf (a b : Int) : (a != b) = decide (¬ a = b):=by
  by_cases h : a = b <;> simp [h]
noncomputable def badB : List (List qg)→Int
  | []=>0
  | b::r=>if Qt b≠0 then Qt b else badB r
theorem qa8 : ∀ {bs : List (List qg)},(∀ b∈bs,Qt b = 0)→badB bs = 0
  | [],_=>rfl
  | b::r,h=>by rw [badB,ql (by simp [h b qe])];exact qa8 fun c a=>h c (by simp [a])
theorem qg9 : ∀ {bs : List (List qg)},badB bs = 0→∀ b∈bs,Qt b = 0
  | [],_,b,hb=>by cases hb
  | a::r,h,b,hb=>by
    rw [badB] at h
    split at h
    · rename_i c;exact absurd h c
    · rename_i c
      rcases List.mem_cons.1 hb with rfl | hb
      · exact Classical.not_not.1 c
      · exact qg9 h b hb
theorem qg8 : ∀ {bs : List (List qg)} {k : Nat} (b : k < bs.length),Qt bs[k]≠0→(∀ j (c : j < k),Qt (bs[j]'(q0)) = 0)→badB bs = Qt bs[k]
  | a::r,0,b,h,_=>by rw [badB];exact qm h
  | a::r,k + 1,b,h,hb=>by
    rw [badB,ql (by simpa using hb 0 q0)]
    exact qg8 (bs:=r) (by simpa using b) h fun j c=>by simpa using hb (j + 1) q0
theorem qnh {γ : Type} (bs : List (List qg)) (o : bs.length≤1000000) (a : Int→γ) (f : Int→Option (Int ⊕ (Unit ⊕ γ)))
    (hs : ∀ k (h : k < bs.length),f (k : Int) = some (if Qt bs[k]≠0 then .inr (.inr (a (Qt bs[k]))) else .inl ((k + 1 : Nat) : Int))) (hd : f (bs.length : Int) = some (.inr (.inl ()))) :
    loop f 0 = some (if badB bs = 0 then .inl () else .inr (a (badB bs))):=by
  rcases Uh bs (fun b=>decide (Qt b≠0)) (fun k h=>a (Qt bs[k])) () f (fun k h=>by rw [hs k h];simp) hd with ⟨n,d⟩ | ⟨k,l,g,hb,d⟩
  · rw [d,qm (qa8 fun b hb=>by simpa using n b hb)]
  · have c : Qt bs[k]≠0:=by simpa using g
    have:=qg8 l c fun j m=>by simpa using hb j m
    rw [d,ql (by rw [this];exact c),this]
noncomputable def chkS (t : Qw) (bs : List (List qg)) : Int:=
  if ¬ TOk t then 8 else if 20 < bs.length then 4 else if badB bs≠0 then badB bs else if 0 < t.Lines.length∧bs.length = 0 then 6 else if ∃ l∈t.Lines,l.Depth < 0 then 2 else 0
theorem qu8 (t : Qw) (bs : List (List qg)) (o : t.Lines.length≤1000000) (p : t.Marks.length≤1000000) (m : bs.length≤1000000) : q9p t bs = some (chkS t bs):=by
  obtain ⟨n,r⟩:=qmg t o p;unfold q9p chkS;rw [r];simp only [qn];by_cases a : ¬ TOk t
  · rw [ql a,qm a];rfl
  replace a:=Classical.not_not.1 a;rw [qm a,ql (not_not_intro a),show ((0 : Int) != 0) = false from rfl,Q3];by_cases j : 20 < bs.length
  · rw [Q9 (by omega : (bs.length : Int) > 20),Q2,qm j]
  rw [Qh (by omega : ¬ (bs.length : Int) > 20),Q3,ql j]
  rw [qnh bs m (fun e=>e) (q6p bs) (fun k d=>by
    simp only [q6p,dlt d,Q2,K5 d,qn,w64s d m,qbp]
    by_cases h : Qt bs[k] = 0 <;> simp [qnf,h]) (by simp only [q6p,dnl,Q3])]
  by_cases b : badB bs = 0
  · rw [qm b,ql (not_not_intro b)];simp only [qn];rw [qiz t.Lines o (fun q=>q9q q) (fun v=>decide (v.Depth < 0)) (fun v=>rfl)];by_cases g : 0 < t.Lines.length
    · by_cases f : bs.length = 0
      · rw [Q9 (by omega : (t.Lines.length : Int) > 0),f,qm ⟨g,rfl⟩];rfl
      · have e : ((bs.length : Int) == 0) = false:=by simpa using f
        rw [Q9 (by omega : (t.Lines.length : Int) > 0),e,ql (fun h=>f h.2)];simp only [Q2,Q3,qn];by_cases c : ∃ l∈t.Lines,l.Depth < 0
        · rw [qm c,show (t.Lines.any fun v=>decide (v.Depth < 0)) = true by simpa using c];rfl
        · rw [ql c,show (t.Lines.any fun v=>decide (v.Depth < 0)) = false by simpa using c];rfl
    · have e : t.Lines = []:=List.length_eq_zero_iff.1 q0;rw [Qh (by omega : ¬ (t.Lines.length : Int) > 0),ql (fun h=>g h.1),e];simp
  · rw [ql b,qm b];rfl
end Go.Sh
namespace Go.Sh
open Go Go.Am
noncomputable def barS (l : Qo) (b : List qg) : List qg × Int:=if ∀ x∈b,vB (swp l.From l.To x) then mkB (b.map (swp l.From l.To)) else ([],16)
theorem qkz (v : qz) : q9r v = some (decide (InV v (-1000000))):=qdc v (-1000000)
theorem qmn {a c : qz} {b : qg} (hb : vB b) : vB (swp a c b)↔InV (swp a c b).Lo (-1000000)∧InV (swp a c b).Hi (-1000000):=by
  unfold vB at hb;unfold vB InV swp;simp only;omega
theorem qm6 {l : Qo} {b : List qg} (h : LOk l) (m : b.length≤400) (hb : ∀ x∈b,vB x) : q6o l b = some (barS l b):=by
  obtain ⟨_,g,j⟩:=h;unfold InV at g j
  have w : ∀ k (a : k < b.length),({X:=w64 (b[k].Lo.X + (min l.From.X l.To.X)),Y:=w64 (b[k].Lo.Y + (min l.From.Y l.To.Y)),Z:=w64 (b[k].Lo.Z + (min l.From.Z l.To.Z))} : qz) = (swp l.From l.To b[k]).Lo∧({X:=w64 (b[k].Hi.X + (max l.From.X l.To.X)),Y:=w64 (b[k].Hi.Y + (max l.From.Y l.To.Y)),Z:=w64 (b[k].Hi.Z + (max l.From.Z l.To.Z))} : qz) = (swp l.From l.To b[k]).Hi:=by
    intro k a;have n:=hb _ (Y6 a);unfold vB at n;refine ⟨?_,?_⟩ <;> (unfold swp;simp only;rw [Qe q0,Qe q0,Qe q0])
  unfold q6o barS
  rw [qt4 m (fun x=>vB (swp l.From l.To x)) (swp l.From l.To) ([],16) (q48 b l) (fun k a o f c=>by
      obtain ⟨d,p2⟩:=(qmn (hb _ (Y6 a))).1 c;simp only [q48,dlt a,Q2,K5 a,qn,(w k a).1,(w k a).2,qkz,Q9 d,Q9 p2,Bool.not_true,Q3,w64s a q0];rw [Zf (by simp;omega)]
      rfl) (fun k a o f c=>by
      rw [qmn (hb _ (Y6 a))] at c;simp only [q48,dlt a,Q2,K5 a,qn,(w k a).1,(w k a).2,qkz];by_cases d : InV (swp l.From l.To b[k]).Lo (-1000000)
      · have p2 : ¬ InV (swp l.From l.To b[k]).Hi (-1000000):=fun p2=>c ⟨d,p2⟩;rw [Q9 d,Qh p2];rfl
      · rw [Qh d];rfl) (fun o=>by simp only [q48,dnl,Q3])]
  rw [qn];by_cases c : ∀ x∈b,vB (swp l.From l.To x)
  · rw [qm c,qm c];simp only [qyi,qn]
  · rw [ql c,ql c]
def nL (a c : qz) : Nat:=(c.X - a.X).natAbs + (c.Y - a.Y).natAbs + (c.Z - a.Z).natAbs
theorem q106 {p q : qz} : p = q↔p.X = q.X∧p.Y = q.Y∧p.Z = q.Z:=by
  cases p;cases q;simp
end Go.Sh
namespace Go.Sh
open Go Go.Am
section
variable {α β : Type}
noncomputable def fstE (g : α→β × Int) : List α→Int
  | []=>0
  | a::r=>if (g a).2≠0 then (g a).2 else fstE g r
theorem qdm {g : α→β × Int} : ∀ {l : List α},fstE g l = 0↔∀ a∈l,(g a).2 = 0
  | []=>by simp [fstE]
  | a::r=>by
    rw [fstE]
    by_cases h : (g a).2 = 0
    · rw [ql (by simp [h]),qdm];simp [h]
    · rw [qm h];simp [h]
theorem qpt {src : List α} {g : α→β × Int} {f : Int × List β→Option ((Int × List β) ⊕ (List β ⊕ (List β × Int)))}
    (hs : ∀ k (j : k < src.length) (o : List β),o.length = k→f ((k : Int),o) = some (if (g src[k]).2≠0 then .inr (.inr ([],(g src[k]).2)) else .inl (((k + 1 : Nat) : Int),o ++ [(g src[k]).1])))
    (hd : ∀ o,f ((src.length : Int),o) = some (.inr (.inl o))) : loop f (0,[]) = some (if fstE g src = 0 then .inl (src.map fun a=>(g a).1) else .inr ([],fstE g src)):=by
  have key : ∀ (r pre : List α),src = pre ++ r→loop f ((pre.length : Int),pre.map fun a=>(g a).1) = some (if fstE g r = 0 then .inl (src.map fun a=>(g a).1) else .inr ([],fstE g r)):=by
    intro r
    induction r with
    | nil=>
      intro pre h;rw [List.append_nil] at h;subst h;rw [Kh (hd _)];rfl
    | cons a r ih=>
      intro pre h;have j : pre.length < src.length:=by rw [h];simp
      have l : src[pre.length] = a:=by simp [h]
      have b:=hs pre.length j (pre.map fun a=>(g a).1) qe;rw [l] at b;by_cases c : (g a).2 = 0
      · rw [ql (by simp [c])] at b;have d : fstE g (a::r) = fstE g r:=ql (by simp [c]);rw [Kx b,d];have:=ih (pre ++ [a]) (by rw [h];simp);simpa using this
      · rw [qm c] at b;have d : fstE g (a::r) = (g a).2:=qm c;rw [Kh b,d,ql c]
  exact key src [] rfl
end
noncomputable def q26 (bs : List (List qg)) (l : Qo) : List qg:=(idx bs (min l.Depth ((bs.length : Int) - 1))).getD []
noncomputable def barB (bs : List (List qg)) (l : Qo) : List qg × Int:=barS l (q26 bs l)
noncomputable def Kl (t : Qw) (bs : List (List qg)) : List (List qg) × Int:=
  if chkS t bs≠0 then ([],chkS t bs) else if fstE (barB bs) t.Lines = 0 then (t.Lines.map fun l=>(barB bs l).1,0) else ([],fstE (barB bs) t.Lines)
structure J6 (t : Qw) (bs : List (List qg)) : Prop where
  tok : TOk t
  few : bs.length≤20
  brush : ∀ b∈bs,Qt b = 0
  some' : t.Lines≠[]→bs≠[]
  depth : ∀ l∈t.Lines,0≤l.Depth
theorem qd1 {t : Qw} {bs : List (List qg)} : chkS t bs = 0↔J6 t bs:=by
  unfold chkS;constructor
  · intro h;split at h
    · cases h
    rename_i d;split at h
    · cases h
    rename_i j;split at h
    · rename_i a;exact absurd h a
    rename_i a;split at h
    · cases h
    rename_i c;split at h
    · cases h
    rename_i f;refine ⟨Classical.not_not.1 d,q0,qg9 (Classical.not_not.1 a),fun b k=>c ⟨List.length_pos_iff.2 b,by simp [k]⟩,fun l b=>?_⟩;exact Int.not_lt.1 fun g=>f ⟨l,b,g⟩
  · rintro ⟨d,j,a,c,f⟩;rw [ql (not_not_intro d),ql q0,ql (not_not_intro (qa8 a)),ql (fun h=>c (List.length_pos_iff.1 h.1) (List.length_eq_zero_iff.1 h.2)),ql (fun ⟨l,b,g⟩=>by have:=f l b;omega)]
theorem qgf {t : Qw} {bs : List (List qg)} (h : J6 t bs) {l : Qo} (a : l∈t.Lines) : idx bs (min l.Depth (w64 ((bs.length : Int) - 1))) = some (q26 bs l)∧q26 bs l∈bs:=by
  have f:=h.few;have d:=h.depth l a;have c : bs.length≠0:=fun e=>h.some' (List.ne_nil_of_mem a) (List.length_eq_zero_iff.1 e);rw [Qe q0];have b : (min l.Depth ((bs.length : Int) - 1)).toNat < bs.length:=by omega
  have e:=Zz (xs:=bs) (i:=min l.Depth ((bs.length : Int) - 1)) (k:=(min l.Depth ((bs.length : Int) - 1)).toNat) q0 b;unfold q26;rw [e];exact ⟨rfl,Y6 b⟩
theorem qck (t : Qw) (bs : List (List qg)) (l : t.Lines.length≤1000000) (p : t.Marks.length≤1000000) (q : bs.length≤1000000) : Uz t bs = some (Kl t bs):=by
  unfold Uz Kl;rw [qu8 t bs l p q];simp only [qn];by_cases b : chkS t bs = 0
  · have ok:=qd1.1 b;rw [ql (not_not_intro b),b,show ((0 : Int) != 0) = false from rfl,Q3]
    rw [qpt (src:=t.Lines) (g:=barB bs) (f:=q6m t bs) (fun k c o r=>by
      have j:=Y6 c;obtain ⟨m,n⟩:=qgf ok j;obtain ⟨d,h,_⟩:=Yo.1 (ok.brush _ n);simp only [q6m,dlt c,Q2,K5 c,qn,m,qm6 (ok.tok.2.1 _ j) d h,w64s c l];have e : barS t.Lines[k] (q26 bs t.Lines[k]) = barB bs t.Lines[k]:=rfl;rw [e];by_cases a : (barB bs t.Lines[k]).2 = 0
      · rw [ql (by simp [a]),a,show ((0 : Int) != 0) = false from rfl,Q3,Zf (by simp;omega)];rfl
      · rw [qm a,show ((barB bs t.Lines[k]).2 != 0) = true by simpa using a]
        rfl) (fun o=>by simp only [q6m,dnl,Q3])]
    by_cases a : fstE (barB bs) t.Lines = 0
    · rw [qm a,qm a];rfl
    · rw [ql a,ql a];rfl
  · rw [qm b,show (chkS t bs != 0) = true by simpa using b];rfl
structure Small (t : Qw) (bs : List (List qg)) : Prop where
  lines : t.Lines.length≤12
  marks : t.Marks.length≤50
  many : bs.length≤25
  near : ∀ l∈t.Lines,(InV l.From (-2000000)∧InV l.To (-2000000))∧nL l.From l.To≤90
  few : ∀ b∈bs,b.length≤5
end Go.Sh
namespace Go.Sh
open Go Go.Am
theorem qnb {l : Qo} {b : List qg} (h : (barS l b).2 = 0) (k : b.length≤400) : (∀ x∈b,vB (swp l.From l.To x))∧(barS l b).1 = mrgB 2 (b.map (swp l.From l.To)) []∧Qt (barS l b).1 = 0∧∀ x y z,hasB (barS l b).1 x y z↔hasB (b.map (swp l.From l.To)) x y z:=by
  unfold barS at h ⊢;by_cases a : ∀ x∈b,vB (swp l.From l.To x)
  · rw [qm a] at h ⊢;have f : ∀ y∈b.map (swp l.From l.To),vB y:=by intro y j;obtain ⟨x,g,rfl⟩:=List.mem_map.1 j;exact a x g
    unfold mkB at h ⊢;rw [ql (by simp;omega),qm f] at h ⊢;by_cases c : 400 < (mrgB 2 (b.map (swp l.From l.To)) []).length
    · rw [qm c] at h;simp at h
    · rw [ql c];have d:=q7s 2 (p:=b.map (swp l.From l.To)) (q:=[]) (by simp;omega);exact ⟨a,rfl,Yo.2 ⟨by simpa using c,d.vB (InB.mrg (by simp;omega) (qfk f) .nil),d⟩,fun x y z=>qib (by simp;omega) x y z⟩
  · rw [ql a] at h;simp at h
theorem qni {t : Qw} {bs : List (List qg)} (h : J6 t bs) {l : Qo} (a : l∈t.Lines) : Qt (q26 bs l) = 0:=h.brush _ (qgf h a).2
theorem qcl {t : Qw} {bs : List (List qg)} (h : (Kl t bs).2 = 0) : J6 t bs∧(∀ l∈t.Lines,(barB bs l).2 = 0)∧(Kl t bs).1 = t.Lines.map fun l=>(barB bs l).1:=by
  unfold Kl at h ⊢;by_cases a : chkS t bs = 0
  · rw [ql (not_not_intro a)] at h ⊢;by_cases b : fstE (barB bs) t.Lines = 0
    · rw [qm b];exact ⟨qd1.1 a,qdm.1 b,rfl⟩
    · rw [ql b] at h;exact absurd h b
  · rw [qm a] at h;exact absurd h a
theorem qgc {t : Qw} {bs : List (List qg)} : ∀ b∈(Kl t bs).1,Qt b = 0:=by
  by_cases h : (Kl t bs).2 = 0
  · obtain ⟨j,g,f⟩:=qcl h;rw [f];intro b hb;obtain ⟨l,c,rfl⟩:=List.mem_map.1 hb;exact (qnb (g l c) (Yo.1 (qni j c)).1).2.2.1
  · have : (Kl t bs).1 = []:=by
      unfold Kl at h ⊢;by_cases d : chkS t bs = 0
      · rw [ql (not_not_intro d)] at h ⊢;by_cases a : fstE (barB bs) t.Lines = 0
        · rw [qm a] at h;exact absurd rfl h
        · rw [ql a]
      · rw [qm d]
    rw [this];intro b hb;cases hb
def qjh (l : Qo) : Prop:=(InV l.From (-2000000)∧InV l.To (-2000000))∧(max (max (max (max (max (l.From.X - l.To.X) (l.To.X - l.From.X)) (l.From.Y - l.To.Y)) (l.To.Y - l.From.Y)) (l.From.Z - l.To.Z)) (l.To.Z - l.From.Z))≤30
instance (l : Qo) : Decidable (qjh l):=by unfold qjh;infer_instance
def oneT (l : Qo) : Qw:=({Lines:=[l],Marks:=[],End:=({Frame:=({Turn:=0,At:=({X:=0,Y:=0,Z:=0} : qz)} : Kg),Drawn:=0} : Kz)} : Qw)
noncomputable def barT (l : Qo) (b : List qg) : List qg × Int:=if ¬ TOk (oneT l) then ([],8) else if Qt b≠0 then ([],Qt b) else barS l b
theorem qks (l : Qo) (b : List qg) : q1z l b = some (barT l b):=by
  obtain ⟨n,f⟩:=qmg (oneT l) (by simp [oneT]) (by simp [oneT]);unfold q1z barT;rw [show q49 ({Lines:=[l],Marks:=[],End:=({Frame:=({Turn:=0,At:=({X:=0,Y:=0,Z:=0} : qz)} : Kg),Drawn:=0} : Kz)} : Qw) = _ from f];simp only [qn];by_cases a : TOk (oneT l)
  · rw [qm a,ql (not_not_intro a),show ((0 : Int) != 0) = false from rfl,Q3];rw [qbp,qn];by_cases c : Qt b = 0
    · have d : LOk l:=a.2.1 l (by simp [oneT]);obtain ⟨hb,g,_⟩:=Yo.1 c;rw [c,ql qo,show ((0 : Int) != 0) = false from rfl,Q3,qm6 d hb g];rfl
    · rw [qm c,show (Qt b != 0) = true by simpa using c];rfl
  · rw [ql a,qm a];rfl
end Go.Sh
namespace Go.Sh
open Go Go.Am
noncomputable def Y3 : List qg→List (List qg)→List qg × Int
  | o,[]=>(o,0)
  | o,b::r=>if (jB 2 o b).2≠0 then ([],(jB 2 o b).2) else Y3 (jB 2 o b).1 r
theorem qil {p q : List qg} (hp : Qt p = 0) (b : Qt q = 0) : (jB 2 p q = ([],4))∨((jB 2 p q).2 = 0∧Qt (jB 2 p q).1 = 0∧∀ x y z,hasB (jB 2 p q).1 x y z↔hasB p x y z∨hasB q x y z):=by
  rcases qqe 2 hp b with h | ⟨d,c,a⟩
  · exact .inl h
  · rw [d];exact .inr ⟨rfl,c,fun x y z=>by rw [a,Us]⟩
theorem qim : ∀ {l : List (List qg)} {o : List qg},Qt o = 0→(∀ b∈l,Qt b = 0)→Y3 o l = ([],4)∨((Y3 o l).2 = 0∧Qt (Y3 o l).1 = 0∧∀ x y z,hasB (Y3 o l).1 x y z↔hasB o x y z∨∃ b∈l,hasB b x y z)
  | [],o,ho,_=>.inr ⟨rfl,ho,fun x y z=>by simp [Y3]⟩
  | b::r,o,ho,hb=>by
    rcases qil ho (hb b qe) with h | ⟨m,d,k⟩
    · left;unfold Y3;rw [h];rfl
    · have e : Y3 o (b::r) = Y3 (jB 2 o b).1 r:=by rw [Y3,ql (by simp [m])]
      rw [e]
      rcases qim (l:=r) d (fun c a=>hb c (by simp [a])) with g | ⟨n,f,j⟩
      · exact .inl g
      · refine .inr ⟨n,f,fun x y z=>?_⟩
        rw [j,k]
        constructor
        · rintro ((h | h) | ⟨c,a,h⟩)
          · exact .inl h
          · exact .inr ⟨b,qe,h⟩
          · exact .inr ⟨c,by simp [a],h⟩
        · rintro (h | ⟨c,a,h⟩)
          · exact .inl (.inl h)
          · rcases List.mem_cons.1 a with rfl | a
            · exact .inl (.inr h)
            · exact .inr ⟨c,a,h⟩
theorem qqh {src : List (List qg)} (c : ∀ b∈src,Qt b = 0) {f : List qg × Int→Option ((List qg × Int) ⊕ ((List qg) ⊕ (List qg × Int)))}
    (hs : ∀ k (l : k < src.length) (o : List qg),Qt o = 0→f (o,(k : Int)) = some (if (jB 2 o src[k]).2≠0 then .inr (.inr ([],(jB 2 o src[k]).2)) else .inl ((jB 2 o src[k]).1,((k + 1 : Nat) : Int))))
    (hd : ∀ o,f (o,(src.length : Int)) = some (.inr (.inl o))) : loop f ([],0) = some (if (Y3 [] src).2 = 0 then .inl (Y3 [] src).1 else .inr ([],(Y3 [] src).2)):=by
  have key : ∀ (r pre : List (List qg)) (o : List qg),src = pre ++ r→Qt o = 0→loop f (o,(pre.length : Int)) = some (if (Y3 o r).2 = 0 then .inl (Y3 o r).1 else .inr ([],(Y3 o r).2)):=by
    intro r
    induction r with
    | nil=>
      intro pre o h _;rw [List.append_nil] at h;subst h;rw [Kh (hd _)];rfl
    | cons a r ih=>
      intro pre o h j;have l : pre.length < src.length:=by rw [h];simp
      have q : src[pre.length] = a:=by simp [h]
      have d:=hs pre.length l o j;rw [q] at d;have g : Qt a = 0:=c a (by rw [h];simp);rcases qil j g with n | ⟨m,p,_⟩
      · rw [n,qm qo] at d;have e : Y3 o (a::r) = ([],4):=by unfold Y3;rw [n];rfl
        rw [Kh d,e];rfl
      · rw [ql (by simp [m])] at d;have e : Y3 o (a::r) = Y3 (jB 2 o a).1 r:=by rw [Y3,ql (by simp [m])]
        rw [Kx d,e];have:=ih (pre ++ [a]) (jB 2 o a).1 (by rw [h];simp) p;simpa using this
  exact key src [] [] rfl q77
noncomputable def Uy (t : Qw) (bs : List (List qg)) : List qg × Int:=if (Kl t bs).2≠0 then ([],(Kl t bs).2) else Y3 [] (Kl t bs).1
theorem qnc (t : Qw) (bs : List (List qg)) : (Kl t bs).1.length≤t.Lines.length:=by
  by_cases a : (Kl t bs).2 = 0
  · rw [(qcl a).2.2];simp
  · have : (Kl t bs).1 = []:=by
      unfold Kl at a ⊢;split
      · rfl
      · rename_i b;rw [ql b] at a;split at a
        · exact absurd rfl a
        · rename_i c;rw [ql c]
    rw [this];simp
theorem qzp {R : List (List qg) × Int} (c : R.1.length≤1000000) (k : Nat) (b : k < R.1.length) (o : List qg) : q47 R (o,(k : Int)) = some (if (jB 2 o R.1[k]).2≠0 then .inr (.inr ([],(jB 2 o R.1[k]).2)) else .inl ((jB 2 o R.1[k]).1,((k + 1 : Nat) : Int))):=by
  simp only [q47,dlt b,Q2,K5 b,qn,qyk,w64s b c];generalize jB 2 o R.1[k] = q;by_cases a : q.2 = 0
  · rw [ql (not_not_intro a),a];rfl
  · rw [qm a,show (q.2 != 0) = true by simpa using a,Q2]
theorem qm8 (t : Qw) (bs : List (List qg)) (h : t.Lines.length≤1000000) (j : t.Marks.length≤1000000) (m : bs.length≤1000000) : q10 t bs = some (Uy t bs):=by
  unfold q10 Uy;have d:=qnc t bs;have c:=qgc (t:=t) (bs:=bs);rw [qck t bs h j m,qn];generalize Kl t bs = R at d c ⊢;by_cases b : R.2 = 0
  · rw [ql (not_not_intro b),b,show ((0 : Int) != 0) = false from rfl,Q3];rw [qqh c (f:=q47 R) (fun k l o _=>qzp (Nat.le_trans d h) k l o) (fun o=>by simp only [q47,dnl,Q3])];by_cases a : (Y3 [] R.1).2 = 0
    · rw [qm a];simp only [qn];exact congrArg some (Prod.ext rfl a.symm)
    · rw [ql a];rcases qim q77 c with g | ⟨n,_⟩
      · rw [g];rfl
      · exact absurd n a
  · rw [qm b,show (R.2 != 0) = true by simpa using b,Q2]
def q25 (p q : Qo) : Prop:=p.From≠q.From∧p.From≠q.To∧p.To≠q.From∧p.To≠q.To
instance (p q : Qo) : Decidable (q25 p q):=by unfold q25;infer_instance
theorem q107 (p q : qz) : ((p.X == q.X) && ((p.Y == q.Y) && ((p.Z == q.Z) && true))) = decide (p = q):=by
  rw [Bool.eq_iff_iff];simp [q106]
theorem qn4 (p q : Qo) : q9o p q = some (decide (q25 p q)):=by
  unfold q9o q25;simp only [q107];by_cases b : p.From = q.From <;> by_cases c : p.From = q.To <;> by_cases a : p.To = q.From <;> by_cases d : p.To = q.To <;> simp [b,c,a,d]
def qaq (a b : List qg) : Prop:=∃ x y z,hasB a x y z∧hasB b x y z
theorem qll (l : List qg) (b : l.length≤1000000) (p : qg→Option Bool) (c : qg→Bool) (h : ∀ v∈l,p v = some (c v)) : q1r l p = some (l.any c):=by
  unfold q1r q8e
  rcases Uh l c (fun k _=>(k : Int)) () (Uw l p) (fun k a=>by
    simp only [Uw,dlt a,Q2,K5 a,qn,w64s a b,h _ (Y6 a)]
    cases c l[k] <;> simp) (by simp only [Uw,dnl,Q3]) with ⟨h1,h2⟩ | ⟨k,a,hc,_,h2⟩
  · rw [h2];have : l.any c = false:=by rw [List.any_eq_false];exact fun v d=>by rw [h1 v d];simp
    rw [this];rfl
  · rw [h2];have : l.any c = true:=List.any_eq_true.2 ⟨_,Y6 a,hc⟩;simp only [qn];rw [this,Q9 q0]
def ovB (p q : qg) : Prop:=((q.Lo.X < p.Hi.X∧p.Lo.X < q.Hi.X)∧q.Lo.Y < p.Hi.Y∧p.Lo.Y < q.Hi.Y)∧q.Lo.Z < p.Hi.Z∧p.Lo.Z < q.Hi.Z
instance (p q : qg) : Decidable (ovB p q):=by unfold ovB;infer_instance
theorem qsu (p q : qg) : q6q p q = some (decide (ovB p q)):=by
  unfold q6q ovB;by_cases d : q.Lo.X < p.Hi.X <;> by_cases b : p.Lo.X < q.Hi.X <;> by_cases a : q.Lo.Y < p.Hi.Y <;> by_cases c : p.Lo.Y < q.Hi.Y <;> by_cases g : q.Lo.Z < p.Hi.Z <;> by_cases f : p.Lo.Z < q.Hi.Z <;> simp [d,b,a,c,g,f]
theorem qju {p q : qg} (hp : ltB p) (a : ltB q) : ovB p q↔∃ x y z,inB p x y z∧inB q x y z:=by
  obtain ⟨j,p2,p3⟩:=hp;obtain ⟨m,o,g⟩:=a;constructor
  · rintro ⟨⟨⟨s,b⟩,r,f⟩,n,l⟩;exact ⟨max p.Lo.X q.Lo.X,max p.Lo.Y q.Lo.Y,max p.Lo.Z q.Lo.Z,⟨q0,q0,q0⟩,⟨q0,q0,q0⟩⟩
  · rintro ⟨x,y,z,⟨d,h,c⟩,⟨b1,k,t⟩⟩;exact ⟨⟨⟨q0,q0⟩,q0,q0⟩,q0,q0⟩
open Classical in
theorem qr0 {a b : List qg} (n : Qt a = 0) (hb : Qt b = 0) : q9s a b = some (decide (qaq a b)):=by
  obtain ⟨la,m,_⟩:=Yo.1 n;obtain ⟨o,l,_⟩:=Yo.1 hb;unfold q9s
  rw [qll a q0 _ (fun x=>b.any fun y=>decide (ovB y x)) (fun x c=>by
    unfold q9t;rw [qll b q0 _ (fun y=>decide (ovB y x)) (fun y _=>qsu y x)]
    rfl)]
  simp only [qn];congr 1;rw [Bool.eq_iff_iff];simp only [List.any_eq_true,decide_eq_true_eq];constructor
  · rintro ⟨x,c,y,d,h⟩;obtain ⟨i,j,k,g,f⟩:=(qju (l y d).1 (m x c).1).1 h;exact ⟨i,j,k,⟨x,c,f⟩,⟨y,d,g⟩⟩
  · rintro ⟨i,j,k,⟨x,c,f⟩,⟨y,d,g⟩⟩;exact ⟨x,c,y,d,(qju (l y d).1 (m x c).1).2 ⟨i,j,k,g,f⟩⟩
theorem qjc {α β : Type} [DecidableEq α] (z v : β) (k b : α) : ∀ es : List (α × β),Z5 z b (Ub k v es) = if b = k then v else Z5 z b es
  | []=>by simp [Z5,Ub]
  | (a,w)::r=>by
    unfold Ub
    by_cases h : k = a
    · subst h
      rw [qm rfl]
      by_cases c : b = k <;> simp [Z5,c]
    · rw [ql h]
      have d:=qjc z v k b r
      by_cases c : b = a
      · subst c
        simp [Z5,Ne.symm h]
      · simp [Z5,c,d]
section
variable (t : Qw) (L : List (List qg))
def cl (i k : Nat) : Prop:=i < k∧∃ p q a b,t.Lines[i]? = some p∧t.Lines[k]? = some q∧L[i]? = some a∧L[k]? = some b∧q25 p q∧qaq a b
open Classical in
noncomputable def row (i m : Nat) : List (Int × Int):=((List.range m).filter fun k=>decide (cl t L i k)).map fun (k : Nat)=>((i : Int),(k : Int))
noncomputable def pairs (n m : Nat) : List (Int × Int):=(List.range m).flatMap fun i=>row t L i n
end
open Classical in
theorem qex (t : Qw) (L : List (List qg)) (i m : Nat) : row t L i (m + 1) = row t L i m ++ if cl t L i m then [((i : Int),(m : Int))] else []:=by
  unfold row;rw [List.range_succ,List.filter_append,List.map_append];by_cases h : cl t L i m <;> simp [h]
theorem qev (t : Qw) (L : List (List qg)) (i : Nat) : ∀ m,m≤i + 1→row t L i m = []
  | 0,_=>rfl
  | m + 1,h=>by
    rw [qex,qev t L i m q0,ql (fun a=>by have:=a.1;omega)];rfl
theorem qay (t : Qw) (L : List (List qg)) (n m : Nat) : pairs t L n (m + 1) = pairs t L n m ++ row t L m n:=by
  unfold pairs;rw [List.range_succ,List.flatMap_append];simp
theorem qko (t : Qw) (L : List (List qg)) (i m : Nat) : (row t L i m).length≤m:=by
  unfold row;rw [List.length_map];exact Nat.le_trans (List.length_filter_le _ _) qe
theorem qjw (t : Qw) (L : List (List qg)) (n : Nat) : ∀ m,(pairs t L n m).length≤m * n
  | 0=>by simp [pairs]
  | m + 1=>by
    rw [qay,List.length_append,Nat.succ_mul]
    have:=qjw t L n m
    have:=qko t L m n
    omega
section
variable {t : Qw} {bs : List (List qg)}
noncomputable def q3e (t : Qw) (bs : List (List qg)) : List (Int × Int) × Int:=if (Kl t bs).2≠0 then ([],(Kl t bs).2) else (pairs t (Kl t bs).1 t.Lines.length t.Lines.length,0)
open Classical in
theorem qgo (h1 : t.Lines.length≤2000) (h2 : t.Marks.length≤1000000) (h3 : bs.length≤1000000) : q37 t bs = some (q3e t bs):=by
  unfold q37 q3e;rw [qck t bs q0 h2 h3,qn];by_cases y : (Kl t bs).2 = 0
  rotate_left
  · rw [qm y,show ((Kl t bs).2 != 0) = true by simpa using y];rfl
  rw [ql (by simp [y]),y,show ((0 : Int) != 0) = false from rfl,Q3];have r : (Kl t bs).1.length = t.Lines.length:=by rw [(qcl y).2.2];simp
  have l:=qgc (t:=t) (bs:=bs);generalize Kl t bs = R at y r l ⊢
  have found : ∃ es,loop (q6n R t) (0,[]) = some es∧∀ a b : Nat,Z5 false ((a : Int),(b : Int)) es = decide (b < R.1.length∧cl t R.1 a b):=by
    refine J2 (fun k es=>((k : Int),es)) R.1.length (fun k es=>∀ a b : Nat,Z5 false ((a : Int),(b : Int)) es = decide (b < k∧cl t R.1 a b)) (fun es=>∀ a b : Nat,Z5 false ((a : Int),(b : Int)) es = decide (b < R.1.length∧cl t R.1 a b)) (fun k es m hi=>?_) (fun es hi=>⟨es,by simp only [q6n,dnl,Q3],hi⟩) (Nat.zero_le _) (fun a b=>by simp [Z5])
    obtain ⟨aa,z,e2⟩:=J2 (f:=q44 ((k : Int),es) t R) (fun i es=>((i : Int),es)) k (fun i es=>∀ a b : Nat,Z5 false ((a : Int),(b : Int)) es = decide ((b < k∨(b = k∧a < i))∧cl t R.1 a b)) (fun es=>∀ a b : Nat,Z5 false ((a : Int),(b : Int)) es = decide (b < k + 1∧cl t R.1 a b)) (fun i es u hi=>by
      have w : k < t.Lines.length:=by omega
      have v : i < t.Lines.length:=by omega
      left
      have x : cl t R.1 i k↔q25 t.Lines[i] t.Lines[k]∧qaq (R.1[i]'(q0)) R.1[k]:=by
        unfold cl;constructor
        · rintro ⟨_,p,q,a,b,d,c,g3,g4,g5,g6⟩;rw [List.getElem?_eq_getElem v] at d;rw [List.getElem?_eq_getElem w] at c;rw [List.getElem?_eq_getElem q0] at g3;rw [List.getElem?_eq_getElem m] at g4;cases d;cases c;cases g3;cases g4;exact ⟨g5,g6⟩
        · rintro ⟨g5,g6⟩;exact ⟨u,_,_,_,_,List.getElem?_eq_getElem v,List.getElem?_eq_getElem w,List.getElem?_eq_getElem q0,List.getElem?_eq_getElem m,g5,g6⟩
      refine ⟨if cl t R.1 i k then Ub ((i : Int),(k : Int)) true es else es,?_,fun a b=>?_⟩
      · have s : i < R.1.length:=by omega
        simp only [q44,dlt u,Q2,K5 v,K5 w,K5 s,K5 m,qn,qn4,qr0 (l _ (Y6 s)) (l _ (Y6 m)),w64s u (show k≤1000000 by omega)];by_cases d : q25 t.Lines[i] t.Lines[k]
        · by_cases c : qaq R.1[i] R.1[k]
          · rw [qm (x.2 ⟨d,c⟩),Q9 d,Q9 c];rfl
          · rw [ql (fun h=>c (x.1 h).2),Q9 d,Qh c];rfl
        · rw [ql (fun h=>d (x.1 h).1),Qh d];rfl
      · have ha:=hi a b;by_cases n : cl t R.1 i k
        · rw [qm n,qjc,ha];by_cases o : a = i∧b = k
          · obtain ⟨rfl,rfl⟩:=o;rw [qm rfl,Q9 ⟨.inr ⟨rfl,q0⟩,n⟩]
          · rw [ql (fun h=>o (by simp only [Prod.mk.injEq] at h;omega))];rw [decide_eq_decide];constructor
            · rintro ⟨d,c⟩;exact ⟨q0,c⟩
            · rintro ⟨d,c⟩;exact ⟨q0,c⟩
        · rw [ql n,ha,decide_eq_decide];constructor
          · rintro ⟨d,c⟩;exact ⟨q0,c⟩
          · rintro ⟨d,c⟩;refine ⟨?_,c⟩;by_cases o : a = i∧b = k
            · obtain ⟨rfl,rfl⟩:=o;exact absurd c n
            · omega) (fun es hi=>⟨es,by simp only [q44,dnl,Q3],fun a b=>by
        rw [hi,decide_eq_decide];constructor
        · rintro ⟨d,c⟩;exact ⟨q0,c⟩
        · rintro ⟨d,c⟩;have:=c.1
          exact ⟨q0,c⟩⟩) (Nat.zero_le k) (c0:=es) (fun a b=>by
        rw [hi a b,decide_eq_decide];constructor
        · rintro ⟨d,c⟩;exact ⟨.inl d,c⟩
        · rintro ⟨d,c⟩;exact ⟨q0,c⟩)
    refine .inl ⟨aa,?_,e2⟩;have z : loop (q44 ((k : Int),es) t R) (0,es) = some aa:=z;simp only [q6n,dlt m,Q2,z,qn,w64s m (show R.1.length≤1000000 by omega)]
  obtain ⟨es,z,e2⟩:=found;rw [z];simp only [qn];have e3 : ∀ a b : Nat,b < R.1.length→Z5 false ((a : Int),(b : Int)) es = decide (cl t R.1 a b):=fun a b hb=>by rw [e2,decide_eq_decide];exact ⟨fun h=>h.2,fun h=>⟨hb,h⟩⟩
  have ao : R.1.length * R.1.length≤2000 * 2000:=Nat.mul_le_mul q0 q0
  have g:=J1 (f:=q45 R es) (fun i=>((i : Int),pairs t R.1 R.1.length i)) R.1.length (pairs t R.1 R.1.length R.1.length) (fun i hi=>by
    have aj:=qjw t R.1 R.1.length i;have ai : i * R.1.length≤R.1.length * R.1.length:=Nat.mul_le_mul_right _ (Nat.le_of_lt hi)
    have j:=J1 (f:=q46 R ((i : Int),pairs t R.1 R.1.length i) es) (fun k=>((k : Int),pairs t R.1 R.1.length i ++ row t R.1 i k)) R.1.length (pairs t R.1 R.1.length i ++ row t R.1 i R.1.length) (fun k m=>by
      have ah:=qko t R.1 i k;simp only [q46,dlt m,Q2,e3 i k m,w64s m (show R.1.length≤1000000 by omega)];rw [qex];by_cases n : cl t R.1 i k
      · rw [Q9 n,qm n,Q2,Zf (by simp;omega),List.append_assoc];rfl
      · rw [Qh n,ql n,List.append_nil];rfl) (by simp only [q46,dnl,Q3]) (Nat.zero_le _)
    have j : loop (q46 R ((i : Int),pairs t R.1 R.1.length i) es) (0,pairs t R.1 R.1.length i) = some (pairs t R.1 R.1.length i ++ row t R.1 i R.1.length):=by
      have e0 : (((0 : Nat) : Int),pairs t R.1 R.1.length i ++ row t R.1 i 0) = ((0 : Int),pairs t R.1 R.1.length i):=by simp [row]
      rw [← e0];exact j
    simp only [q45,dlt hi,Q2,j,qn,w64s hi (show R.1.length≤1000000 by omega),qay]) (by simp only [q45,dnl,Q3]) (Nat.zero_le _)
  have g : loop (q45 R es) (0,[]) = some (pairs t R.1 R.1.length R.1.length):=g;rw [g,r];rfl
theorem qu5 (p : List (Int × Int)) (b : p.length≤1000000) : q82 p p = some true:=by
  unfold q82;rw [show ((p.length : Int) != (p.length : Int)) = false by simp,Q3]
  rcases Uh p (fun _=>false) (fun k _=>false) () (q4z p p) (fun k a=>by
    simp only [q4z,dlt a,Q2,K5 a,qn,w64s a b,beq_self_eq_true,Bool.and_true,Bool.not_true,Q3]
    rfl) (by simp only [q4z,dnl,Q3]) with ⟨a1,a2⟩ | ⟨k,a,hc,_,a2⟩
  · rw [a2];rfl
  · cases hc
end
end Go.Sh
namespace Go.Sh
open Go Go.Am
def partT (ls : List Qo) : Qw:={Lines:=ls,Marks:=[],End:=({Frame:=({Turn:=0,At:=({X:=0,Y:=0,Z:=0} : qz)} : Kg),Drawn:=0} : Kz)}
theorem qc7 : FOk ({Turn:=0,At:=({X:=0,Y:=0,Z:=0} : qz)} : Kg):=by unfold FOk InV;decide
end Go.Sh
namespace Go.Sh
open Go Go.Am
instance (a c : qz) : Decidable (Ax a c):=by unfold Ax;infer_instance
instance (l : Qo) : Decidable (LOk l):=by unfold LOk;infer_instance
def ln (x y u v d : Int) : Qo:={From:=({X:=x,Y:=y,Z:=0} : qz),To:=({X:=u,Y:=v,Z:=0} : qz),Depth:=d}
def ub : List qg:=[bx 0 0 0 1 1 1]
theorem qiy (x y u v : Int) : Zi x y u v = some (ln x y u v 0):=rfl
theorem qmm : Jw = some ub:=rfl
theorem q4a : Qt ub = 0:=Jr qo
theorem qab {ls : List Qo} {bs : List (List qg)} (a : ls.length≤2000∧bs.length≤20∧bs.length≠0) (c : ∀ l∈ls,LOk l∧0≤l.Depth) (d : ∀ b∈bs,Qt b = 0) : J6 (partT ls) bs:=
  ⟨⟨⟨a.1,by simp [partT],qc7⟩,fun l h=>(c l h).1,fun m f=>by simp [partT] at f⟩,a.2.1,d,fun _ e=>a.2.2 (by rw [e];rfl),fun l h=>(c l h).2⟩
theorem q74 {l : Qo} {b m out : List qg} (e : b.map (swp l.From l.To) = m) (h : m.length≤400∧(∀ x∈m,vB x)∧out.length≤400) (a : isB out) (d : ∀ x y z,hasB m x y z↔hasB out x y z) : barS l b = (out,0):=by
  unfold barS;rw [qm (fun x c=>h.2.1 _ (e ▸ List.mem_map_of_mem c)),e];exact qr3 h a d
theorem q75 {t : Qw} {bs : List (List qg)} {g : Qo→List qg} (h : J6 t bs) (b : ∀ l∈t.Lines,barB bs l = (g l,0)) : Kl t bs = (t.Lines.map g,0):=by
  have e : fstE (barB bs) t.Lines = 0:=qdm.2 fun l a=>by rw [b l a]
  unfold Kl;rw [ql (not_not_intro (qd1.2 h)),qm e];congr 1;exact List.map_congr_left fun l a=>by rw [b l a]
theorem qfi {t : Qw} {bs : List (List qg)} {L : List (List qg)} (h : Kl t bs = (L,0)) : Uy t bs = Y3 [] L:=by
  unfold Uy;rw [h];rfl
theorem q7m {o b q : List qg} {r : List (List qg)} (h : jB 2 o b = (q,0)) : Y3 o (b::r) = Y3 q r:=by
  rw [Y3,h];rfl
theorem qci {l : Qo} {b : List qg} (h : LOk l) (hb : Qt b = 0) : barT l b = barS l b:=by
  have : TOk (oneT l):=⟨⟨by simp [oneT],by simp [oneT],qc7⟩,fun k a=>by simp [oneT] at a;subst a;exact h,fun m c=>by simp [oneT] at c⟩
  unfold barT;rw [ql (not_not_intro this),ql (not_not_intro hb)]
theorem qq0 (b : qg) (x y z : Int) : hasB [b] x y z↔inB b x y z:=by simp [qdp,q2k]
open Classical in
theorem qsv {t : Qw} {L : List (List qg)} (h : cl t L 0 1) : pairs t L 2 2 = [(0,1)]:=by
  have e : pairs t L 2 2 = row t L 0 2 ++ row t L 1 2:=by rw [qay,qay];rfl
  rw [e,qev t L 1 2 q0,qex,qev t L 0 1 q0,qm h];rfl
theorem qn1 : q7p = some true:=by
  have b1 : barT (ln 0 0 3 0 0) ub = ([bx 0 0 0 4 1 1],0):=by
    rw [qci qo q4a];exact q74 (m:=[bx 0 0 0 4 1 1]) rfl qo qo fun x y z=>Iff.rfl
  let g : Qo→List qg:=fun l=>ub.map (swp l.From l.To)
  have c : ∀ ls : List Qo,(∀ l∈ls,q26 [ub] l = ub∧((ub.map (swp l.From l.To)).length≤400∧(∀ x∈ub.map (swp l.From l.To),vB x)∧(ub.map (swp l.From l.To)).length≤400)∧isB (ub.map (swp l.From l.To)))→∀ l∈ls,barB [ub] l = (g l,0):=fun ls h l d=>by
    obtain ⟨s,f,q⟩:=h l d;unfold barB;rw [s];exact q74 (m:=ub.map (swp l.From l.To)) rfl f q fun x y z=>Iff.rfl
  have j : Uy (partT [ln 0 0 1 0 0,ln 1 0 2 0 0,ln 2 0 2 1 0]) [ub] = ([bx 0 0 0 2 1 1,bx 2 0 0 3 2 1],0):=by
    have hb:=q75 (qab (bs:=[ub]) (ls:=[ln 0 0 1 0 0,ln 1 0 2 0 0,ln 2 0 2 1 0]) qo qo (by simp [q4a])) (c [ln 0 0 1 0 0,ln 1 0 2 0 0,ln 2 0 2 1 0] qo);rw [qfi hb];have e : (partT [ln 0 0 1 0 0,ln 1 0 2 0 0,ln 2 0 2 1 0]).Lines.map g = [[bx 0 0 0 2 1 1],[bx 1 0 0 3 1 1],[bx 2 0 0 3 2 1]]:=rfl;have k : jB 2 [] [bx 0 0 0 2 1 1] = ([bx 0 0 0 2 1 1],0):=q7l q77 (Jr qo) (isB.can qo) qo fun x y z=>by rw [Us];simp [q2k]
    have p : jB 2 [bx 0 0 0 2 1 1] [bx 1 0 0 3 1 1] = ([bx 0 0 0 3 1 1],0):=q7l (Jr qo) (Jr qo) (isB.can qo) qo fun x y z=>by
      rw [Us];simp only [qq0,inB,bx];omega
    have n : jB 2 [bx 0 0 0 3 1 1] [bx 2 0 0 3 2 1] = ([bx 0 0 0 2 1 1,bx 2 0 0 3 2 1],0):=q7l (Jr qo) (Jr qo) (isB.can qo) qo fun x y z=>by
      rw [Us];simp only [qdp,q2k,or_false,inB,bx];omega
    rw [e,q7m k,q7m p,q7m n];rfl
  have o : volume [bx 0 0 0 2 1 1,bx 2 0 0 3 2 1] = (4,0):=by unfold volume;rw [ql (by simp [Jr (l:=[bx 0 0 0 2 1 1,bx 2 0 0 3 2 1]) qo])];rfl
  have c1 : q3e (partT [ln 0 0 2 0 0,ln 1 (-1) 1 1 0]) [ub] = ([(0,1)],0):=by
    have hb:=q75 (qab (bs:=[ub]) (ls:=[ln 0 0 2 0 0,ln 1 (-1) 1 1 0]) qo qo (by simp [q4a])) (c [ln 0 0 2 0 0,ln 1 (-1) 1 1 0] qo);have e : (partT [ln 0 0 2 0 0,ln 1 (-1) 1 1 0]).Lines.map g = [[bx 0 0 0 3 1 1],[bx 1 (-1) 0 2 2 1]]:=rfl;rw [e] at hb;unfold q3e;rw [hb]
    have r : cl (partT [ln 0 0 2 0 0,ln 1 (-1) 1 1 0]) [[bx 0 0 0 3 1 1],[bx 1 (-1) 0 2 2 1]] 0 1:=
      ⟨qo,ln 0 0 2 0 0,ln 1 (-1) 1 1 0,_,_,rfl,rfl,rfl,rfl,by unfold q25 ln;simp,1,0,0,qo,qo⟩
    rw [ql qo];exact Prod.ext (qsv r) rfl
  have a : q10 ({Lines:=[ln 0 0 1 0 0,ln 1 0 2 0 0,ln 2 0 2 1 0],Marks:=[],End:=({Frame:=({Turn:=0,At:=({X:=0,Y:=0,Z:=0} : qz)} : Kg),Drawn:=0} : Kz)} : Qw) [ub] = _:=qm8 (partT [ln 0 0 1 0 0,ln 1 0 2 0 0,ln 2 0 2 1 0]) [ub] qo qo qo;have b : q37 ({Lines:=[ln 0 0 2 0 0,ln 1 (-1) 1 1 0],Marks:=[],End:=({Frame:=({Turn:=0,At:=({X:=0,Y:=0,Z:=0} : qz)} : Kg),Drawn:=0} : Kz)} : Qw) [ub] = _:=qgo (t:=partT [ln 0 0 2 0 0,ln 1 (-1) 1 1 0]) (bs:=[ub]) qo qo qo;unfold q7p;simp only [qiy,qmm,qn,qks,b1,a,j,qym,o,b,c1];rw [show ({Lo:=({X:=0,Y:=0,Z:=0} : qz),Hi:=({X:=4,Y:=1,Z:=1} : qz)} : qg) = bx 0 0 0 4 1 1 from rfl,sameBox _ _ qo,qu5 _ qo];simp
structure q9z (t : Qw) (bs : List (List qg)) : Prop where
  small : Small t bs
  tok : TOk t
  some' : 1≤bs.length∧bs.length≤5
  depth : ∀ l∈t.Lines,0≤l.Depth
  near : ∀ l∈t.Lines,InV l.From (-1000)∧max (max l.From.X l.From.Y) l.From.Z≤1000
  brush : ∀ b∈bs,Qt b = 0
theorem q9z.ne {t : Qw} {bs : List (List qg)} (h : q9z t bs) : bs≠[]:=fun e=>by have:=h.some'.1;rw [e] at this;simp at this
theorem q9z.ok {t : Qw} {bs : List (List qg)} (h : q9z t bs) : J6 t bs:=⟨h.tok,by have:=h.some'.2;omega,h.brush,fun _=>h.ne,h.depth⟩
end Go.Sh
