/- Rs2 Rs3 Qb1 Rs4 Qb2 Pf3 Rs5 Rs6 Rs7 Rt1 -/
import Derived.Test.YtiejlbckgihckaaGreatK11
namespace Go.Sh
open Go Go.Am
theorem qz8 (v : Q2) : q6w v = some (decide ((-1000000≤v.X∧-1000000≤v.Y∧-1000000≤v.Z)∧v.X≤1000000∧v.Y≤1000000∧v.Z≤1000000)):=by
  unfold q6w;by_cases a : min (min v.X v.Y) v.Z ≥ -1000000
  · by_cases b : max (max v.X v.Y) v.Z≤1000000
    · rw [Qe a,Qe b,Q1,qm];congr 1;exact (Qe q0).symm
    · rw [Qe a,Qm b,Q1,qm];congr 1;exact (Qm q0).symm
  · rw [Qm a,Q3,qm];congr 1;exact (Qm q0).symm
theorem qlt (b : qg) : q6z b = some (decide (vB b)):=by
  unfold q6z vB;simp only [qz8,qm];by_cases a : b.Lo.X < b.Hi.X
  · by_cases c : b.Lo.Y < b.Hi.Y
    · by_cases f : b.Lo.Z < b.Hi.Z
      · simp only [a,c,f,decide_true,Q1,qm,true_and];by_cases d : (-1000000≤b.Lo.X∧-1000000≤b.Lo.Y∧-1000000≤b.Lo.Z)∧b.Lo.X≤1000000∧b.Lo.Y≤1000000∧b.Lo.Z≤1000000
        · rw [Qe d];simp only [Q1,qm];congr 1;exact decide_eq_decide.2 q0
        · rw [Qm d];simp only [Q3,qm];congr 1;exact (Qm q0).symm
      · simp [a,c,f]
    · simp [a,c]
  · simp [a]
theorem qz7 (l : List qg) (j : l.length≤1000000) : q8e l (fun a=>q34 a) = some (decide (¬ ∀ r∈l,vB r)):=by
  have hs : ∀ (k : Nat) (h : k < l.length),q3r l (fun a=>q34 a) (k : Int) = some (if (fun r=>!decide (vB r)) l[k] = true then .inr (.inr (k : Int)) else .inl ((k + 1 : Nat) : Int)):=by
    intro k h;simp only [q3r,dlt h,Q1,K7 h,qm,w64s h j,q34,qlt];by_cases m : vB l[k] <;> simp [m]
  have hd : q3r l (fun a=>q34 a) (l.length : Int) = some (.inr (.inl ())):=by simp only [q3r,dnl,Q3]
  unfold q8e qbc;rcases q4s l (fun r=>!decide (vB r)) (fun k _=>(k : Int)) () _ hs hd with ⟨g,b⟩ | ⟨k,f,c,_,b⟩
  · rw [b];have : ∀ r∈l,vB r:=fun r d=>by simpa using g r d
    simp [];omega
  · rw [b];have : ¬ ∀ r∈l,vB r:=fun h=>by simp [h _ (Y3 f)] at c
    simp only [qm];rw [Qe this,Qe q0]
theorem qz6 (l : List qg) (j : l.length≤1000000) : q3q l (fun a=>q33 a) = some (decide (¬ ∀ r∈l,vB r)):=by
  have hs : ∀ (k : Nat) (h : k < l.length),q11 l (fun a=>q33 a) (k : Int) = some (if (fun r=>!decide (vB r)) l[k] = true then .inr (.inr (k : Int)) else .inl ((k + 1 : Nat) : Int)):=by
    intro k h;simp only [q11,dlt h,Q1,K7 h,qm,w64s h j,q33,qlt];by_cases m : vB l[k] <;> simp [m]
  have hd : q11 l (fun a=>q33 a) (l.length : Int) = some (.inr (.inl ())):=by simp only [q11,dnl,Q3]
  unfold q3q q8j;rcases q4s l (fun r=>!decide (vB r)) (fun k _=>(k : Int)) () _ hs hd with ⟨g,b⟩ | ⟨k,f,c,_,b⟩
  · rw [b];have : ∀ r∈l,vB r:=fun r d=>by simpa using g r d
    simp [];omega
  · rw [b];have : ¬ ∀ r∈l,vB r:=fun h=>by simp [h _ (Y3 f)] at c
    simp only [qm];rw [Qe this,Qe q0]
theorem qlm (s : Mg qk qg) (a b : Int) (c : List qk) (hl : (s.flat putB).length + c.length≤1000000) :
    q6t (s.flat putB) s.sec (s.done.length : Int) s.hi a b c = some ((addM putB s a b c).sec,((addM putB s a b c).done.length : Int),(addM putB s a b c).hi,(addM putB s a b c).flat putB):=by
  have w : (s.flat putB).length = s.done.length + s.sec.length:=by simp [Mg.flat]
  have d : s.sec.length≤1000000:=by omega
  unfold q6t;rcases q79 putB s a b c with ⟨m,r,z,p⟩ | ⟨m,p⟩
  · have hb : decide ((c.length : Int) > 0) = true:=Qe (by have:=List.length_pos_iff.2 m;omega);have t : (s.hi == a) = true:=by simpa using z
    rw [r] at hb;rw [p,r];simp only [hb,Q1,t,qm,qd3 _ _ d,decide_true]
    have:=qhm (fun v : qg=>({Lo:=v.Lo,Hi:=({X:=v.Hi.X,Y:=v.Hi.Y,Z:=b} : Q2)} : qg)) s.done (s.sec.map (putB s.lo s.hi)) (by simp;omega) (q6u b) (fun k o f x=>by
      have l : (s.done ++ s.sec.map (putB s.lo s.hi)).length = (s.flat putB).length:=rfl
      simp only [q6u,dlt f,Q1,K7 f,qm,w64s f q0,Int.toNat_natCast]) (fun o=>by simp only [q6u,dnl,Q3])
    rw [show s.flat putB = s.done ++ s.sec.map (putB s.lo s.hi) from rfl,this];simp only [qm,Mg.flat,List.map_map];rfl
  · rw [p]
    have y : ((cond (decide ((c.length : Int) > 0)) (some (s.hi == a)) (some false)).bind fun g=>(cond g ((q5s s.sec c).bind fun j=>some j) (some false))) = some false:=by
      by_cases l : c = []
      · subst l;simp
      · have hb : decide ((c.length : Int) > 0) = true:=Qe (by have:=List.length_pos_iff.2 l;omega);simp only [hb,Q1,qm,qd3 _ _ d];by_cases q : s.hi = a
        · have u : s.sec≠c:=fun h=>m ⟨l,h.symm,q⟩;simp [q,u]
        · have : (s.hi == a) = false:=by simpa using q
          simp [this]
    have n:=qj0 c (putB a b) (s.flat putB) (fun o=>(c,((s.flat putB).length : Int),b,o)) (q6v c a b (s.flat putB)) (fun k f o x=>by
      simp only [q6v,dlt f,Q1,K7 f,qm,w64s f q0];rw [Z4 (by simp;omega)]
      rfl) (fun o=>by simp only [q6v,dnl,Q3])
    rw [← Option.bind_assoc,y];simp only [qm,Q3,n];simp [Mg.flat]
theorem qfq (l : List qg) (o : List Int) (g : l.length≤400) (d : o.length≤10000) : loop (q1z l) (0,o) = some (o ++ zsOf l):=
  q78 l q0 (fun r=>[r.Lo.Z,r.Hi.Z]) o (fun o=>o) (q1z l) (fun k a c b=>by
    have f : c.length = o.length + 2 * k:=by
      rw [b,List.length_append];have:=q3a (l.take k);rw [List.length_take,Nat.min_eq_left q0] at this;unfold zsOf at this;omega
    simp only [q1z,dlt a,Q1,K7 a,qm,w64s a q0]
    rw [Z4 (by simp;omega)]
    rfl) (fun o=>by simp only [q1z,dnl,Q3])
theorem q4j (l : List qg) (g : l.length≤400) (x : Int) : loop (q20 l x) (0,[]) = some (atB l x):=by
  have:=q78 l q0 (fun r=>if covB x r = true then [U2 r] else []) [] (fun o=>o) (q20 l x) (fun k a o d=>by
    have f : o.length≤k:=by rw [d,List.nil_append];have:=q4i (l.take k) x;rw [List.length_take,Nat.min_eq_left q0] at this;exact this
    simp only [q20,dlt a,Q1,K7 a,qm,w64s a q0];by_cases b : l[k].Lo.Z≤x
    · by_cases c : x < l[k].Hi.Z
      · simp only [b,c,decide_true,Q1,qm,covB,Bool.and_self,if_true];rw [Z4 (by simp;omega)];rfl
      · simp only [b,c,decide_true,decide_false,Q1,Q3,qm,covB,Bool.and_false,if_false,Bool.false_eq_true,List.append_nil]
    · simp only [b,decide_false,Q3,qm,covB,Bool.false_and,if_false,Bool.false_eq_true,List.append_nil]) (fun o=>by simp only [q20,dnl,Q3])
  rw [List.nil_append] at this;exact this
theorem ql5 {kind : Int} {p q : List qg} {xs : List Int} (ac : Qy (zsOf p ++ zsOf q) = xs) (h : p.length + q.length≤800) (F : Int × List qk × Int × Int × List qg→Option ((Int × List qk × Int × Int × List qg) ⊕ ((List qk × Int × Int × List qg) ⊕ (List qg × Int))))
    (aa : ∀ (a b : Int) (k : Nat) (s : Mg qk qg),(s.flat putB).length + 400≤1000000→(h1 : k + 1 < xs.length)→a = xs[k]'(q0)→b = xs[k + 1]'h1→(secB kind p q a).length≤400→
      F (((k + 1 : Nat) : Int),s.sec,(s.done.length : Int),s.hi,s.flat putB) = some (.inl (((k + 1 + 1 : Nat) : Int),(addM putB s a b (secB kind p q a)).sec,((addM putB s a b (secB kind p q a)).done.length : Int),(addM putB s a b (secB kind p q a)).hi,(addM putB s a b (secB kind p q a)).flat putB)))
    (z : ∀ (a : Int) (k : Nat) (s : Mg qk qg),(h1 : k + 1 < xs.length)→a = xs[k]'(q0)→400 < (secB kind p q a).length→
      F (((k + 1 : Nat) : Int),s.sec,(s.done.length : Int),s.hi,s.flat putB) = some (.inr (.inr ([],4))))
    (w : ∀ (k : Nat) (s : Mg qk qg),xs.length≤k + 1→F (((k + 1 : Nat) : Int),s.sec,(s.done.length : Int),s.hi,s.flat putB) = some (.inr (.inl (s.sec,(s.done.length : Int),s.hi,s.flat putB)))) :
    (∃ a b c,loop F (1,[],0,0,[]) = some (.inl (a,b,c,mrgB kind p q)))∨(400 < (mrgB kind p q).length∧loop F (1,[],0,0,[]) = some (.inr ([],4))):=by
  have aj:=q3a p;have am:=q3a q;obtain ⟨_,ab,d⟩:=q16 (l:=zsOf p ++ zsOf q) (by simp;omega);have d : (Qy (zsOf p ++ zsOf q)).length≤1600:=by simp at d;omega
  have m : ∀ x,(secB kind p q x).length≤(mrgB kind p q).length:=fun x=>qvs kind q0 x;have ad : mrgB kind p q = (K2 putB K0 (Yv (Qy (zsOf p ++ zsOf q)) (secB kind p q))).flat putB:=rfl;rw [ad] at m ⊢;rw [ac] at ab d m ⊢;generalize y : Yv xs (secB kind p q) = steps at m ⊢;have ao : steps.length = xs.length - 1:=by rw [← y];exact qbq _ _
  have r : ∀ k (g : k < steps.length),steps[k] = (xs[k]'(q0),xs[k + 1]'(q0),secB kind p q (xs[k]'(q0))):=fun k g=>by subst y;exact qfb g q0
  have af : ∀ k,k≤steps.length→(∀ j,j < k→∀ t,steps[j]? = some t→t.2.2.length≤400)→((K2 putB K0 (steps.take k)).flat putB).length≤1600 * 400:=fun k g n=>by
    have h1:=qda putB (s0:=K0) (M:=400) (steps:=steps.take k) (fun t u=>by
      obtain ⟨i,hi,rfl⟩:=List.getElem_of_mem u;rw [List.length_take] at hi;rw [List.getElem_take]
      exact n i q0 _ (List.getElem?_eq_getElem q0))
    have v : (steps.take k).length≤1600:=by rw [List.length_take];omega
    have h3 : (K0.flat putB : List qg).length = 0:=rfl;have h4 : (steps.take k).length * 400≤1600 * 400:=Nat.mul_le_mul_right _ v;omega
  have main:=qdv (f:=F) (fun k=>(((k + 1 : Nat) : Int),(K2 putB K0 (steps.take k)).sec,((K2 putB K0 (steps.take k)).done.length : Int),(K2 putB K0 (steps.take k)).hi,(K2 putB K0 (steps.take k)).flat putB))
    steps.length (fun j=>∀ t,steps[j]? = some t→t.2.2.length≤400) (.inl ((K2 putB K0 steps).sec,((K2 putB K0 steps).done.length : Int),(K2 putB K0 steps).hi,(K2 putB K0 steps).flat putB)) (.inr ([],4))
    (fun k g n=>by
      have o : k + 1 < xs.length:=by omega
      have hc:=n k (Nat.le_refl _) _ (List.getElem?_eq_getElem g);have hm:=af k q0 fun j ak=>n j q0;rw [qdb putB g,r k g] at *;simp only at hc
      exact aa _ _ k (K2 putB K0 (steps.take k)) q0 o rfl rfl hc)
    (fun k g n hb=>by
      have o : k + 1 < xs.length:=by omega
      have al : k < xs.length:=by omega
      refine z _ k (K2 putB K0 (steps.take k)) o rfl ?_;refine Nat.lt_of_not_le fun h=>hb fun t u=>?_;rw [List.getElem?_eq_getElem g,r k g] at u
      cases u;exact h)
    (fun _=>by
      rw [List.take_length]
      exact w steps.length _ q0)
  have ag : ((((0 + 1 : Nat) : Int),(K2 putB K0 (steps.take 0)).sec,((K2 putB K0 (steps.take 0)).done.length : Int),(K2 putB K0 (steps.take 0)).hi,(K2 putB K0 (steps.take 0)).flat putB) : Int × List qk × Int × Int × List qg) = (1,[],0,0,[]):=rfl;rw [ag] at main;rcases main with ⟨_,v⟩ | ⟨j,n,hb,v⟩
  · exact .inl ⟨_,_,_,v⟩
  · refine .inr ⟨?_,v⟩;have an : j < xs.length:=by omega
    have h5 : 400 < (secB kind p q xs[j]).length:=by
      refine Nat.lt_of_not_le fun h=>hb fun t u=>?_;rw [List.getElem?_eq_getElem n,r j n] at u;cases u;exact h
    exact Nat.lt_of_lt_of_le h5 (m xs[j])
theorem qkt (l : List qg) (o : l.length≤400) (w : ∀ b∈l,vB b) : q70 l = some (if 400 < (mrgB 2 l []).length then ([],4) else (mrgB 2 l [],0)):=by
  unfold q70;have v:=q3a l;simp only [show idx [l] 0 = some l from rfl,qm,qfq l [] o qc,List.nil_append];rw [qf9 _ q0];simp only [qm];have m : zsOf l = zsOf l ++ zsOf []:=by simp [zsOf]
  obtain ⟨_,y,d⟩:=q16 (l:=zsOf l ++ zsOf []) (by rw [← m];omega);have d : (Qy (zsOf l ++ zsOf [])).length≤800:=by rw [← m] at d ⊢;omega
  have g : ∀ z,q1r (atB l z) = some (if 400 < (secB 2 l [] z).length then ([],4) else (secB 2 l [] z,0)):=fun z=>by
    have:=q4i l z;rw [qkf,mkR,qn q0,ql (qmq w z)];rfl
  rw [m]
  have:=ql5 (kind:=2) (p:=l) (q:=[]) rfl (by simp;omega) (q4d (Qy (zsOf l ++ zsOf [])) l)
    (fun a b k s hs f r hb u=>by
      have h0 : k < (Qy (zsOf l ++ zsOf [])).length:=by omega
      have t : idx (Qy (zsOf l ++ zsOf [])) (w64 (((k + 1 : Nat) : Int) - 1)) = some a:=by rw [Q9 q0,r];exact Jd q0 q0
      have x : idx (Qy (zsOf l ++ zsOf [])) ((k + 1 : Nat) : Int) = some b:=by rw [hb];exact K7 f
      have h:=g a;rw [qn q0] at h;simp only [q4d,dlt f,Q1,t,x,qm,show idx [l] 0 = some l from rfl,q4j l o,h,show ((0 : Int) != 0) = false from rfl,Q3,qlm s a b (secB 2 l [] a) q0]
      rw [w64s f q0])
    (fun a k s f r u=>by
      have t : idx (Qy (zsOf l ++ zsOf [])) (w64 (((k + 1 : Nat) : Int) - 1)) = some a:=by rw [Q9 q0,r];exact Jd q0 q0
      have h:=g a;rw [ql u] at h
      simp only [q4d,dlt f,Q1,t,K7 f,qm,show idx [l] 0 = some l from rfl,q4j l o,h,show ((4 : Int) != 0) = true from rfl])
    (fun k s f=>by
      have : decide (((k + 1 : Nat) : Int) < ((Qy (zsOf l ++ zsOf [])).length : Int)) = false:=Qm q0
      simp only [q4d,this,Q3])
  rcases this with ⟨a,b,c,n⟩ | ⟨j,n⟩
  · rw [n];simp only [qm];by_cases j : 400 < (mrgB 2 l []).length
    · rw [Qe (by omega : ((mrgB 2 l []).length : Int) > 400),ql j];rfl
    · rw [Qm (by omega : ¬ ((mrgB 2 l []).length : Int) > 400),qn j];rfl
  · rw [n,ql j];rfl
theorem qbi (l : List qg) : Uj l = some (mkB l):=by
  unfold Uj mkB;by_cases b : 400 < l.length
  · rw [Qe (by omega : (l.length : Int) > 400),Q1,ql b]
  rw [Qm (by omega : ¬ (l.length : Int) > 400),Q3,qn b,qz7 l q0,qm];by_cases a : ∀ r∈l,vB r
  · rw [Qm (fun h=>h a),Q3,qkt l q0 a,ql a];rfl
  · rw [Qe a,Q1,qn a]
theorem qph (p q : List qg) (a : p.length≤1000000) : qba p q = some (decide (p = q)):=sameBox p q a
theorem q42 (l : List qg) : Jl l = some (K1 l):=by
  unfold Jl K1;by_cases c : 400 < l.length
  · rw [Qe (by omega : (l.length : Int) > 400),Q1,ql c]
  rw [Qm (by omega : ¬ (l.length : Int) > 400),Q3,qn c,qz6 l q0,qm];by_cases a : ∀ r∈l,vB r
  · rw [Qm (fun h=>h a),Q3,qkt l q0 a,ql a,qm];by_cases b : 400 < (mrgB 2 l []).length
    · have d : mrgB 2 l []≠l:=fun h=>by rw [h] at b;exact c b
      rw [ql b,qn d];rfl
    · rw [qn b];simp only [qph (mrgB 2 l []) l q0];by_cases f : mrgB 2 l [] = l <;> simp [f]
  · rw [Qe a,Q1,qn a]
end Go.Sh
namespace Go.Sh
open Go Go.Am
theorem sj1 : qbj = q1z:=rfl
theorem sj2 : qbk = q1z:=rfl
theorem sj4 : qbl = q20:=rfl
theorem sj5 : qbm = q20:=rfl
theorem qcq {p : List qg} (h : K1 p = 0) (z : Int) : Yd (atB p z) = 0:=by
  obtain ⟨c,b,a⟩:=Z6.1 h;have:=q4i p z;exact q7e.2 ⟨q0,qmq b z,a.at z⟩
theorem qap {p : List qg} (h : K1 p = 0) (z : Int) : q1r (atB p z) = some (atB p z,0):=by
  obtain ⟨c,b,a⟩:=q7e.1 (qcq h z);rw [qkf,mkR,qn q0,ql b,qjg q0 a,qn q0]
theorem qum (kind : Int) (g : List qk→List qk→Option (List qk × Int)) (x : ∀ a b,g a b = some (jR kind a b)) (p q : List qg) (hp : K1 p = 0) (j : K1 q = 0) :
    q9g g p q = some (if 400 < (mrgB kind p q).length then ([],4) else (mrgB kind p q,0)):=by
  obtain ⟨t,vp,cp⟩:=Z6.1 hp;obtain ⟨r,vq,cq⟩:=Z6.1 j;unfold q9g;have ab:=q3a p;have aa:=q3a q;simp only [show idx [p,q] 0 = some p from rfl,show idx [p,q] 1 = some q from rfl,qm,sj1,sj2,qfq p [] t qc,List.nil_append,qfq q (zsOf p) r q0];rw [qf9 _ (by simp;omega)];simp only [qm];obtain ⟨_,y,d⟩:=q16 (l:=zsOf p ++ zsOf q) (by simp;omega);have d : (Qy (zsOf p ++ zsOf q)).length≤1600:=by simp at d;omega
  have w : ∀ z,g (atB p z) (atB q z) = some (if 400 < (secB kind p q z).length then ([],4) else (secB kind p q z,0)):=fun z=>by
    rw [x,jR,qn (by simp [qcq hp z]),qn (by simp [qcq j z])];rfl
  have:=ql5 (kind:=kind) (p:=p) (q:=q) rfl q0 (q4c (Qy (zsOf p ++ zsOf q)) p q g)
    (fun a b k s hs f u hb v=>by
      have h0 : k < (Qy (zsOf p ++ zsOf q)).length:=by omega
      have n : idx (Qy (zsOf p ++ zsOf q)) (w64 (((k + 1 : Nat) : Int) - 1)) = some a:=by rw [Q9 q0,u];exact Jd q0 q0
      have i2 : idx (Qy (zsOf p ++ zsOf q)) ((k + 1 : Nat) : Int) = some b:=by rw [hb];exact K7 f
      have h:=w a;rw [qn q0] at h;simp only [q4c,dlt f,Q1,n,i2,qm,show idx [p,q] 0 = some p from rfl,show idx [p,q] 1 = some q from rfl,sj4,sj5,q4j p t,q4j q r,qap hp,qap j,show ((0 : Int) == 0) = true from rfl,h,show ((0 : Int) != 0) = false from rfl,Q3,qlm s a b (secB kind p q a) q0]
      rw [w64s f q0])
    (fun a k s f u v=>by
      have n : idx (Qy (zsOf p ++ zsOf q)) (w64 (((k + 1 : Nat) : Int) - 1)) = some a:=by rw [Q9 q0,u];exact Jd q0 q0
      have h:=w a;rw [ql v] at h
      simp only [q4c,dlt f,Q1,n,K7 f,qm,show idx [p,q] 0 = some p from rfl,show idx [p,q] 1 = some q from rfl,sj4,sj5,q4j p t,q4j q r,qap hp,qap j,show ((0 : Int) == 0) = true from rfl,h,show ((4 : Int) != 0) = true from rfl])
    (fun k s f=>by
      have : decide (((k + 1 : Nat) : Int) < ((Qy (zsOf p ++ zsOf q)).length : Int)) = false:=Qm q0
      simp only [q4c,this,Q3])
  rcases this with ⟨a,b,c,o⟩ | ⟨m,o⟩
  · rw [o];simp only [qm];by_cases m : 400 < (mrgB kind p q).length
    · rw [Qe (by omega : ((mrgB kind p q).length : Int) > 400),ql m];rfl
    · rw [Qm (by omega : ¬ ((mrgB kind p q).length : Int) > 400),qn m];rfl
  · rw [o,ql m];rfl
theorem qim (kind : Int) (g : List qk→List qk→Option (List qk × Int)) (d : ∀ a b,g a b = some (jR kind a b)) (p q : List qg) : q6x p q g = some (jB kind p q):=by
  unfold q6x jB;simp only [q42,qm];by_cases hp : ¬ K1 p = 0
  · rw [ql hp];have : (K1 p != 0) = true:=by simpa using hp
    rw [this,Q1]
  replace hp:=Classical.not_not.1 hp;by_cases c : ¬ K1 q = 0
  · rw [qn (by simp [hp]),ql c,hp];have : (K1 q != 0) = true:=by simpa using c
    rw [this];rfl
  replace c:=Classical.not_not.1 c;rw [qn (by simp [hp]),qn (by simp [c]),qum kind g d p q hp c,hp,c];rfl
theorem qz4 (p q : List qg) : q9f p q = some (jB 2 p q):=by
  unfold q9f;rw [qim 2 _ (fun a b=>qu1 a b)];rfl
theorem qz1 (p q : List qg) : q9d p q = some (jB 1 p q):=by
  unfold q9d;rw [qim 1 _ (fun a b=>qtz a b)];rfl
end Go.Sh
namespace Go.Sh
open Go Go.Am
def sumN : Nat→(Int→Int)→Int
  | 0,_=>0
  | n + 1,f=>sumN n f + f n
theorem qmd {f g : Int→Int} : ∀ {n : Nat},sumN n (fun x=>f x + g x) = sumN n f + sumN n g
  | 0=>rfl
  | n + 1=>by rw [sumN,sumN,sumN,qmd (n:=n)];omega
theorem qmh {f g : Int→Int} : ∀ {n : Nat},sumN n (fun x=>f x - g x) = sumN n f - sumN n g
  | 0=>rfl
  | n + 1=>by rw [sumN,sumN,sumN,qmh (n:=n)];omega
theorem qmg {c : Int} {f : Int→Int} : ∀ {n : Nat},sumN n (fun x=>c * f x) = c * sumN n f
  | 0=>by simp [sumN]
  | n + 1=>by rw [sumN,sumN,qmg (n:=n),Int.mul_add]
theorem qmi : ∀ {n : Nat},sumN n (fun _=>0) = 0
  | 0=>rfl
  | n + 1=>by rw [sumN,qmi (n:=n)];rfl
theorem qmf {f g : Int→Int} : ∀ {n : Nat},(∀ k : Nat,k < n→f k≤g k)→sumN n f≤sumN n g
  | 0,_=>Int.le_refl _
  | n + 1,h=>by have:=qmf (n:=n) fun k a=>h k q0;have:=h n q0;rw [sumN,sumN];omega
noncomputable def ind (p : Prop) : Int:=by classical exact if p then 1 else 0
theorem q51 {p : Prop} (h : p) : ind p = 1:=by unfold ind;simp [h]
theorem Jz {p : Prop} (h : ¬ p) : ind p = 0:=by unfold ind;simp [h]
theorem q2q {p q : Prop} (h : p↔q) : ind p = ind q:=by rw [propext h]
theorem q4z {p q : Prop} : ind (p∧q) = ind p * ind q:=by
  by_cases hp : p <;> by_cases a : q
  · rw [q51 ⟨hp,a⟩,q51 hp,q51 a];rfl
  · rw [Jz (fun h=>a h.2),Jz a];simp
  · rw [Jz (fun h=>hp h.1),Jz hp];simp
  · rw [Jz (fun h=>hp h.1),Jz hp];simp
theorem qqp {p q : Prop} : ind (p∨q) = ind p + ind q - ind (p∧q):=by
  by_cases hp : p <;> by_cases a : q <;> simp [ind,hp,a]
theorem qqo {p : Prop} : ind (¬ p) = 1 - ind p:=by by_cases hp : p <;> simp [ind,hp]
theorem q50 {p : Prop} : 0≤ind p∧ind p≤1:=by by_cases hp : p <;> simp [ind,hp]
theorem qme (a b : Int) : ∀ {n : Nat},sumN n (fun x=>ind (a≤x∧x < b)) = max 0 (min b n - max a 0)
  | 0=>by rw [sumN];omega
  | n + 1=>by
    rw [sumN,qme a b (n:=n)]
    by_cases h : a≤(n : Int)∧(n : Int) < b
    · rw [q51 h];omega
    · rw [Jz h];omega
def sumZ (N : Nat) (f : Int→Int) : Int:=sumN (2 * N) fun k=>f (k - N)
theorem q100 {N : Nat} {f g : Int→Int} : sumZ N (fun x=>f x + g x) = sumZ N f + sumZ N g:=qmd
theorem q101 {N : Nat} {f g : Int→Int} : sumZ N (fun x=>f x - g x) = sumZ N f - sumZ N g:=qmh
theorem q24 {N : Nat} {c : Int} {f : Int→Int} : sumZ N (fun x=>c * f x) = c * sumZ N f:=qmg
theorem qfj {N : Nat} : sumZ N (fun _=>0) = 0:=qmi
theorem qbv {N : Nat} {f g : Int→Int} (h : ∀ x : Int,-(N : Int)≤x→x < N→f x≤g x) : sumZ N f≤sumZ N g:=
  qmf fun k a=>h _ q0 q0
theorem qbu {N : Nat} {a b : Int} (d : -N≤a) (c : a≤b) (f : b≤N) : sumZ N (fun x=>ind (a≤x∧x < b)) = b - a:=by
  unfold sumZ
  have : (fun k : Int=>ind (a≤k - N∧k - N < b)) = fun k=>ind (a + N≤k∧k < b + N):=by
    funext k;exact q2q ⟨fun h=>q0,fun h=>q0⟩
  simp only [this];rw [qme];omega
theorem qfh {N : Nat} {f : Int→Int} (h : ∀ x : Int,-(N : Int)≤x→x < N→0≤f x) : 0≤sumZ N f:=by
  rw [← qfj (N:=N)];exact qbv h
theorem qfg {N : Nat} {c : Int} : sumZ N (fun _=>c) = 2 * N * c:=by
  have : ∀ n : Nat,sumN n (fun _=>c) = n * c:=by
    intro n
    induction n with
    | zero=>simp [sumN]
    | succ n ih=>rw [sumN,ih,Int.natCast_succ,Int.add_mul,Int.one_mul]
  unfold sumZ;rw [this];simp
noncomputable def cnt3 (N : Nat) (P : Int→Int→Int→Prop) : Int:=sumZ N fun x=>sumZ N fun y=>sumZ N fun z=>ind (P x y z)
def sumL {α : Type} (f : α→Int) : List α→Int
  | []=>0
  | a::r=>f a + sumL f r
theorem q9o {α : Type} (f : α→Int) (a b : List α) : sumL f (a ++ b) = sumL f a + sumL f b:=by
  induction a with
  | nil=>simp [sumL]
  | cons x a ih=>rw [List.cons_append,sumL,sumL,ih];omega
theorem q23 {α : Type} {f g : α→Int} {l : List α} (h : ∀ a∈l,f a = g a) : sumL f l = sumL g l:=by
  induction l with
  | nil=>rfl
  | cons a l ih=>rw [sumL,sumL,h a qc,ih fun b hb=>h b (by simp [hb])]
theorem qbs {α : Type} (c : Int) (f : α→Int) (l : List α) : sumL (fun a=>c * f a) l = c * sumL f l:=by
  induction l with
  | nil=>simp [sumL]
  | cons a l ih=>rw [sumL,sumL,ih,Int.mul_add]
theorem qff {α : Type} (f g : α→Int) (l : List α) : sumL (fun a=>f a + g a) l = sumL f l + sumL g l:=by
  induction l with
  | nil=>rfl
  | cons a l ih=>rw [sumL,sumL,sumL,ih];omega
theorem qmb {α : Type} (f g : α→Int) (l : List α) : sumL (fun a=>f a - g a) l = sumL f l - sumL g l:=by
  induction l with
  | nil=>rfl
  | cons a l ih=>rw [sumL,sumL,sumL,ih];omega
theorem qmc {α : Type} (l : List α) : sumL (fun _ : α=>0) l = 0:=by
  induction l with
  | nil=>rfl
  | cons a l ih=>rw [sumL,ih];rfl
theorem qbt {α : Type} {N : Nat} (f : α→Int→Int) (l : List α) : sumL (fun a=>sumZ N (f a)) l = sumZ N fun x=>sumL (fun a=>f a x) l:=by
  induction l with
  | nil=>exact qfj.symm
  | cons a l ih=>
    have : (fun x=>sumL (fun a=>f a x) (a::l)) = fun x=>f a x + (fun x=>sumL (fun a=>f a x) l) x:=rfl;rw [sumL,ih,this,q100]
def inB (b : qg) (x y z : Int) : Prop:=(b.Lo.X≤x∧x < b.Hi.X)∧(b.Lo.Y≤y∧y < b.Hi.Y)∧(b.Lo.Z≤z∧z < b.Hi.Z)
def inR (r : qk) (x y : Int) : Prop:=(r.X0≤x∧x < r.X1)∧(r.Y0≤y∧y < r.Y1)
def inS (t : qi) (x : Int) : Prop:=t.Lo≤x∧x < t.Hi
def volB (b : qg) : Int:=(b.Hi.X - b.Lo.X) * (b.Hi.Y - b.Lo.Y) * (b.Hi.Z - b.Lo.Z)
theorem q10i {N : Nat} {b : qg} (h : (b.Lo.X≤b.Hi.X∧b.Lo.Y≤b.Hi.Y∧b.Lo.Z≤b.Hi.Z)∧(-(N : Int)≤b.Lo.X∧-(N : Int)≤b.Lo.Y∧-(N : Int)≤b.Lo.Z)∧b.Hi.X≤N∧b.Hi.Y≤N∧b.Hi.Z≤N) :
    volB b = cnt3 N (inB b):=by
  obtain ⟨⟨g,c,m⟩,⟨f,a,k⟩,n,j,d⟩:=h;unfold cnt3
  have e : ∀ x y,(sumZ N fun z=>ind (inB b x y z)) = ind (b.Lo.X≤x∧x < b.Hi.X) * (ind (b.Lo.Y≤y∧y < b.Hi.Y) * (b.Hi.Z - b.Lo.Z)):=fun x y=>by
    have : (fun z=>ind (inB b x y z)) = fun z=>ind (b.Lo.X≤x∧x < b.Hi.X) * (ind (b.Lo.Y≤y∧y < b.Hi.Y) * ind (b.Lo.Z≤z∧z < b.Hi.Z)):=by
      funext z;unfold inB;rw [q4z (p:=_∧_) (q:=(_∧_)∧_),q4z (p:=_∧_) (q:=_∧_)]
    rw [this,q24,q24,qbu k m d]
  have l : ∀ x,(sumZ N fun y=>sumZ N fun z=>ind (inB b x y z)) = ind (b.Lo.X≤x∧x < b.Hi.X) * ((b.Hi.Y - b.Lo.Y) * (b.Hi.Z - b.Lo.Z)):=fun x=>by
    have : (fun y=>sumZ N fun z=>ind (inB b x y z)) = fun y=>ind (b.Lo.X≤x∧x < b.Hi.X) * ((b.Hi.Z - b.Lo.Z) * ind (b.Lo.Y≤y∧y < b.Hi.Y)):=by
      funext y;rw [e,Int.mul_comm (b.Hi.Z - b.Lo.Z)]
    rw [this,q24,q24,qbu a c j,Int.mul_comm (b.Hi.Z - b.Lo.Z)]
  have : (fun x=>sumZ N fun y=>sumZ N fun z=>ind (inB b x y z)) = fun x=>((b.Hi.Y - b.Lo.Y) * (b.Hi.Z - b.Lo.Z)) * ind (b.Lo.X≤x∧x < b.Hi.X):=by
    funext x;rw [l,Int.mul_comm]
  rw [this,q24,qbu f g n,volB];simp only [Int.mul_assoc,Int.mul_comm]
noncomputable def cntS (s : List qi) (y : Int) : Int:=sumL (fun t=>ind (inS t y)) s
noncomputable def cntR (l : List qk) (x y : Int) : Int:=sumL (fun t=>ind (inR t x y)) l
noncomputable def cntB (l : List qg) (x y z : Int) : Int:=sumL (fun t=>ind (inB t x y z)) l
theorem qgq : ∀ {s : List qi},Can s→∀ y,cntS s y = ind (has s y)
  | [],_,y=>by rw [Jz (q1m y)];rfl
  | a::s,h,y=>by
    have b:=qgq h.tail y
    unfold cntS at b ⊢
    rw [sumL,b,q2q (Zs (a:=a) (s:=s) (x:=y)),qqp]
    have : ¬ ((a.Lo≤y∧y < a.Hi)∧has s y):=fun ⟨c,h2⟩=>by have:=h.tail_gt h2;omega
    rw [Jz this];unfold inS;omega
theorem qov (l : List qk) (x y : Int) : cntR l x y = cntS (covS l x) y:=by
  unfold cntR cntS
  induction l with
  | nil=>rfl
  | cons r l ih=>
    have e : covS (r::l) x = (if covR x r = true then [ysp r] else []) ++ covS l x:=rfl;rw [sumL,ih,e,q9o];congr 1;by_cases a : covR x r = true
    · rw [ql a];have:=q4o.1 a;simp only [sumL,Int.add_zero];exact q2q ⟨fun h=>h.2,fun h=>⟨this,h⟩⟩
    · rw [qn a];rw [q4o] at a;exact Jz fun h=>a h.1
theorem qou (l : List qg) (x y z : Int) : cntB l x y z = cntR (atB l z) x y:=by
  unfold cntB cntR
  induction l with
  | nil=>rfl
  | cons r l ih=>
    have e : atB (r::l) z = (if covB z r = true then [U2 r] else []) ++ atB l z:=rfl;rw [sumL,ih,e,q9o];congr 1;by_cases a : covB z r = true
    · rw [ql a];have:=q2e.1 a;simp only [sumL,Int.add_zero];exact q2q ⟨fun h=>⟨h.1,h.2.1⟩,fun h=>⟨h.1,h.2,this⟩⟩
    · rw [qn a];rw [q2e] at a;exact Jz fun h=>a h.2.2
theorem CanR.cnt {l : List qk} (h : CanR l) (x y : Int) : cntR l x y = ind (hasR l x y):=by
  rw [qov,qgq (h.cov x),q2q q2p]
theorem CanB.cnt {l : List qg} (h : CanB l) (x y z : Int) : cntB l x y z = ind (hasB l x y z):=by
  rw [qou,(h.at z).cnt,q2q q1l]
def volL (l : List qg) : Int:=sumL volB l
theorem qmt {N : Nat} {l : List qg} (a : ∀ x y z,cntB l x y z = ind (hasB l x y z)) (h : ∀ b∈l,(b.Lo.X≤b.Hi.X∧b.Lo.Y≤b.Hi.Y∧b.Lo.Z≤b.Hi.Z)∧(-(N : Int)≤b.Lo.X∧-(N : Int)≤b.Lo.Y∧-(N : Int)≤b.Lo.Z)∧b.Hi.X≤N∧b.Hi.Y≤N∧b.Hi.Z≤N) :
    volL l = cnt3 N (hasB l):=by
  unfold volL;rw [q23 fun b hb=>q10i (h b hb)];unfold cnt3;rw [qbt];congr 1;funext x;rw [qbt];congr 1;funext y;rw [qbt];congr 1;funext z;exact a x y z
theorem q10k {l : List qg} (a : CanB l) (h : ∀ b∈l,vB b) : volL l = cnt3 1000000 (hasB l):=
  qmt a.cnt fun b hb=>by have:=h b hb;unfold vB at this;omega
end Go.Sh
namespace Go.Sh
open Go Go.Am
theorem qht {α β γ : Type} (l : List α) (_ : l.length≤1000000) (g : γ→α→γ) (fin : γ→β) (f : γ × Int→Option ((γ × Int) ⊕ β))
    (hs : ∀ k (h : k < l.length) (s : γ),f (s,(k : Int)) = some (.inl (g s l[k],((k + 1 : Nat) : Int)))) (hd : ∀ s,f (s,(l.length : Int)) = some (.inr (fin s))) (s : γ) :
    loop f (s,0) = some (fin (l.foldl g s)):=by
  have key:=J1 (f:=f) (fun k=>((l.take k).foldl g s,(k : Int))) l.length (fin (l.foldl g s)) (fun k a=>by
    rw [hs k a,List.take_succ_eq_append_getElem a,List.foldl_append];rfl) (by rw [List.take_length,hd]) (Nat.zero_le _)
  exact key
theorem qfk (x : Int) : w64 x = if 9223372036854775808≤x % 18446744073709551616 then x % 18446744073709551616 - 18446744073709551616 else x % 18446744073709551616:=by
  unfold w64 IntKind.wrap;simp [IntKind.bits,IntKind.signed]
theorem qmv (x y : Int) (h : x % 18446744073709551616 = y % 18446744073709551616) : w64 x = w64 y:=by rw [qfk,qfk,h]
theorem qmw (x : Int) : w64 x % 18446744073709551616 = x % 18446744073709551616:=by rw [qfk];split <;> omega
theorem qmu (a b : Int) : w64 (w64 a + b) = w64 (a + b):=qmv _ _ (by have:=qmw a;omega)
theorem q10o (a b : Int) : w64 (a - w64 b) = w64 (a - b):=qmv _ _ (by have:=qmw b;omega)
theorem qau {x y z : Int} (c : 0≤x∧x≤2000000) (a : 0≤y∧y≤2000000) (b : 0≤z∧z≤2000000) : (0≤x * y∧x * y≤4000000000000)∧0≤x * y * z∧x * y * z≤8000000000000000000:=by
  have d : 0≤x * y:=Int.mul_nonneg c.1 a.1;have f : x * y≤2000000 * 2000000:=Int.mul_le_mul c.2 a.2 a.1 q0;have h : 0≤x * y * z:=Int.mul_nonneg d b.1;have g : x * y * z≤4000000000000 * 2000000:=Int.mul_le_mul q0 b.2 b.1 q0;omega
theorem q10m {b : qg} (h : vB b) : w64 ((w64 ((w64 (b.Hi.X - b.Lo.X)) * (w64 (b.Hi.Y - b.Lo.Y)))) * (w64 (b.Hi.Z - b.Lo.Z))) = volB b:=by
  unfold vB at h;rw [Q9 (x:=b.Hi.X - b.Lo.X) q0,Q9 (x:=b.Hi.Y - b.Lo.Y) q0,Q9 (x:=b.Hi.Z - b.Lo.Z) q0];have:=qau (x:=b.Hi.X - b.Lo.X) (y:=b.Hi.Y - b.Lo.Y) (z:=b.Hi.Z - b.Lo.Z) q0 q0 q0;rw [Q9 (x:=(b.Hi.X - b.Lo.X) * (b.Hi.Y - b.Lo.Y)) q0,Q9 q0];rfl
theorem qdc {α : Type} (f : α→Int) : ∀ (l : List α) (n m : Int),n = w64 m→l.foldl (fun n b=>w64 (n + f b)) n = w64 (m + sumL f l)
  | [],n,m,h=>by simp [sumL,h]
  | b::l,n,m,h=>by
    rw [List.foldl_cons,qdc f l _ (m + f b) (by rw [h,qmu]),sumL,Int.add_assoc]
theorem qhx {α γ : Type} {f g : γ→α→γ} : ∀ {l : List α} {s : γ},(∀ b∈l,∀ s,f s b = g s b)→l.foldl f s = l.foldl g s
  | [],_,_=>rfl
  | b::l,s,h=>by rw [List.foldl_cons,List.foldl_cons,h b qc,qhx fun c a=>h c (by simp [a])]
theorem qgp (N : Nat) (P : Int→Int→Int→Prop) : 0≤cnt3 N P∧cnt3 N P≤2 * N * (2 * N * (2 * N * 1)):=by
  constructor
  · exact qfh fun x _ _=>qfh fun y _ _=>qfh fun z _ _=>q50.1
  · rw [← qfg (N:=N) (c:=1),← qfg,← qfg];exact qbv fun x _ _=>qbv fun y _ _=>qbv fun z _ _=>q50.2
theorem q10j {l : List qg} (h : K1 l = 0) : 0≤volL l∧volL l≤8000000000000000000:=by
  obtain ⟨c,b,a⟩:=Z6.1 h;rw [q10k a b];have:=qgp 1000000 (hasB l);omega
noncomputable def volume (l : List qg) : Int × Int:=if K1 l≠0 then (0,K1 l) else (volL l,0)
theorem q10l {l : List qg} (h : K1 l = 0) : l.foldl (fun n b=>w64 (n + w64 ((w64 ((w64 (b.Hi.X - b.Lo.X)) * (w64 (b.Hi.Y - b.Lo.Y)))) * (w64 (b.Hi.Z - b.Lo.Z))))) 0 = volL l:=by
  obtain ⟨c,a,d⟩:=Z6.1 h;rw [qhx (g:=fun n b=>w64 (n + volB b)) fun b hb s=>by rw [q10m (a b hb)]];rw [qdc volB l 0 0 (by rw [Q9 q0])];have:=q10j h;rw [Q9 (by unfold volL at this;omega),Int.zero_add];rfl
theorem qlk (l : List qg) : q6r l = some (volume l):=by
  unfold q6r volume;rw [q42,qm];by_cases h : K1 l = 0
  · rw [qn (by simp [h]),h,show ((0 : Int) != 0) = false from rfl,Q3];have c:=(Z6.1 h).1
    rw [qht l q0 (fun n b=>w64 (n + w64 ((w64 ((w64 (b.Hi.X - b.Lo.X)) * (w64 (b.Hi.Y - b.Lo.Y)))) * (w64 (b.Hi.Z - b.Lo.Z))))) (fun n=>n) (q6s l) (fun k a s=>by
      simp only [q6s,dlt a,Q1,K7 a,qm,q6y,w64s a q0]) (fun s=>by simp only [q6s,dnl,Q3]) 0,q10l h]
    rfl
  · have : (K1 l != 0) = true:=by simpa using h
    rw [ql h,this,Q1]
theorem qag {b : qg} {l : List qg} {x y z : Int} : hasB (b::l) x y z↔inB b x y z∨hasB l x y z:=by
  constructor
  · rintro ⟨c,a,h⟩;rcases List.mem_cons.1 a with rfl | a
    · exact .inl h
    · exact .inr ⟨c,a,h⟩
  · rintro (h | ⟨c,a,h⟩)
    · exact ⟨b,qc,h⟩
    · exact ⟨c,by simp [a],h⟩
instance (b : qg) (x y z : Int) : Decidable (inB b x y z):=by unfold inB;infer_instance
instance qp8 : (l : List qg)→(x y z : Int)→Decidable (hasB l x y z)
  | [],x,y,z=>isFalse (q1k x y z)
  | b::l,x,y,z=>by
    have:=qp8 l x y z
    exact decidable_of_iff _ qag.symm
theorem qyv (b : qg) (v : Q2) : q43 b v = some (decide (inB b v.X v.Y v.Z)):=by
  unfold q43 inB;by_cases f : b.Lo.X≤v.X <;> by_cases c : v.X < b.Hi.X <;> by_cases h : b.Lo.Y≤v.Y <;> by_cases d : v.Y < b.Hi.Y <;> by_cases a : b.Lo.Z≤v.Z <;> by_cases g : v.Z < b.Hi.Z <;> simp [f,c,h,d,a,g]
theorem qyx (l : List qg) (v : Q2) (d : l.length≤1000000) : q6p l v = some (decide (hasB l v.X v.Y v.Z)):=by
  unfold q6p q3q q8j
  rcases q4s l (fun b=>decide (inB b v.X v.Y v.Z)) (fun k _=>(k : Int)) () (q11 l (fun c=>q43 c v)) (fun k a=>by
    simp only [q11,dlt a,Q1,K7 a,qm,qyv,w64s a d]
    by_cases f : inB l[k] v.X v.Y v.Z <;> simp [f]) (by simp only [q11,dnl,Q3]) with ⟨h1,h2⟩ | ⟨k,a,hc,_,h2⟩
  · rw [h2];simp only [qm];congr 1;rw [show decide ((-1 : Int) ≥ 0) = false from rfl];refine (Qm ?_).symm;rintro ⟨b,hb,h⟩;have:=h1 b hb;simp at this;exact this h
  · rw [h2];simp only [qm];congr 1;rw [Qe (by omega : (k : Int) ≥ 0)];refine (Qe ?_).symm;exact ⟨l[k],Y3 a,of_decide_eq_true hc⟩
end Go.Sh
namespace Go.Sh
open Go Go.Am
def J2 {α : Type} (f : α→α→Int) (l : List α) : Nat→Int
  | 0=>0
  | n + 1=>J2 f l n + (match l[n]? with
    | some b=>sumL (fun c=>f b c) (l.take n)
    | none=>0)
theorem qjy {α : Type} (f : α→α→Int) (hs : ∀ a b,f a b = f b a) (l : List α) : ∀ n,n≤l.length→
    sumL (fun b=>sumL (fun c=>f b c) (l.take n)) (l.take n) = sumL (fun b=>f b b) (l.take n) + 2 * J2 f l n
  | 0,_=>by simp [sumL,J2]
  | n + 1,h=>by
    have d:=qjy f hs l n q0
    rw [List.take_succ_eq_append_getElem q0]
    simp only [q9o,sumL,Int.add_zero,J2,List.getElem?_eq_getElem (show n < l.length by omega),qff]
    have : sumL (fun b=>f b l[n]) (l.take n) = sumL (fun c=>f l[n] c) (l.take n):=q23 fun b _=>hs b _
    rw [this]
    omega
theorem qma {α : Type} (f g : α→α→Int) {l : List α} (hp : l.Pairwise fun a b=>f a b = g a b∧f b a = g b a) : ∀ n,n≤l.length→
    sumL (fun b=>sumL (fun c=>f b c - g b c) (l.take n)) (l.take n) = sumL (fun b=>f b b - g b b) (l.take n)
  | 0,_=>by simp [sumL]
  | n + 1,h=>by
    have j:=qma f g hp n q0
    have k:=List.pairwise_iff_getElem.1 hp
    rw [List.take_succ_eq_append_getElem q0]
    simp only [q9o,sumL,Int.add_zero,qff,j]
    have d : ∀ b∈l.take n,f b l[n] = g b l[n]∧f l[n] b = g l[n] b:=fun b hb=>by
      obtain ⟨i,hi,rfl⟩:=List.getElem_of_mem hb
      rw [List.length_take] at hi
      rw [List.getElem_take]
      exact k i n q0 q0 q0
    have m : sumL (fun b=>f b l[n] - g b l[n]) (l.take n) = 0:=(q23 (g:=fun _=>0) fun b hb=>by have:=d b hb;omega).trans (qmc _)
    have o : sumL (fun c=>f l[n] c - g l[n] c) (l.take n) = 0:=(q23 (g:=fun _=>0) fun b hb=>by have:=d b hb;omega).trans (qmc _)
    omega
theorem qik {a b c : Prop} : ind (a∧b∧c) = ind a * (ind b * ind c):=by rw [q4z,q4z]
def ov (a0 a1 b0 b1 : Int) : Int:=max 0 (min a1 b1 - max a0 b0)
theorem qfi {N : Nat} {b a c b1 : Int} (f : -N≤b) (d : a≤N) : sumZ N (fun x=>ind (b≤x∧x < a) * ind (c≤x∧x < b1)) = ov b a c b1:=by
  have : (fun x : Int=>ind (b≤x∧x < a) * ind (c≤x∧x < b1)) = fun x=>ind (max b c≤x∧x < min a b1):=by
    funext x;rw [← q4z];exact q2q ⟨fun h=>q0,fun h=>q0⟩
  rw [this];unfold ov;by_cases h : max b c≤min a b1
  · by_cases hb : c≤a∧b≤b1
    · rw [qbu q0 h q0];omega
    · omega
  · have : (fun x : Int=>ind (max b c≤x∧x < min a b1)) = fun _=>0:=by
      funext x;exact Jz q0
    rw [this,qfj];omega
theorem qow {N : Nat} {b : qg} {d a g j c f : Int} (h : (-(N : Int)≤b.Lo.X∧-(N : Int)≤b.Lo.Y∧-(N : Int)≤b.Lo.Z)∧b.Hi.X≤N∧b.Hi.Y≤N∧b.Hi.Z≤N) :
    (sumZ N fun x=>sumZ N fun y=>sumZ N fun z=>ind (inB b x y z) * ind ((d≤x∧x < a)∧(g≤y∧y < j)∧(c≤z∧z < f))) = ov b.Lo.X b.Hi.X d a * (ov b.Lo.Y b.Hi.Y g j * ov b.Lo.Z b.Hi.Z c f):=by
  obtain ⟨⟨q,p,m⟩,o,l,k⟩:=h
  have e : ∀ x y,(sumZ N fun z=>ind (inB b x y z) * ind ((d≤x∧x < a)∧(g≤y∧y < j)∧(c≤z∧z < f))) = (ind (b.Lo.X≤x∧x < b.Hi.X) * ind (d≤x∧x < a)) * ((ind (b.Lo.Y≤y∧y < b.Hi.Y) * ind (g≤y∧y < j)) * ov b.Lo.Z b.Hi.Z c f):=fun x y=>by
    have : (fun z=>ind (inB b x y z) * ind ((d≤x∧x < a)∧(g≤y∧y < j)∧(c≤z∧z < f))) = fun z=>(ind (b.Lo.X≤x∧x < b.Hi.X) * ind (d≤x∧x < a)) * ((ind (b.Lo.Y≤y∧y < b.Hi.Y) * ind (g≤y∧y < j)) * (ind (b.Lo.Z≤z∧z < b.Hi.Z) * ind (c≤z∧z < f))):=by
      funext z;unfold inB;rw [qik,qik];simp only [Int.mul_assoc,Int.mul_left_comm,Int.mul_comm]
    rw [this,q24,q24,qfi m k]
  have n : ∀ x,(sumZ N fun y=>sumZ N fun z=>ind (inB b x y z) * ind ((d≤x∧x < a)∧(g≤y∧y < j)∧(c≤z∧z < f))) = (ov b.Lo.Y b.Hi.Y g j * ov b.Lo.Z b.Hi.Z c f) * (ind (b.Lo.X≤x∧x < b.Hi.X) * ind (d≤x∧x < a)):=fun x=>by
    have : (fun y=>sumZ N fun z=>ind (inB b x y z) * ind ((d≤x∧x < a)∧(g≤y∧y < j)∧(c≤z∧z < f))) = fun y=>((ind (b.Lo.X≤x∧x < b.Hi.X) * ind (d≤x∧x < a)) * ov b.Lo.Z b.Hi.Z c f) * (ind (b.Lo.Y≤y∧y < b.Hi.Y) * ind (g≤y∧y < j)):=by
      funext y;rw [e];simp only [Int.mul_assoc,Int.mul_left_comm,Int.mul_comm]
    rw [this,q24,qfi p l];simp only [Int.mul_assoc,Int.mul_left_comm,Int.mul_comm]
  simp only [n];rw [q24,qfi q o,Int.mul_comm]
def Uk (b c : qg) : Int:=
  ov b.Lo.X b.Hi.X (c.Lo.X - 1) (c.Hi.X - 1) * (ov b.Lo.Y b.Hi.Y c.Lo.Y c.Hi.Y * ov b.Lo.Z b.Hi.Z c.Lo.Z c.Hi.Z) + ov b.Lo.X b.Hi.X (c.Lo.X + 1) (c.Hi.X + 1) * (ov b.Lo.Y b.Hi.Y c.Lo.Y c.Hi.Y * ov b.Lo.Z b.Hi.Z c.Lo.Z c.Hi.Z) +
  (ov b.Lo.X b.Hi.X c.Lo.X c.Hi.X * (ov b.Lo.Y b.Hi.Y (c.Lo.Y - 1) (c.Hi.Y - 1) * ov b.Lo.Z b.Hi.Z c.Lo.Z c.Hi.Z) + ov b.Lo.X b.Hi.X c.Lo.X c.Hi.X * (ov b.Lo.Y b.Hi.Y (c.Lo.Y + 1) (c.Hi.Y + 1) * ov b.Lo.Z b.Hi.Z c.Lo.Z c.Hi.Z)) +
  (ov b.Lo.X b.Hi.X c.Lo.X c.Hi.X * (ov b.Lo.Y b.Hi.Y c.Lo.Y c.Hi.Y * ov b.Lo.Z b.Hi.Z (c.Lo.Z - 1) (c.Hi.Z - 1)) + ov b.Lo.X b.Hi.X c.Lo.X c.Hi.X * (ov b.Lo.Y b.Hi.Y c.Lo.Y c.Hi.Y * ov b.Lo.Z b.Hi.Z (c.Lo.Z + 1) (c.Hi.Z + 1)))
def Kp (a b : qg) : Int:=
  let x:=min a.Hi.X b.Hi.X - max a.Lo.X b.Lo.X
  let y:=min a.Hi.Y b.Hi.Y - max a.Lo.Y b.Lo.Y
  let z:=min a.Hi.Z b.Hi.Z - max a.Lo.Z b.Lo.Z
  if x = 0∧y > 0∧z > 0 then y * z else if x > 0∧y = 0∧z > 0 then x * z else if x > 0∧y > 0∧z = 0 then x * y else 0
theorem qgy (a b : qg) : Kp a b = Kp b a:=by
  unfold Kp;simp only [Int.min_comm b.Hi.X,Int.max_comm b.Lo.X,Int.min_comm b.Hi.Y,Int.max_comm b.Lo.Y,Int.min_comm b.Hi.Z,Int.max_comm b.Lo.Z]
def ltB (b : qg) : Prop:=b.Lo.X < b.Hi.X∧b.Lo.Y < b.Hi.Y∧b.Lo.Z < b.Hi.Z
theorem ov3 {a c b b1 : Int} (d : a < c) (hb : b < b1) :
    (min c b1 - max a b < 0∧ov a c b b1 = 0∧ov a c (b - 1) (b1 - 1) + ov a c (b + 1) (b1 + 1) = 0∧ov a c (b - 1) (b1 - 1) = 0∧ov a c (b + 1) (b1 + 1) = 0)∨
    (min c b1 - max a b = 0∧ov a c b b1 = 0∧ov a c (b - 1) (b1 - 1) + ov a c (b + 1) (b1 + 1) = 1)∨
    (min c b1 - max a b > 0∧ov a c b b1 = min c b1 - max a b):=by
  unfold ov;omega
theorem qm6 {b c : qg} (hb : ltB b) (m : ltB c) (hd : ∀ x y z,¬ (inB b x y z∧inB c x y z)) : Uk b c = Kp b c:=by
  obtain ⟨b1,k,l⟩:=hb;obtain ⟨c1,c2,c3⟩:=m
  have a : ¬ (min b.Hi.X c.Hi.X - max b.Lo.X c.Lo.X > 0∧min b.Hi.Y c.Hi.Y - max b.Lo.Y c.Lo.Y > 0∧min b.Hi.Z c.Hi.Z - max b.Lo.Z c.Lo.Z > 0):=fun ⟨o,h2,h3⟩=>
    hd (max b.Lo.X c.Lo.X) (max b.Lo.Y c.Lo.Y) (max b.Lo.Z c.Lo.Z) (by unfold inB;omega)
  have key : ∀ {X0 X1 Y0 Y1 Z0 d x y z : Int},((x < 0∧X0 = 0∧X1 = 0)∨(x = 0∧X0 = 0∧X1 = 1)∨(x > 0∧X0 = x))→((y < 0∧Y0 = 0∧Y1 = 0)∨(y = 0∧Y0 = 0∧Y1 = 1)∨(y > 0∧Y0 = y))→
      ((z < 0∧Z0 = 0∧d = 0)∨(z = 0∧Z0 = 0∧d = 1)∨(z > 0∧Z0 = z))→¬ (x > 0∧y > 0∧z > 0)→
      X1 * (Y0 * Z0) + X0 * (Y1 * Z0) + X0 * (Y0 * d) = if x = 0∧y > 0∧z > 0 then y * z else if x > 0∧y = 0∧z > 0 then x * z else if x > 0∧y > 0∧z = 0 then x * y else 0:=by
    intro X0 X1 Y0 Y1 Z0 d x y z g j f n
    rcases g with ⟨g,rfl,rfl⟩ | ⟨rfl,rfl,rfl⟩ | ⟨g,rfl⟩ <;> rcases j with ⟨j,rfl,rfl⟩ | ⟨rfl,rfl,rfl⟩ | ⟨j,rfl⟩ <;> rcases f with ⟨f,rfl,rfl⟩ | ⟨rfl,rfl,rfl⟩ | ⟨f,rfl⟩ <;>
      first
        | (exfalso;omega)
        | (simp only [Int.zero_mul,Int.mul_zero,Int.add_zero,Int.zero_add,Int.one_mul,Int.mul_one];clear hd a b1 k l c1 c2 c3;(repeat' split) <;> first | omega | (simp_all;done) | (simp_all;omega))
  have e : Uk b c = (ov b.Lo.X b.Hi.X (c.Lo.X - 1) (c.Hi.X - 1) + ov b.Lo.X b.Hi.X (c.Lo.X + 1) (c.Hi.X + 1)) * (ov b.Lo.Y b.Hi.Y c.Lo.Y c.Hi.Y * ov b.Lo.Z b.Hi.Z c.Lo.Z c.Hi.Z) +
      ov b.Lo.X b.Hi.X c.Lo.X c.Hi.X * ((ov b.Lo.Y b.Hi.Y (c.Lo.Y - 1) (c.Hi.Y - 1) + ov b.Lo.Y b.Hi.Y (c.Lo.Y + 1) (c.Hi.Y + 1)) * ov b.Lo.Z b.Hi.Z c.Lo.Z c.Hi.Z) +
      ov b.Lo.X b.Hi.X c.Lo.X c.Hi.X * (ov b.Lo.Y b.Hi.Y c.Lo.Y c.Hi.Y * (ov b.Lo.Z b.Hi.Z (c.Lo.Z - 1) (c.Hi.Z - 1) + ov b.Lo.Z b.Hi.Z (c.Lo.Z + 1) (c.Hi.Z + 1))):=by
    unfold Uk;simp only [Int.add_mul,Int.mul_add]
  rw [e];unfold Kp;refine key ?_ ?_ ?_ a
  · rcases ov3 b1 c1 with h | h | h
    · exact .inl ⟨h.1,h.2.1,h.2.2.1⟩
    · exact .inr (.inl h)
    · exact .inr (.inr h)
  · rcases ov3 k c2 with h | h | h
    · exact .inl ⟨h.1,h.2.1,h.2.2.1⟩
    · exact .inr (.inl h)
    · exact .inr (.inr h)
  · rcases ov3 l c3 with h | h | h
    · exact .inl ⟨h.1,h.2.1,h.2.2.1⟩
    · exact .inr (.inl h)
    · exact .inr (.inr h)
def Zn (b : qg) : Int:=2 * ((b.Hi.X - b.Lo.X) * (b.Hi.Y - b.Lo.Y) + (b.Hi.X - b.Lo.X) * (b.Hi.Z - b.Lo.Z) + (b.Hi.Y - b.Lo.Y) * (b.Hi.Z - b.Lo.Z))
theorem qzo {b : qg} (hb : ltB b) : 6 * volB b - Uk b b = Zn b:=by
  obtain ⟨b1,d,l⟩:=hb;have o : ∀ {a c : Int},a < c→ov a c a c = c - a∧ov a c (a - 1) (c - 1) = c - a - 1∧ov a c (a + 1) (c + 1) = c - a - 1:=fun h=>by unfold ov;omega
  obtain ⟨f,p,q⟩:=o b1;obtain ⟨k,r,g⟩:=o d;obtain ⟨m,n,j⟩:=o l;unfold Uk volB Zn;rw [f,p,q,k,r,g,m,n,j];generalize b.Hi.X - b.Lo.X = x;generalize b.Hi.Y - b.Lo.Y = y;generalize b.Hi.Z - b.Lo.Z = z;simp only [Int.sub_mul,Int.mul_sub,Int.one_mul,Int.mul_one,Int.mul_assoc];omega
noncomputable def q9p (N : Nat) (P : Int→Int→Int→Prop) : Int:=
  (cnt3 N (fun x y z=>P x y z∧¬ P (x + 1) y z) + cnt3 N (fun x y z=>P x y z∧¬ P (x - 1) y z)) +
  (cnt3 N (fun x y z=>P x y z∧¬ P x (y + 1) z) + cnt3 N (fun x y z=>P x y z∧¬ P x (y - 1) z)) +
  (cnt3 N (fun x y z=>P x y z∧¬ P x y (z + 1)) + cnt3 N (fun x y z=>P x y z∧¬ P x y (z - 1)))
def q25 (l : List qg) : Int:=sumL Zn l - 2 * J2 Kp l l.length
def vBN (N : Nat) (b : qg) : Prop:=ltB b∧(-(N : Int)≤b.Lo.X∧-(N : Int)≤b.Lo.Y∧-(N : Int)≤b.Lo.Z)∧b.Hi.X≤N∧b.Hi.Y≤N∧b.Hi.Z≤N
theorem q4n {N : Nat} {l : List qg} (g : ∀ x y z,cntB l x y z = ind (hasB l x y z)) (h : ∀ b∈l,vBN N b) (d f a : Int) :
    cnt3 N (fun x y z=>hasB l x y z∧¬ hasB l (x + d) (y + f) (z + a)) = volL l - sumL (fun b=>sumL (fun c=>ov b.Lo.X b.Hi.X (c.Lo.X - d) (c.Hi.X - d) * (ov b.Lo.Y b.Hi.Y (c.Lo.Y - f) (c.Hi.Y - f) * ov b.Lo.Z b.Hi.Z (c.Lo.Z - a) (c.Hi.Z - a))) l) l:=by
  have o : ∀ x y z,ind (hasB l x y z∧¬ hasB l (x + d) (y + f) (z + a)) = ind (hasB l x y z) - sumL (fun b=>sumL (fun c=>ind (inB b x y z) * ind ((c.Lo.X - d≤x∧x < c.Hi.X - d)∧(c.Lo.Y - f≤y∧y < c.Hi.Y - f)∧(c.Lo.Z - a≤z∧z < c.Hi.Z - a))) l) l:=fun x y z=>by
    have j : sumL (fun b=>sumL (fun c=>ind (inB b x y z) * ind ((c.Lo.X - d≤x∧x < c.Hi.X - d)∧(c.Lo.Y - f≤y∧y < c.Hi.Y - f)∧(c.Lo.Z - a≤z∧z < c.Hi.Z - a))) l) l = ind (hasB l x y z) * ind (hasB l (x + d) (y + f) (z + a)):=by
      rw [← g,← g]
      have m : ∀ b : qg,sumL (fun c : qg=>ind (inB b x y z) * ind ((c.Lo.X - d≤x∧x < c.Hi.X - d)∧(c.Lo.Y - f≤y∧y < c.Hi.Y - f)∧(c.Lo.Z - a≤z∧z < c.Hi.Z - a))) l = cntB l (x + d) (y + f) (z + a) * ind (inB b x y z):=fun b=>by
        rw [qbs,Int.mul_comm];unfold cntB;rw [q23 fun c _=>q2q (q:=inB c (x + d) (y + f) (z + a)) ⟨fun h=>by unfold inB;omega,fun h=>by unfold inB at h;omega⟩]
      simp only [m];rw [qbs,Int.mul_comm];rfl
    rw [j,q4z,qqo,Int.mul_sub,Int.mul_one]
  unfold cnt3;simp only [o,q101];have k : (sumZ N fun x=>sumZ N fun y=>sumZ N fun z=>ind (hasB l x y z)) = volL l:=(qmt g fun b hb=>by have:=h b hb;unfold vBN ltB at this;omega).symm;rw [k];congr 1;simp only [← qbt];refine q23 fun b hb=>q23 fun c n=>?_;have:=h b hb;unfold vBN at this;exact qow this.2
theorem qox {l : List qg} (f : ∀ x y z,cntB l x y z = ind (hasB l x y z)) : l.Pairwise fun b c=>∀ x y z,¬ (inB b x y z∧inB c x y z):=by
  have key : ∀ l : List qg,(∀ x y z,cntB l x y z≤1)→l.Pairwise fun b c=>∀ x y z,¬ (inB b x y z∧inB c x y z):=by
    intro l
    induction l with
    | nil=>intro _;exact .nil
    | cons b l ih=>
      intro h
      have n : ∀ (l : List qg) x y z,0≤cntB l x y z:=fun l x y z=>by
        unfold cntB;induction l with
        | nil=>exact Int.le_refl _
        | cons c l ih=>have:=(q50 (p:=inB c x y z)).1;rw [sumL];omega
      have g : ∀ x y z,ind (inB b x y z) + cntB l x y z≤1:=h;refine List.pairwise_cons.2 ⟨fun c f x y z ⟨j,h2⟩=>?_,ih fun x y z=>by have:=g x y z;have:=(q50 (p:=inB b x y z)).1;omega⟩;have m:=g x y z;rw [q51 j] at m
      have k : ∀ l : List qg,c∈l→1≤cntB l x y z:=by
        intro l
        induction l with
        | nil=>intro h;cases h
        | cons d l ih2=>
          intro a;have e : cntB (d::l) x y z = ind (inB d x y z) + cntB l x y z:=rfl;rcases List.mem_cons.1 a with rfl | a
          · have:=n l x y z;rw [e,q51 h2];omega
          · have:=ih2 a;have:=(q50 (p:=inB d x y z)).1;rw [e];omega
      have:=k l f;omega
  exact key l fun x y z=>by rw [f];exact q50.2
theorem q104 {N : Nat} {l : List qg} (d : ∀ x y z,cntB l x y z = ind (hasB l x y z)) (h : ∀ b∈l,vBN N b) : q25 l = q9p N (hasB l):=by
  have hd:=qox d;have m:=q4n d h 1 0 0;have k:=q4n d h (-1) 0 0;have p:=q4n d h 0 1 0;have o:=q4n d h 0 (-1) 0;have j:=q4n d h 0 0 1;have r:=q4n d h 0 0 (-1);simp only [Int.add_zero,Int.sub_zero,Int.sub_neg,← Int.sub_eq_add_neg] at m k p o j r;unfold q9p;rw [m,k,p,o,j,r]
  have q : sumL (fun b=>sumL (fun c=>Uk b c) l) l = 6 * volL l - sumL Zn l + 2 * J2 Kp l l.length:=by
    have g:=qma Uk Kp (l:=l) (List.Pairwise.imp_of_mem (fun {b c} hb f a=>⟨qm6 (h b hb).1 (h c f).1 a,qm6 (h c f).1 (h b hb).1 fun x y z n=>a x y z ⟨n.2,n.1⟩⟩) hd) l.length (Nat.le_refl _);have s:=qjy Kp qgy l l.length (Nat.le_refl _);rw [List.take_length] at g s;simp only [qmb] at g;have t : sumL (fun b=>6 * volB b - Uk b b) l = sumL Zn l:=q23 fun b hb=>qzo (h b hb).1;rw [qmb,qbs] at t;unfold volL;have u : sumL (fun b=>sumL (fun c=>Uk b c) l) l - sumL (fun b=>sumL (fun c=>Kp b c) l) l = sumL (fun b=>Uk b b) l - sumL (fun b=>Kp b b) l:=g;omega
  unfold q25;unfold Uk at q;simp only [qff] at q;omega
theorem q10g {b : qg} (h : vB b) : vBN 1000000 b:=by unfold vB at h;unfold vBN ltB;omega
theorem q103 {l : List qg} (a : CanB l) (h : ∀ b∈l,vB b) : q25 l = q9p 1000000 (hasB l):=q104 a.cnt fun b hb=>q10g (h b hb)
end Go.Sh
namespace Go.Sh
open Go Go.Am
abbrev V3:=Q2 × Q2 × Q2
def zeroV : Q2:=⟨0,0,0⟩
noncomputable def axT (t : Nat) : V3:=match q7n (t : Int) with
  | some m=>m
  | none=>(zeroV,zeroV,zeroV)
theorem qq1 : ∀ t : Nat,t < 24→q7n (t : Int) = some (axT t):=by decide +kernel
def Zw (v : Q2) : Prop:=-1≤v.X∧v.X≤1∧-1≤v.Y∧v.Y≤1∧-1≤v.Z∧v.Z≤1
instance (v : Q2) : Decidable (Zw v):=by unfold Zw;infer_instance
theorem qni : ∀ t : Nat,t < 24→Zw (axT t).1∧Zw (axT t).2.1∧Zw (axT t).2.2:=by decide +kernel
theorem qnj : axT 0 = (⟨1,0,0⟩,⟨0,1,0⟩,⟨0,0,1⟩):=by decide +kernel
def mulV (m : V3) (v : Q2) : Q2:=⟨v.X * m.1.X + v.Y * m.2.1.X + v.Z * m.2.2.X,v.X * m.1.Y + v.Y * m.2.1.Y + v.Z * m.2.2.Y,v.X * m.1.Z + v.Y * m.2.1.Z + v.Z * m.2.2.Z⟩
def addV (a b : Q2) : Q2:=⟨a.X + b.X,a.Y + b.Y,a.Z + b.Z⟩
def J7 (v : Q2) (n : Int) : Prop:=-n≤v.X∧v.X≤n∧-n≤v.Y∧v.Y≤n∧-n≤v.Z∧v.Z≤n
theorem qro {a b : Int} {n : Int} (c : -n≤a∧a≤n) (hb : -1≤b∧b≤1) : -n≤a * b∧a * b≤n:=by
  have : b = -1∨b = 0∨b = 1:=by omega
  rcases this with rfl | rfl | rfl <;> simp <;> omega
theorem qjh {m : V3} {v : Q2} {n : Int} (d : Zw m.1∧Zw m.2.1∧Zw m.2.2) (c : J7 v n) :
    (∀ a∈[v.X * m.1.X,v.Y * m.2.1.X,v.Z * m.2.2.X,v.X * m.1.Y,v.Y * m.2.1.Y,v.Z * m.2.2.Y,v.X * m.1.Z,v.Y * m.2.1.Z,v.Z * m.2.2.Z],-n≤a∧a≤n):=by
  obtain ⟨⟨x,o,y,a4,s,k⟩,⟨b1,f,t,j,z,w⟩,⟨c1,c2,c3,c4,q,c6⟩⟩:=d;obtain ⟨p,h,r,g,l,u⟩:=c;intro a b;simp only [List.mem_cons,List.not_mem_nil,or_false] at b;rcases b with rfl | rfl | rfl | rfl | rfl | rfl | rfl | rfl | rfl <;> exact qro ⟨by assumption,by assumption⟩ ⟨by assumption,by assumption⟩
theorem qrn {m : V3} {v : Q2} {n : Int} (a : Zw m.1∧Zw m.2.1∧Zw m.2.2) (c : J7 v n) : J7 (mulV m v) (3 * n):=by
  have b:=qjh a c;simp only [List.mem_cons,List.not_mem_nil,or_false,forall_eq_or_imp,forall_eq] at b;unfold J7 mulV;simp only;omega
theorem qq6 {m : V3} {v : Q2} (a : Zw m.1∧Zw m.2.1∧Zw m.2.2) (c : J7 v 1000000000000) : q7p m v = some (mulV m v):=by
  have b:=qjh a c;simp only [List.mem_cons,List.not_mem_nil,or_false,forall_eq_or_imp,forall_eq] at b;unfold q7p mulV;congr 2
  · rw [Q9 (x:=v.X * m.1.X) q0,Q9 (x:=v.Y * m.2.1.X) q0,Q9 (x:=v.Z * m.2.2.X) q0,Q9 (x:=v.X * m.1.X + _) q0,Q9 q0]
  · rw [Q9 (x:=v.X * m.1.Y) q0,Q9 (x:=v.Y * m.2.1.Y) q0,Q9 (x:=v.Z * m.2.2.Y) q0,Q9 (x:=v.X * m.1.Y + _) q0,Q9 q0]
  · rw [Q9 (x:=v.X * m.1.Z) q0,Q9 (x:=v.Y * m.2.1.Z) q0,Q9 (x:=v.Z * m.2.2.Z) q0,Q9 (x:=v.X * m.1.Z + _) q0,Q9 q0]
noncomputable def Ys (t : Nat) (at_ v : Q2) : Q2:=addV (mulV (axT t) v) at_
theorem qq4 {f : Kw} {t : Nat} {v : Q2} (d : f.Turn = t) (h : t < 24) (g : J7 f.At 1000000000000) (c : J7 v 1000000000000) : q7o f v = some (Ys t f.At v):=by
  have a:=qni t h;unfold q7o;rw [d,qq1 t h];simp only [qm,qq6 a c];have b:=qrn a c;unfold J7 at b g;unfold Ys addV;rw [Q9 q0,Q9 q0,Q9 q0]
def InV (v : Q2) (lo : Int) : Prop:=lo≤v.X∧v.X≤1000000∧lo≤v.Y∧v.Y≤1000000∧lo≤v.Z∧v.Z≤1000000
instance (v : Q2) (lo : Int) : Decidable (InV v lo):=by unfold InV;infer_instance
theorem qhn (v : Q2) (lo : Int) : q3j v lo = some (decide (InV v lo)):=by
  unfold q3j;by_cases a : min (min v.X v.Y) v.Z ≥ lo
  · by_cases b : max (max v.X v.Y) v.Z≤1000000
    · have : InV v lo:=by unfold InV;omega
      simp only [Qe a,Qe b,Qe this,Q1,qm]
    · have : ¬ InV v lo:=by unfold InV;omega
      simp only [Qe a,Qm b,Qm this,Q1,qm]
  · have : ¬ InV v lo:=by unfold InV;omega
    simp only [Qm a,Qm this,Q3,qm]
def FOk (f : Kw) : Prop:=f.Turn < 24∧InV f.At (-1000000)
instance (f : Kw) : Decidable (FOk f):=by unfold FOk;infer_instance
def SOk (s : qg1) : Prop:=FOk s.Frame∧InV s.Size 0
instance (s : qg1) : Decidable (SOk s):=by unfold SOk;infer_instance
theorem qoq {P Q : Prop} [Decidable P] [Decidable Q] {R : Prop} [Decidable R] (h : R↔P∧Q) : ((cond (decide (¬ P)) (some true) ((some (decide Q)).bind fun a=>some (!a))).bind fun c3=>cond c3 (some (8 : Int)) (some 0)) = some (if R then 0 else 8):=by
  by_cases p : P <;> by_cases q : Q <;> simp [p,q,h]
theorem qi0 (f : Kw) : q4w f = some (if FOk f then 0 else 8):=by
  unfold q4w;rw [qhn];have e : decide (f.Turn ≥ 24) = decide (¬ f.Turn < 24):=by rw [decide_eq_decide];omega
  rw [e];exact qoq Iff.rfl
theorem qij {v : Q2} {lo : Int} (h : InV v lo) (a : -1000000≤lo) : J7 v 1000000000000:=by unfold InV at h;unfold J7;omega
end Go.Sh
namespace Go.Sh
open Go Go.Am
def q2a : qg:={Lo:=({X:=0,Y:=0,Z:=0} : Q2),Hi:=({X:=0,Y:=0,Z:=0} : Q2)}
def Y6 (h b : qg) : qg:={Lo:=({X:=min h.Lo.X b.Lo.X,Y:=min h.Lo.Y b.Lo.Y,Z:=min h.Lo.Z b.Lo.Z} : Q2),Hi:=({X:=max h.Hi.X b.Hi.X,Y:=max h.Hi.Y b.Hi.Y,Z:=max h.Hi.Z b.Hi.Z} : Q2)}
def qqm : List qg→qg
  | []=>q2a
  | b::l=>(b::l).foldl Y6 b
noncomputable def hull (l : List qg) : qg × Int:=if K1 l≠0 then (q2a,K1 l) else if l = [] then (q2a,6) else (qqm l,0)
theorem qqn (l : List qg) (_ : l.length≤1000000) (f : Int × Int × Int × Int × Int × Int × Int→Option ((Int × Int × Int × Int × Int × Int × Int) ⊕ (Int × Int × Int × Int × Int × Int)))
    (hs : ∀ k (h : k < l.length) (s : qg),f ((k : Int),s.Lo.X,s.Lo.Y,s.Lo.Z,s.Hi.X,s.Hi.Y,s.Hi.Z) = some (.inl (((k + 1 : Nat) : Int),(Y6 s l[k]).Lo.X,(Y6 s l[k]).Lo.Y,(Y6 s l[k]).Lo.Z,(Y6 s l[k]).Hi.X,(Y6 s l[k]).Hi.Y,(Y6 s l[k]).Hi.Z)))
    (hd : ∀ s : qg,f ((l.length : Int),s.Lo.X,s.Lo.Y,s.Lo.Z,s.Hi.X,s.Hi.Y,s.Hi.Z) = some (.inr (s.Lo.X,s.Lo.Y,s.Lo.Z,s.Hi.X,s.Hi.Y,s.Hi.Z))) (s : qg) (k : Nat) (a : k≤l.length) :
    loop f ((k : Int),((l.take k).foldl Y6 s).Lo.X,((l.take k).foldl Y6 s).Lo.Y,((l.take k).foldl Y6 s).Lo.Z,((l.take k).foldl Y6 s).Hi.X,((l.take k).foldl Y6 s).Hi.Y,((l.take k).foldl Y6 s).Hi.Z) =
      some ((l.foldl Y6 s).Lo.X,(l.foldl Y6 s).Lo.Y,(l.foldl Y6 s).Lo.Z,(l.foldl Y6 s).Hi.X,(l.foldl Y6 s).Hi.Y,(l.foldl Y6 s).Hi.Z):=
  J1 (f:=f) (fun k=>((k : Int),((l.take k).foldl Y6 s).Lo.X,((l.take k).foldl Y6 s).Lo.Y,((l.take k).foldl Y6 s).Lo.Z,((l.take k).foldl Y6 s).Hi.X,((l.take k).foldl Y6 s).Hi.Y,((l.take k).foldl Y6 s).Hi.Z)) l.length _ (fun k a=>by
    rw [hs k a,List.take_succ_eq_append_getElem a,List.foldl_append];rfl) (by rw [List.take_length,hd]) a
theorem qyy (l : List qg) : q9c l = some (hull l):=by
  unfold q9c hull;rw [q42,qm];by_cases h : ¬ K1 l = 0
  · have : (K1 l != 0) = true:=by simpa using h
    rw [ql h,this,Q1];rfl
  replace h:=Classical.not_not.1 h;have d:=(Z6.1 h).1;rw [qn (by simp [h]),h,show ((0 : Int) != 0) = false from rfl,Q3]
  cases l with
  | nil=>rfl
  | cons b l=>
    have c : ((((b::l).length : Int)) == 0) = false:=by simp;omega
    have key:=qqn (b::l) q0 (q44 (b::l)) (fun k a s=>by
      simp only [q44,dlt a,Q1,K7 a,qm,w64s a q0];rfl) (fun s=>by simp only [q44,dnl,Q3]) b 0 (Nat.zero_le _)
    have key : loop (q44 (b::l)) (0,b.Lo.X,b.Lo.Y,b.Lo.Z,b.Hi.X,b.Hi.Y,b.Hi.Z) = _:=key;rw [c,Q3,show idx (b::l) 0 = some b from rfl,qm,key,qn qc];rfl
def rowOk (a b c : Int) : Prop:=(a = 1∧b = 0∧c = 0)∨(a = -1∧b = 0∧c = 0)∨(a = 0∧b = 1∧c = 0)∨(a = 0∧b = -1∧c = 0)∨(a = 0∧b = 0∧c = 1)∨(a = 0∧b = 0∧c = -1)
instance (a b c : Int) : Decidable (rowOk a b c):=by unfold rowOk;infer_instance
theorem qnh : ∀ t : Nat,t < 24→rowOk (axT t).1.X (axT t).2.1.X (axT t).2.2.X∧rowOk (axT t).1.Y (axT t).2.1.Y (axT t).2.2.Y∧rowOk (axT t).1.Z (axT t).2.1.Z (axT t).2.2.Z:=by decide +kernel
theorem qev {a b c x y z u v w : Int} (h : rowOk a b c) (g : x < u) (d : y < v) (f : z < w) : x * a + y * b + z * c≠u * a + v * b + w * c:=by
  rcases h with ⟨rfl,rfl,rfl⟩ | ⟨rfl,rfl,rfl⟩ | ⟨rfl,rfl,rfl⟩ | ⟨rfl,rfl,rfl⟩ | ⟨rfl,rfl,rfl⟩ | ⟨rfl,rfl,rfl⟩ <;> omega
def qm0 (p q : Q2) : qg:={Lo:=({X:=min p.X q.X,Y:=min p.Y q.Y,Z:=min p.Z q.Z} : Q2),Hi:=({X:=max p.X q.X,Y:=max p.Y q.Y,Z:=max p.Z q.Z} : Q2)}
noncomputable def Zh (t : Nat) (at_ : Q2) (b : qg) : qg:=qm0 (Ys t at_ b.Lo) (Ys t at_ b.Hi)
theorem qto {t : Nat} (h : t < 24) (at_ : Q2) {b : qg} (hb : ltB b) : (Ys t at_ b.Lo).X≠(Ys t at_ b.Hi).X∧(Ys t at_ b.Lo).Y≠(Ys t at_ b.Hi).Y∧(Ys t at_ b.Lo).Z≠(Ys t at_ b.Hi).Z:=by
  obtain ⟨c,a,d⟩:=qnh t h;unfold Ys addV mulV;have j:=qev c hb.1 hb.2.1 hb.2.2;have f:=qev a hb.1 hb.2.1 hb.2.2;have g:=qev d hb.1 hb.2.1 hb.2.2;simp only;omega
theorem qmo {t : Nat} (h : t < 24) (at_ : Q2) {b : qg} (hb : ltB b) : vB (Zh t at_ b)↔InV (Ys t at_ b.Lo) (-1000000)∧InV (Ys t at_ b.Hi) (-1000000):=by
  obtain ⟨a,d,c⟩:=qto h at_ hb;unfold Zh qm0 vB InV;simp only;omega
noncomputable def place (l : List qg) (f : Kw) : List qg × Int:=
  if K1 l≠0 then ([],K1 l) else if ¬ FOk f then ([],8) else if ∀ b∈l,vB (Zh f.Turn.toNat f.At b) then mkB (l.map (Zh f.Turn.toNat f.At)) else ([],16)
theorem qmp {b : qg} (h : vB b) : J7 b.Lo 1000000000000∧J7 b.Hi 1000000000000∧InV b.Lo (-1000000)∧InV b.Hi (-1000000)∧ltB b:=by
  unfold vB at h;unfold J7 InV ltB;omega
theorem qa0 {f : Kw} {t : Nat} (d : f.Turn = t) (a : t < 24) (b : FOk f) {v : Q2} (c : InV v (-1000000)) : q4v f v = some (if InV (Ys t f.At v) (-1000000) then (Ys t f.At v,0) else (zeroV,16)):=by
  unfold q4v;simp only [qi0,qhn,qm,ql b,show ((0 : Int) != 0) = false from rfl,Q3,Qe c,Bool.not_true];rw [qq4 d a (qij b.2 q0) (qij c q0)];simp only [qm];by_cases hi : InV (Ys t f.At v) (-1000000)
  · rw [ql hi];simp [hi]
  · rw [qn hi];simp [hi];rfl
theorem qtn {l : List qg} (_ : l.length≤400) (P : qg→Prop) [DecidablePred P] (pl : qg→qg) (e : List qg × Int) (f : Int × List qg→Option ((Int × List qg) ⊕ ((List qg) ⊕ (List qg × Int))))
    (m : ∀ k (h : k < l.length) (o : List qg),o.length = k→P l[k]→f ((k : Int),o) = some (.inl (((k + 1 : Nat) : Int),o ++ [pl l[k]])))
    (c : ∀ k (h : k < l.length) (o : List qg),o.length = k→¬ P l[k]→f ((k : Int),o) = some (.inr (.inr e)))
    (hd : ∀ o,f ((l.length : Int),o) = some (.inr (.inl o))) : loop f (0,[]) = some (if ∀ b∈l,P b then .inl (l.map pl) else .inr e):=by
  have main:=qdv (f:=f) (fun k=>((k : Int),(l.take k).map pl)) l.length (fun j=>∀ b,l[j]? = some b→P b) (.inl (l.map pl)) (.inr e)
    (fun k a n=>by
      rw [m k a _ (by simp;omega) (n k (Nat.le_refl _) _ (List.getElem?_eq_getElem a)),List.take_succ_eq_append_getElem a,List.map_append];rfl)
    (fun k a _ hb=>c k a _ (by simp;omega) fun h=>hb fun b hb=>by rw [List.getElem?_eq_getElem a] at hb;cases hb;exact h)
    (fun _=>by rw [List.take_length,hd])
  have g : ((((0 : Nat) : Int),(l.take 0).map pl) : Int × List qg) = (0,[]):=rfl;rw [g] at main;rcases main with ⟨p,d⟩ | ⟨j,n,hb,d⟩
  · rw [d,ql];intro b hb;obtain ⟨i,hi,rfl⟩:=List.getElem_of_mem hb;exact p i hi _ (List.getElem?_eq_getElem hi)
  · rw [d,qn];intro h;exact hb fun b hb=>h b (List.mem_of_getElem? hb)
theorem qf7 (l : List qg) (f : Kw) (u : 0≤f.Turn) : q47 l f = some (place l f):=by
  unfold q47 place;rw [q42,qm];by_cases h : ¬ K1 l = 0
  · have : (K1 l != 0) = true:=by simpa using h
    rw [ql h,this,Q1]
  replace h:=Classical.not_not.1 h;obtain ⟨w,r,x⟩:=Z6.1 h;rw [qn (by simp [h]),h,show ((0 : Int) != 0) = false from rfl,Q3,qi0,qm];by_cases c : ¬ FOk f
  · rw [qn c,ql c];rfl
  replace c:=Classical.not_not.1 c;rw [ql c,qn (by simp [c]),show ((0 : Int) != 0) = false from rfl,Q3];have m : f.Turn = (f.Turn.toNat : Int):=by omega
  have a : f.Turn.toNat < 24:=by have:=c.1;omega
  rw [qtn w (fun b=>vB (Zh f.Turn.toNat f.At b)) (Zh f.Turn.toNat f.At) ([],16) (q48 l f) (fun k g o s d=>by
      obtain ⟨v,t,n,p,q⟩:=qmp (r _ (Y3 g));obtain ⟨j,p2⟩:=(qmo a f.At q).1 d;simp only [q48,dlt g,Q1,K7 g,qm,qa0 m a c n,qa0 m a c p,ql j,ql p2,show ((0 : Int) != 0) = false from rfl,Q3,w64s g q0]
      rw [Z4 (by simp;omega)];rfl) (fun k g o s d=>by
      obtain ⟨v,t,n,p,q⟩:=qmp (r _ (Y3 g));rw [qmo a f.At q] at d;simp only [q48,dlt g,Q1,K7 g,qm,qa0 m a c n,qa0 m a c p];by_cases j : InV (Ys f.Turn.toNat f.At l[k].Lo) (-1000000)
      · have p2 : ¬ InV (Ys f.Turn.toNat f.At l[k].Hi) (-1000000):=fun p2=>d ⟨j,p2⟩;rw [ql j,qn p2];rfl
      · rw [qn j];rfl) (fun o=>by simp only [q48,dnl,Q3])]
  rw [qm];by_cases d : ∀ b∈l,vB (Zh f.Turn.toNat f.At b)
  · rw [ql d,ql d];simp only [qbi,qm]
  · rw [qn d,qn d]
end Go.Sh
namespace Go.Sh
open Go Go.Am
theorem q10n (a b : Int) : w64 (a - w64 b) = w64 (a + -b):=by rw [q10o,Int.sub_eq_add_neg]
theorem q5d {x y : Int} (h : -2000002≤x∧x≤2000002) (g : -2000002≤y∧y≤2000002) : -4000008000004≤x * y∧x * y≤4000008000004:=by
  by_cases j : 0≤x
  · by_cases b : 0≤y
    · have:=Int.mul_le_mul h.2 g.2 b q0;have:=Int.mul_nonneg j b;omega
    · have f : 0≤-y:=by omega
      have c:=Int.mul_le_mul h.2 (show -y≤2000002 by omega) f q0;have a:=Int.mul_nonneg j f;rw [Int.mul_neg] at c a;omega
  · have d : 0≤-x:=by omega
    by_cases b : 0≤y
    · have c:=Int.mul_le_mul (show -x≤2000002 by omega) g.2 b q0;have a:=Int.mul_nonneg d b;rw [Int.neg_mul] at c a;omega
    · have f : 0≤-y:=by omega
      have c:=Int.mul_le_mul (show -x≤2000002 by omega) (show -y≤2000002 by omega) f q0;have a:=Int.mul_nonneg d f;rw [Int.neg_mul_neg] at c a;omega
theorem qlo {b c : qg} (hb : vB b) (o : vB c) : q4b b c = some (Kp b c):=by
  unfold q4b Kp;unfold vB at hb o;have n : w64 (min b.Hi.X c.Hi.X - max b.Lo.X c.Lo.X) = min b.Hi.X c.Hi.X - max b.Lo.X c.Lo.X:=Q9 q0;have m : w64 (min b.Hi.Y c.Hi.Y - max b.Lo.Y c.Lo.Y) = min b.Hi.Y c.Hi.Y - max b.Lo.Y c.Lo.Y:=Q9 q0;have p : w64 (min b.Hi.Z c.Hi.Z - max b.Lo.Z c.Lo.Z) = min b.Hi.Z c.Hi.Z - max b.Lo.Z c.Lo.Z:=Q9 q0;simp only [n,m,p];have bx : -2000002≤min b.Hi.X c.Hi.X - max b.Lo.X c.Lo.X∧min b.Hi.X c.Hi.X - max b.Lo.X c.Lo.X≤2000002:=by omega
  have l : -2000002≤min b.Hi.Y c.Hi.Y - max b.Lo.Y c.Lo.Y∧min b.Hi.Y c.Hi.Y - max b.Lo.Y c.Lo.Y≤2000002:=by omega
  have k : -2000002≤min b.Hi.Z c.Hi.Z - max b.Lo.Z c.Lo.Z∧min b.Hi.Z c.Hi.Z - max b.Lo.Z c.Lo.Z≤2000002:=by omega
  generalize min b.Hi.X c.Hi.X - max b.Lo.X c.Lo.X = x at *;generalize min b.Hi.Y c.Hi.Y - max b.Lo.Y c.Lo.Y = y at *;generalize min b.Hi.Z c.Hi.Z - max b.Lo.Z c.Lo.Z = z at *;have r:=q5d l k;have p2:=q5d bx k;have p3:=q5d bx l;rw [Q9 (x:=y * z) q0,Q9 (x:=x * z) q0,Q9 (x:=x * y) q0];by_cases a : x = 0
  · subst a;by_cases d : y > 0 <;> by_cases f : z > 0 <;> simp [d,f]
  · have ex : (x == 0) = false:=by simpa using a
    by_cases g : x > 0
    · by_cases d : y = 0
      · subst d;by_cases f : z > 0 <;> simp [a,ex,g,f]
      · have h : (y == 0) = false:=by simpa using d
        by_cases j : y > 0
        · by_cases f : z = 0
          · subst f;simp [a,ex,g,d,h,j]
          · have q : (z == 0) = false:=by simpa using f
            simp [a,ex,g,d,h,j,f,q]
        · simp [a,ex,g,d,h,j]
    · simp [a,ex,g]
theorem qpq {b : qg} (h : vB b) : w64 (2 * (w64 ((w64 ((w64 ((w64 (b.Hi.X - b.Lo.X)) * (w64 (b.Hi.Y - b.Lo.Y)))) + (w64 ((w64 (b.Hi.X - b.Lo.X)) * (w64 (b.Hi.Z - b.Lo.Z)))))) + (w64 ((w64 (b.Hi.Y - b.Lo.Y)) * (w64 (b.Hi.Z - b.Lo.Z))))))) = Zn b:=by
  unfold vB at h;rw [Q9 (x:=b.Hi.X - b.Lo.X) q0,Q9 (x:=b.Hi.Y - b.Lo.Y) q0,Q9 (x:=b.Hi.Z - b.Lo.Z) q0];have a:=q5d (x:=b.Hi.X - b.Lo.X) (y:=b.Hi.Y - b.Lo.Y) q0 q0;have p2:=q5d (x:=b.Hi.X - b.Lo.X) (y:=b.Hi.Z - b.Lo.Z) q0 q0;have p3:=q5d (x:=b.Hi.Y - b.Lo.Y) (y:=b.Hi.Z - b.Lo.Z) q0 q0;unfold Zn;rw [Q9 (x:=(b.Hi.X - b.Lo.X) * (b.Hi.Y - b.Lo.Y)) q0,Q9 (x:=(b.Hi.X - b.Lo.X) * (b.Hi.Z - b.Lo.Z)) q0,Q9 (x:=(b.Hi.Y - b.Lo.Y) * (b.Hi.Z - b.Lo.Z)) q0];rw [Q9 (x:=(b.Hi.X - b.Lo.X) * (b.Hi.Y - b.Lo.Y) + (b.Hi.X - b.Lo.X) * (b.Hi.Z - b.Lo.Z)) q0,Q9 (x:=(b.Hi.X - b.Lo.X) * (b.Hi.Y - b.Lo.Y) + (b.Hi.X - b.Lo.X) * (b.Hi.Z - b.Lo.Z) + (b.Hi.Y - b.Lo.Y) * (b.Hi.Z - b.Lo.Z)) q0,Q9 q0]
theorem q106 {l : List qg} (f : l.length≤1000000) (h : ∀ c∈l,vB c) {b : qg} (hb : vB b) (n m : Int) (j : n = w64 m) :
    loop (q4a l b) (n,0) = some (w64 (m - 2 * sumL (fun c=>Kp b c) l)):=by
  rw [qht l f (fun n c=>w64 (n + (-2) * (if vB c then Kp b c else 0))) (fun n=>n) (q4a l b) (fun k d s=>by
    have a:=h _ (Y3 d);simp only [q4a,dlt d,Q1,K7 d,qm,qlo hb a,w64s d f,ql a];rw [q10n];have : -(2 * Kp b l[k]) = -2 * Kp b l[k]:=by omega
    rw [this]) (fun s=>by simp only [q4a,dnl,Q3]) n]
  rw [qdc (fun c=>-2 * (if vB c then Kp b c else 0)) l n m j,qbs,q23 (g:=fun c=>Kp b c) fun c a=>by rw [ql (h c a)]];congr 2;omega
theorem q107 {l : List qg} (m : l.length≤400) (d : ∀ c∈l,vB c) : loop (q49 l) (0,0) = some (w64 (q25 l)):=by
  have key:=J1 (f:=q49 l) (fun k=>(w64 (sumL Zn (l.take k) - 2 * J2 Kp l k),(k : Int))) l.length (w64 (q25 l)) (fun k a=>by
    have hb:=d _ (Y3 a)
    have g : slc l 0 (k : Int) = some (l.take k):=by
      unfold slc;rw [ql q0];simp
    have b:=q106 (l:=l.take k) (by rw [List.length_take];omega) (fun c h=>d c (List.mem_of_mem_take h)) hb (w64 (w64 (sumL Zn (l.take k) - 2 * J2 Kp l k) + Zn l[k])) (sumL Zn (l.take k) - 2 * J2 Kp l k + Zn l[k]) (qmu _ _);simp only [q49,dlt a,Q1,K7 a,qm,q6y,g,qpq hb,b,w64s a q0];congr 3;rw [List.take_succ_eq_append_getElem a,q9o];simp only [J2,List.getElem?_eq_getElem a,sumL,Int.add_zero];congr 1
    omega) (by
    simp only [q49,dnl,Q3,List.take_length];rfl) (Nat.zero_le _)
  have j : (w64 (sumL Zn (l.take 0) - 2 * J2 Kp l 0),((0 : Nat) : Int)) = ((0 : Int),(0 : Int)):=by
    simp [sumL,J2];exact Q9 q0
  rw [j] at key;exact key
theorem qp2 (b c : qg) : 0≤Kp b c:=by
  unfold Kp;simp only;split
  · rename_i h;exact Int.mul_nonneg q0 q0
  · split
    · rename_i h;exact Int.mul_nonneg q0 q0
    · split
      · rename_i h;exact Int.mul_nonneg q0 q0
      · exact Int.le_refl _
noncomputable def q75 (l : List qg) : Int × Int:=if K1 l≠0 then (0,K1 l) else (q25 l,0)
theorem q105 (N : Nat) (P : Int→Int→Int→Prop) : 0≤q9p N P:=by
  unfold q9p;have:=fun Q=>(qgp N Q).1;have b:=this fun x y z=>P x y z∧¬ P (x + 1) y z;have a:=this fun x y z=>P x y z∧¬ P (x - 1) y z;have g:=this fun x y z=>P x y z∧¬ P x (y + 1) z;have f:=this fun x y z=>P x y z∧¬ P x (y - 1) z;have d:=this fun x y z=>P x y z∧¬ P x y (z + 1);have c:=this fun x y z=>P x y z∧¬ P x y (z - 1);omega
theorem q102 {l : List qg} (h : K1 l = 0) : 0≤q25 l∧q25 l≤9600000000000000000 / 1000:=by
  obtain ⟨k,a,j⟩:=Z6.1 h;refine ⟨by rw [q103 j a];exact q105 _ _,?_⟩
  have hp : ∀ n,0≤J2 Kp l n:=by
    intro n
    induction n with
    | zero=>exact Int.le_refl _
    | succ n ih=>
      rw [J2]
      have : ∀ (b : qg) (l : List qg),0≤sumL (fun c=>Kp b c) l:=fun b l=>by
        induction l with
        | nil=>exact Int.le_refl _
        | cons c l ih=>rw [sumL];have:=qp2 b c;omega
      split
      · rename_i b _;have:=this b (l.take n);omega
      · omega
  have f : ∀ l : List qg,(∀ b∈l,vB b)→sumL Zn l≤l.length * 24000000000000:=by
    intro l
    induction l with
    | nil=>intro _;exact Int.le_refl _
    | cons b l ih=>
      intro d;have o:=ih fun c g=>d c (by simp [g]);have hb:=d b qc;unfold vB at hb;have m:=(qau (x:=b.Hi.X - b.Lo.X) (y:=b.Hi.Y - b.Lo.Y) (z:=0) q0 q0 q0).1;have p2:=(qau (x:=b.Hi.X - b.Lo.X) (y:=b.Hi.Z - b.Lo.Z) (z:=0) q0 q0 q0).1;have p3:=(qau (x:=b.Hi.Y - b.Lo.Y) (y:=b.Hi.Z - b.Lo.Z) (z:=0) q0 q0 q0).1;have : Zn b≤24000000000000:=by unfold Zn;omega
      rw [sumL,List.length_cons];omega
  have:=f l a;have:=hp l.length;unfold q25;omega
theorem qli (l : List qg) : q6q l = some (q75 l):=by
  unfold q6q q75;rw [q42,qm];by_cases h : ¬ K1 l = 0
  · have : (K1 l != 0) = true:=by simpa using h
    rw [ql h,this,Q1]
  replace h:=Classical.not_not.1 h;obtain ⟨a,b,c⟩:=Z6.1 h;have:=q102 h;rw [qn (by simp [h]),h,show ((0 : Int) != 0) = false from rfl,Q3,q107 a b,Q9 q0];rfl
end Go.Sh
namespace Go.Sh
open Go Go.Am
def grpR : List qk→List (Grp qi)
  | []=>[]
  | r::l=>match grpR l with
    | g::gs=>if g.lo = r.X0∧g.hi = r.X1 then ⟨g.lo,g.hi,ysp r::g.sec⟩::gs else ⟨r.X0,r.X1,[ysp r]⟩::g::gs
    | []=>[⟨r.X0,r.X1,[ysp r]⟩]
def grpB : List qg→List (Grp qk)
  | []=>[]
  | r::l=>match grpB l with
    | g::gs=>if g.lo = r.Lo.Z∧g.hi = r.Hi.Z then ⟨g.lo,g.hi,U2 r::g.sec⟩::gs else ⟨r.Lo.Z,r.Hi.Z,[U2 r]⟩::g::gs
    | []=>[⟨r.Lo.Z,r.Hi.Z,[U2 r]⟩]
theorem qie : ∀ l : List qk,Qx putR (grpR l) = l
  | []=>rfl
  | r::l=>by
    have a:=qie l
    unfold grpR
    split
    · rename_i g d h
      rw [h] at a
      split
      · rename_i b
        obtain ⟨b,c⟩:=b
        rw [← a]
        simp only [Qx,List.flatMap_cons,List.map_cons,List.cons_append,b,c]
        congr 1
      · rw [← a];rfl
    · rename_i h
      rw [h] at a
      rw [← a];rfl
theorem qid : ∀ l : List qg,Qx putB (grpB l) = l
  | []=>rfl
  | r::l=>by
    have a:=qid l
    unfold grpB
    split
    · rename_i g d h
      rw [h] at a
      split
      · rename_i b
        obtain ⟨b,c⟩:=b
        rw [← a]
        simp only [Qx,List.flatMap_cons,List.map_cons,List.cons_append,b,c]
        congr 1
      · rw [← a];rfl
    · rename_i h
      rw [h] at a
      rw [← a];rfl
instance {σ : Type} [DecidableEq σ] (gs : List (Grp σ)) : Decidable (CanG gs):=by unfold CanG;infer_instance
instance (s : List qi) : Decidable (Can s):=by unfold Can;infer_instance
def isR (l : List qk) : Prop:=CanG (grpR l)∧∀ g∈grpR l,Can g.sec
instance (l : List qk) : Decidable (isR l):=by unfold isR;infer_instance
def isB (l : List qg) : Prop:=CanG (grpB l)∧∀ g∈grpB l,isR g.sec
instance (l : List qg) : Decidable (isB l):=by unfold isB;infer_instance
theorem isR.can {l : List qk} (h : isR l) : CanR l:=⟨grpR l,(qie l).symm,h.1,h.2⟩
theorem isB.can {l : List qg} (h : isB l) : CanB l:=⟨grpB l,(qid l).symm,h.1,fun g a=>(h.2 g a).can⟩
theorem q4l {l : List qg} (h : l.length≤400∧(∀ b∈l,vB b)∧isB l) : K1 l = 0:=Z6.2 ⟨h.1,h.2.1,h.2.2.can⟩
theorem qaq {kind : Int} {p q out : List qg} (h : p.length + q.length≤100000) (a : CanB out) (b : ∀ x y z,Y5 kind (hasB p x y z) (hasB q x y z)↔hasB out x y z) : mrgB kind p q = out:=
  qck (q59 kind h) a fun x y z=>by rw [qdl kind h];exact b x y z
theorem qao {l out : List qg} (h : l.length≤400∧(∀ b∈l,vB b)∧out.length≤400) (a : isB out) (c : ∀ x y z,hasB l x y z↔hasB out x y z) : mkB l = (out,0):=by
  have e : mrgB 2 l [] = out:=qaq (by simp;omega) a.can fun x y z=>by rw [q7q,← c];simp [q1k]
  unfold mkB;rw [qn q0,ql h.2.1,e,qn q0]
def bx (x y z u v w : Int) : qg:={Lo:=({X:=x,Y:=y,Z:=z} : Q2),Hi:=({X:=u,Y:=v,Z:=w} : Q2)}
def Kx : List qg:=[bx 0 0 0 2 2 1,bx 0 0 1 1 2 2]
theorem axT9 : axT 9 = (⟨0,1,0⟩,⟨-1,0,0⟩,⟨0,0,1⟩):=by decide +kernel
theorem qn9 : q7u = some true:=by
  have d : Jf = some Kx:=rfl;have c : K1 Kx = 0:=q4l qw;have h : volume Kx = (6,0):=by unfold volume;rw [qn (by simp [c])];rfl
  have hs : q75 Kx = (22,0):=by unfold q75;rw [qn (by simp [c])];rfl
  have a : place Kx ({Turn:=9,At:=({X:=0,Y:=0,Z:=0} : Q2)} : Kw) = ([bx (-2) 0 0 0 2 1,bx (-2) 0 1 0 1 2],0):=by
    have e : Kx.map (Zh 9 ⟨0,0,0⟩) = [bx (-2) 0 0 0 2 1,bx (-2) 0 1 0 1 2]:=by
      simp only [Kx,List.map_cons,List.map_nil,Zh,Ys,axT9];rfl
    have g : ∀ b∈Kx,vB (Zh 9 ⟨0,0,0⟩ b):=by
      have : ∀ b∈Kx.map (Zh 9 ⟨0,0,0⟩),vB b:=by rw [e];decide
      intro b hb;exact this _ (List.mem_map_of_mem hb)
    unfold place;rw [qn (by simp [c]),qn (by unfold FOk InV;decide)];rw [ql (show ∀ b∈Kx,vB (Zh (Int.toNat 9) ⟨0,0,0⟩ b) from g)];show mkB (Kx.map (Zh 9 ⟨0,0,0⟩)) = _;rw [e];exact qao qw qw fun x y z=>Iff.rfl
  have f : mkB [bx 0 0 0 1 2 2,bx 1 0 0 2 2 1] = (Kx,0):=qao qw qw fun x y z=>by
    simp only [Kx,qag,q1k,or_false,inB,bx];omega
  unfold q7u
  simp only [d,qm,qlk,h,qli,hs,qf7 _ _ (show (0 : Int)≤(({Turn:=9,At:=({X:=0,Y:=0,Z:=0} : Q2)} : Kw)).Turn by decide),a,
    show Yl 0 0 0 1 2 2 = some (bx 0 0 0 1 2 2) from rfl,show Yl 1 0 0 2 2 1 = some (bx 1 0 0 2 2 1) from rfl,qbi,f,
    show Yl (-2) 0 0 0 2 1 = some (bx (-2) 0 0 0 2 1) from rfl,show Yl (-2) 0 1 0 1 2 = some (bx (-2) 0 1 0 1 2) from rfl,
    sameBox _ _ (show [bx (-2) 0 0 0 2 1,bx (-2) 0 1 0 1 2].length≤1000000 by simp),sameBox _ _ (show Kx.length≤1000000 by simp [Kx]),decide_true,beq_self_eq_true,Q1,
    qyx Kx _ (show Kx.length≤1000000 by simp [Kx]),
    show decide (hasB Kx 0 0 1) = true by decide,show decide (hasB Kx 1 0 1) = false by decide,Bool.not_false]
theorem qoo : K1 [] = 0:=q4l qw
instance (kind : Int) (a b : Prop) [Decidable a] [Decidable b] : Decidable (Y5 kind a b):=by unfold Y5;infer_instance
end Go.Sh
namespace Go.Sh
open Go Go.Am
section
def PreG {σ : Type} (gs : List (Grp σ)) : Prop:=(∀ g∈gs,g.lo < g.hi)∧gs.Pairwise (fun g h=>g.hi≤h.lo)
variable {σ β : Type}
def Jh [DecidableEq σ] : List (Grp σ)→List (Grp σ)
  | []=>[]
  | g::r=>if g.sec = [] then Jh r else match Jh r with
    | []=>[g]
    | h::t=>if g.hi = h.lo∧g.sec = h.sec then ⟨g.lo,h.hi,g.sec⟩::t else g::h::t
theorem PreG.tail {g : Grp σ} {r : List (Grp σ)} (h : PreG (g::r)) : PreG r:=⟨fun k a=>h.1 k (by simp [a]),(List.pairwise_cons.1 h.2).2⟩
theorem PreG.nxt {g : Grp σ} {r : List (Grp σ)} (h : PreG (g::r)) : ∀ k∈r,g.hi≤k.lo:=(List.pairwise_cons.1 h.2).1
theorem qe5 [DecidableEq σ] (put : Int→Int→σ→β) : ∀ {d : List (Grp σ)},PreG d→CanG (Jh d)∧(∀ x,secG (Jh d) x = secG d x)∧(∀ h∈Jh d,∃ g∈d,h.sec = g.sec)∧(∀ y,(∀ g∈d,y≤g.lo)→∀ h∈Jh d,y≤h.lo)∧(Qx put (Jh d)).length≤(Qx put d).length
  | [],_=>by simp [Jh,CanG,Qx]
  | g::r,hp=>by
    obtain ⟨f,i2,i3,s,i5⟩:=qe5 put hp.tail
    have p:=hp.1 g qc
    have hn:=hp.nxt
    have l:=s g.hi hn
    have b : ∀ x,secG (g::r) x = if g.lo≤x∧x < g.hi then g.sec else secG (Jh r) x:=fun x=>by rw [secG,i2]
    have w : (Qx put (g::r)).length = g.sec.length + (Qx put r).length:=by simp [Qx]
    unfold Jh
    by_cases o : g.sec = []
    · rw [ql o]
      refine ⟨f,fun x=>?_,fun h j=>?_,fun y c=>s y fun k a=>c k (by simp [a]),q0⟩
      · rw [b]
        split
        · rename_i q
          rw [o,Ui l q.2]
        · rfl
      · obtain ⟨k,a,e⟩:=i3 h j
        exact ⟨k,by simp [a],e⟩
    · rw [qn o]
      generalize Jh r = m at *
      cases m with
      | nil=>
        refine ⟨⟨by simpa using ⟨p,o⟩,qc⟩,fun x=>by rw [b];rfl,fun h j=>⟨g,qc,by simp at j;rw [j]⟩,fun y c h j=>by simp at j;rw [j];exact c g qc,?_⟩
        rw [w];simp [Qx]
      | cons h t=>
        simp only
        have j:=f.1 h qc
        have hl:=l h qc
        have e5 : (Qx put (h::t)).length = h.sec.length + (Qx put t).length:=by simp [Qx]
        split
        · rename_i v
          obtain ⟨q1,q2⟩:=v
          refine ⟨⟨fun k a=>?_,?_⟩,fun x=>?_,fun k a=>?_,fun y c k a=>?_,?_⟩
          · rcases List.mem_cons.1 a with rfl | a
            · exact ⟨by simp only;omega,o⟩
            · exact f.1 k (by simp [a])
          · rw [List.pairwise_cons]
            exact ⟨fun k a=>by have:=f.nxt k a;rw [← q2] at this;exact this,f.tail.2⟩
          · rw [b,secG,secG]
            by_cases q : g.lo≤x∧x < g.hi
            · rw [ql (by simp only;omega),ql q]
            · rw [qn q]
              by_cases c : h.lo≤x∧x < h.hi
              · rw [ql (by simp only;omega),ql c,q2]
              · rw [qn (by simp only;omega),qn c]
          · rcases List.mem_cons.1 a with rfl | a
            · exact ⟨g,qc,rfl⟩
            · obtain ⟨k',n,e⟩:=i3 k (by simp [a])
              exact ⟨k',by simp [n],e⟩
          · rcases List.mem_cons.1 a with rfl | a
            · exact c g qc
            · exact s y (fun z u=>c z (by simp [u])) k (by simp [a])
          · have : (Qx put (⟨g.lo,h.hi,g.sec⟩::t)).length = g.sec.length + (Qx put t).length:=by simp [Qx]
            omega
        · rename_i v
          refine ⟨⟨fun k a=>?_,?_⟩,fun x=>by rw [b];rfl,fun k a=>?_,fun y c k a=>?_,?_⟩
          · rcases List.mem_cons.1 a with rfl | a
            · exact ⟨p,o⟩
            · exact f.1 k a
          · rw [List.pairwise_cons]
            refine ⟨fun k a=>?_,f.2⟩
            rcases List.mem_cons.1 a with rfl | a
            · exact ⟨hl,fun e1 e2=>v ⟨e1,e2⟩⟩
            · have:=(f.nxt k a).1
              exact ⟨q0,fun e=>q0⟩
          · rcases List.mem_cons.1 a with rfl | a
            · exact ⟨_,List.mem_cons_self,rfl⟩
            · obtain ⟨k',n,e⟩:=i3 k a
              exact ⟨k',by simp [n],e⟩
          · rcases List.mem_cons.1 a with rfl | a
            · exact c _ List.mem_cons_self
            · exact s y (fun z u=>c z (by simp [u])) k a
          · have : (Qx put (g::h::t)).length = g.sec.length + (Qx put (h::t)).length:=by simp [Qx]
            omega
theorem qfc (put : Int→Int→σ→β) : ∀ {d : List (Grp σ)} {l : List β},CanG d→l.Sublist (Qx put d)→∃ a,l = Qx put a∧PreG a∧(∀ f∈a,∃ g∈d,f.sec.Sublist g.sec)∧∀ y,(∀ g∈d,y≤g.lo)→∀ f∈a,y≤f.lo
  | [],l,_,hl=>⟨[],by simpa [Qx] using hl,⟨qc,qc⟩,qc,qc⟩
  | g::r,l,hc,hl=>by
    have e : Qx put (g::r) = g.sec.map (put g.lo g.hi) ++ Qx put r:=by simp [Qx]
    rw [e] at hl
    obtain ⟨p,o,rfl,n,m⟩:=List.sublist_append_iff.1 hl
    obtain ⟨s,hs,rfl⟩:=List.sublist_map_iff.1 n
    obtain ⟨a,rfl,j,p2,p3⟩:=qfc put hc.tail m
    refine ⟨⟨g.lo,g.hi,s⟩::a,by simp [Qx],⟨fun k b=>?_,?_⟩,fun k b=>?_,fun y h k b=>?_⟩
    · rcases List.mem_cons.1 b with rfl | b
      · exact (hc.1 g qc).1
      · exact j.1 k b
    · rw [List.pairwise_cons]
      exact ⟨fun k b=>p3 g.hi (fun z c=>(hc.nxt z c).1) k b,j.2⟩
    · rcases List.mem_cons.1 b with rfl | b
      · exact ⟨g,qc,hs⟩
      · obtain ⟨z,c,q⟩:=p2 k b
        exact ⟨z,by simp [c],q⟩
    · rcases List.mem_cons.1 b with rfl | b
      · exact h g qc
      · exact p3 y (fun z c=>h z (by simp [c])) k b
end
theorem qny {s t : List qi} (h : Can t) (hs : s.Sublist t) : Can s:=⟨fun x a=>h.1 x (hs.subset a),h.2.sublist hs⟩
theorem qh4 : ∀ {a : List (Grp qi)},PreG a→∀ x,covS (Qx putR a) x = secG a x
  | [],_,x=>rfl
  | g::r,h,x=>by
    have e : Qx putR (g::r) = g.sec.map (putR g.lo g.hi) ++ Qx putR r:=by simp [Qx]
    rw [e,qh1,qh5,qh4 h.tail,secG]
    split
    · rename_i b
      rw [Ui h.nxt b.2,List.append_nil]
    · rfl
theorem qg7 : ∀ {a : List (Grp qk)},PreG a→∀ x,atB (Qx putB a) x = secG a x
  | [],_,x=>rfl
  | g::r,h,x=>by
    have e : Qx putB (g::r) = g.sec.map (putB g.lo g.hi) ++ Qx putB r:=by simp [Qx]
    rw [e,qg4,qg8,qg7 h.tail,secG]
    split
    · rename_i b
      rw [Ui h.nxt b.2,List.append_nil]
    · rfl
theorem qnw {r l : List qk} (s : CanR r) (u : l.Sublist r) : ∃ m,CanR m∧m.length≤l.length∧∀ x y,hasR m x y↔hasR l x y:=by
  obtain ⟨v,rfl,n,h⟩:=s;obtain ⟨a,rfl,c,p2,_⟩:=qfc putR n u;obtain ⟨b,t,p,_,d⟩:=qe5 putR c;refine ⟨Qx putR (Jh a),⟨_,rfl,b,fun g o=>?_⟩,d,fun x y=>?_⟩
  · obtain ⟨k,j,e⟩:=p g o;obtain ⟨z,f,q⟩:=p2 k j;rw [e];exact qny (h z f) q
  · rw [← q2p,← q2p,q4p b,qh4 c,t]
open Classical in
theorem qnv {s l : List qg} (hs : CanB s) (hl : l.Sublist s) : ∃ m,CanB m∧m.length≤l.length∧∀ x y z,hasB m x y z↔hasB l x y z:=by
  obtain ⟨gs,rfl,h1,h2⟩:=hs;obtain ⟨a,rfl,u,p2,_⟩:=qfc putB h1 hl
  have hex : ∀ g∈a,∃ m,CanR m∧m.length≤g.sec.length∧∀ x y,hasR m x y↔hasR g.sec x y:=fun g b=>by
    obtain ⟨k,c,q⟩:=p2 g b;exact qnw (h2 k c) q
  let f : List qk→List qk:=fun r=>if h : ∃ m,CanR m∧m.length≤r.length∧∀ x y,hasR m x y↔hasR r x y then h.choose else []
  have v : ∀ g∈a,CanR (f g.sec)∧(f g.sec).length≤g.sec.length∧∀ x y,hasR (f g.sec) x y↔hasR g.sec x y:=fun g b=>by
    have h:=hex g b;have e : f g.sec = h.choose:=dif_pos h;rw [e];exact h.choose_spec
  let d : List (Grp qk):=a.map fun g=>⟨g.lo,g.hi,f g.sec⟩
  have q1 : PreG d:=⟨fun k c=>by
    obtain ⟨g,b,rfl⟩:=List.mem_map.1 c;exact u.1 g b,by
    rw [List.pairwise_map];exact u.2⟩
  have o : ∀ (a : List (Grp qk)) (z : Int),secG (a.map fun g=>⟨g.lo,g.hi,f g.sec⟩) z = []∧secG a z = []∨∃ g∈a,secG (a.map fun g=>(⟨g.lo,g.hi,f g.sec⟩ : Grp qk)) z = f g.sec∧secG a z = g.sec:=by
    intro a z
    induction a with
    | nil=>exact .inl ⟨rfl,rfl⟩
    | cons g r ih=>
      rw [List.map_cons,secG,secG];by_cases j : g.lo≤z∧z < g.hi
      · rw [ql j,ql j];exact .inr ⟨g,qc,rfl,rfl⟩
      · rw [qn j,qn j];rcases ih with h | ⟨k,c,h⟩
        · exact .inl h
        · exact .inr ⟨k,by simp [c],h⟩
  obtain ⟨w,m2,m3,_,m5⟩:=qe5 putB q1
  have n : ∀ a : List (Grp qk),(∀ g∈a,(f g.sec).length≤g.sec.length)→(Qx putB (a.map fun g=>(⟨g.lo,g.hi,f g.sec⟩ : Grp qk))).length≤(Qx putB a).length:=by
    intro a h
    induction a with
    | nil=>simp [Qx]
    | cons g r ih=>
      have:=ih fun k c=>h k (by simp [c]);have:=h g qc;simp only [Qx,List.map_cons,List.flatMap_cons,List.length_append,List.length_map] at *;omega
  refine ⟨Qx putB (Jh d),⟨_,rfl,w,fun g b=>?_⟩,Nat.le_trans m5 (n a fun g b=>(v g b).2.1),fun x y z=>?_⟩
  · obtain ⟨k,c,e⟩:=m3 g b;obtain ⟨z,j,rfl⟩:=List.mem_map.1 c;rw [e];exact (v z j).1
  · rw [← q1l,← q1l,q4h w,qg7 u,m2];rcases o a z with ⟨t,p⟩ | ⟨g,b,t,p⟩
    · rw [show secG d z = [] from t,p]
    · rw [show secG d z = f g.sec from t,p];exact (v g b).2.2 x y
theorem qzz {s l : List qg} (hs : CanB s) (b : l.Sublist s) (h : l.length≤100000) : (mrgB 2 l []).length≤l.length:=by
  obtain ⟨m,c,a,d⟩:=qnv hs b;have : mrgB 2 l [] = m:=qaq (by simpa using h) c fun x y z=>by rw [q7q,d];simp [q1k]
  rw [this];exact a
end Go.Sh
