/- Rs1 Rs2 Rs3 Qb1 Rs4 Qb2 Pf3 Rs5 Rs6 Rs7 Sw1 Sw2 Sw3 Sw4 Sw5 -/
import Derived.Test.YtbknppciefodiaaGreatK11
namespace Go.Sh
open Go Go.Am
theorem qcc {α β : Type} {f : α→Option (α ⊕ β)} (st : Nat→α) (n : Nat) (ok : Nat→Prop) (b e : β)
    (step : ∀ k,k < n→(∀ j,j≤k→ok j)→f (st k) = some (.inl (st (k + 1))))
    (bad : ∀ k,k < n→(∀ j,j < k→ok j)→¬ ok k→f (st k) = some (.inr e))
    (done : (∀ j,j < n→ok j)→f (st n) = some (.inr b)) :
    ((∀ j,j < n→ok j)∧loop f (st 0) = some b)∨(∃ j,j < n∧¬ ok j∧loop f (st 0) = some e):=by
  by_cases h : ∀ j,j < n→ok j
  · exact .inl ⟨h,Zw st n b (fun k c=>step k c fun j d=>h j q0) (done h) (Nat.zero_le _)⟩
  · refine .inr ?_
    have l : ∃ k,(k < n∧¬ ok k)∧∀ j,j < k→ok j:=by
      have : ∃ k,k < n∧¬ ok k:=by
        refine Classical.byContradiction fun o=>h fun k c=>?_
        exact Classical.byContradiction fun h=>o ⟨k,c,h⟩
      obtain ⟨k,c⟩:=this
      induction k using Nat.strongRecOn with
      | _ k ih=>
        by_cases d : ∃ j,j < k∧(j < n∧¬ ok j)
        · obtain ⟨j,g,l⟩:=d;exact ih j g l
        · exact ⟨k,c,fun j g=>Classical.byContradiction fun h=>d ⟨j,g,q0,h⟩⟩
    obtain ⟨K,⟨m,hb⟩,a⟩:=l
    exact ⟨K,m,hb,Zw st K e (fun k c=>step k q0 fun j d=>a j q0) (bad K m a hb) (Nat.zero_le _)⟩
theorem qh0 (xs : List Int) (h : xs.length≤1000000) :
    ((U4 xs).bind fun c=>(K3 c.length xs.length).bind fun j=>(q16 c).bind fun b=>(K3 b.2.length c.length).bind fun m=>(q1b b.2.length b.1).bind fun g=>some ((b.2.drop b.1.1).take b.1.2)) = some (Qx xs):=by
  obtain ⟨ys,o,k,p⟩:=qnw xs h
  have f : ys.length = xs.length:=k.length_eq
  obtain ⟨w,a,c1,c2,c3,c4⟩:=qj1 p q0
  obtain ⟨_,n,_⟩:=Jy h
  have d : a.take w = Qx xs:=by
    refine qnx (l:=xs) ⟨c4.1,fun x=>?_⟩ n
    rw [c4.2 x];exact k.mem_iff
  simp only [qj,o,K3,f,if_true,c1,c2,q1b]
  rw [qq q0]
  simp only [qj,List.drop_zero,d]
theorem qox (l : List qi) (o : List Int) (g : l.length≤400) (f : o.length≤10000) : loop (J8 l) (0,o) = some (o ++ xsOf l):=
  Jt l q0 (fun r=>[r.X0,r.X1]) o (fun o=>o) (J8 l) (fun k b c a=>by
    have d : c.length = o.length + 2 * k:=by
      rw [a,List.length_append];have:=U6 (l.take k);rw [List.length_take,Nat.min_eq_left q0] at this
      unfold xsOf at this;omega
    simp only [J8,dlt b,Q1,Qu b,qj,w64s b q0]
    rw [Y7 (by simp;omega)]
    rfl) (fun o=>by simp only [J8,dnl,qy])
theorem qwp (l : List qi) (m : l.length≤1000000) : q9r l (fun a=>q34 a) = some (decide (¬ ∀ r∈l,vR r)):=by
  have hs : ∀ (k : Nat) (h : k < l.length),q4j l (fun a=>q34 a) (k : Int) = some (if (fun r=>!decide (vR r)) l[k] = true then .inr (.inr (k : Int)) else .inl ((k + 1 : Nat) : Int)):=by
    intro k h
    simp only [q4j,dlt h,Q1,Qu h,qj,w64s h m,q34,qor]
    by_cases j : vR l[k] <;> simp [j]
  have hd : q4j l (fun a=>q34 a) (l.length : Int) = some (.inr (.inl ())):=by simp only [q4j,dnl,qy]
  unfold q9r qda
  rcases Z8 l (fun r=>!decide (vR r)) (fun k _=>(k : Int)) () _ hs hd with ⟨d,b⟩ | ⟨k,f,c,_,b⟩
  · rw [b]
    have : ∀ r∈l,vR r:=fun r g=>by simpa using d r g
    simp []
    omega
  · rw [b]
    have : ¬ ∀ r∈l,vR r:=fun h=>by simp [h _ (Kv f)] at c
    simp only [qj]
    rw [Q7 this,Q7 q0]
theorem qmh (l : List qi) : q1x l = some (mkR l):=by
  unfold q1x mkR
  by_cases b : 400 < l.length
  · rw [Q7 (by omega : (l.length : Int) > 400),Q1,qq b]
  rw [Q6 (by omega : ¬ (l.length : Int) > 400),qy,qp b,qwp l q0,qj]
  by_cases a : ∀ r∈l,vR r
  · rw [Q6 (fun h=>h a),qy,ql4 l q0 a,qq a];rfl
  · rw [Q7 a,Q1,qp a]
theorem qwm (p q : List qi) : q9j p q = some (if Yn p≠0 then Yn p else Yn q):=by
  unfold q9j
  simp only [qwi,qj]
  by_cases h : Yn p = 0
  · simp [h]
  · have : (Yn p != 0) = true:=by simpa using h
    simp [h,this]
theorem rj1 : qcw = J8:=rfl
theorem rj2 : qcx = J8:=rfl
theorem rj4 : qcy = Uo:=rfl
theorem rj5 : qcz = Uo:=rfl
theorem qim {p : List qi} (h : Yn p = 0) (x : Int) : Yv (covS p x) = 0∧Good (covS p x):=by
  obtain ⟨d,b,c⟩:=q8l.1 h
  have a : Good (covS p x):=⟨qj6 b x,(c.cov x).2⟩
  have:=Us p x
  refine ⟨?_,a⟩
  unfold Yv
  rw [qp q0,qq a]
theorem qlp (kind : Int) {p q : List qi} (hp : Yn p = 0) (a : Yn q = 0) (x : Int) : opS kind (covS p x) (covS q x) = if 400 < (secJ kind p q x).length then ([],4) else (secJ kind p q x,0):=by
  unfold opS
  rw [qp (by simp [(qim hp x).1]),qp (by simp [(qim a x).1])]
  rfl
theorem qwr (kind : Int) (f : List qk→List qk→Option (List qk × Int)) (hf : ∀ a b,f a b = some (opS kind a b)) (p q : List qi) : q9k p q f = some (jR kind p q):=by
  unfold q9k jR
  rw [qwm,qj]
  by_cases hp : ¬ Yn p = 0
  · rw [qq hp,qq hp]
    have : (Yn p != 0) = true:=by simpa using hp
    rw [this,Q1]
  replace hp:=Classical.not_not.1 hp
  by_cases o : ¬ Yn q = 0
  · rw [qp (by simp [hp]),qp (by simp [hp]),qq o]
    have : (Yn q != 0) = true:=by simpa using o
    rw [this,Q1]
  replace o:=Classical.not_not.1 o
  rw [qp (by simp [hp]),qp (by simp [hp]),qp (by simp [o]),o]
  obtain ⟨lp,vp,cp⟩:=q8l.1 hp
  obtain ⟨lq,vq,cq⟩:=q8l.1 o
  have an:=U6 p
  have am:=U6 q
  rw [show ((0 : Int) != 0) = false from rfl,qy]
  simp only [show idx [p,q] 0 = some p from rfl,show idx [p,q] 1 = some q from rfl,qj,rj1,rj2,qox p [] lp qe,List.nil_append,qox q (xsOf p) lq q0]
  rw [qh0 _ (by simp;omega)]
  simp only [qj]
  obtain ⟨_,ai,d⟩:=Jy (l:=xsOf p ++ xsOf q) (by simp;omega)
  have d : (Qx (xsOf p ++ xsOf q)).length≤1600:=by simp at d;omega
  have n : ∀ x,(secJ kind p q x).length≤(mrgR kind p q).length:=fun x=>qyh kind q0 x
  have af : mrgR kind p q = (K1 putR Qz (Yx (Qx (xsOf p ++ xsOf q)) (secJ kind p q))).flat putR:=rfl
  rw [af] at n ⊢
  generalize Qx (xsOf p ++ xsOf q) = xs at ai d n ⊢
  generalize y : Yx xs (secJ kind p q) = steps at n ⊢
  have au : steps.length = xs.length - 1:=by rw [← y];exact q83 _ _
  have v : ∀ k (m : k < steps.length),steps[k] = (xs[k]'(q0),xs[k + 1]'(q0),secJ kind p q (xs[k]'(q0))):=fun k m=>by subst y;exact q82 m q0
  have ad : ∀ k,k≤steps.length→(∀ j,j < k→∀ t,steps[j]? = some t→t.2.2.length≤400)→((K1 putR Qz (steps.take k)).flat putR).length≤1600 * 400:=fun k m s=>by
    have h1:=qc2 putR (s0:=Qz) (M:=400) (steps:=steps.take k) (fun t w=>by
      obtain ⟨i,hi,rfl⟩:=List.getElem_of_mem w
      rw [List.length_take] at hi
      rw [List.getElem_take]
      exact s i q0 _ (List.getElem?_eq_getElem q0))
    have z : (steps.take k).length≤1600:=by rw [List.length_take];omega
    have h3 : (Qz.flat putR : List qi).length = 0:=rfl
    have h4 : (steps.take k).length * 400≤1600 * 400:=Nat.mul_le_mul_right _ z
    omega
  have u : ∀ x,loop (Uo p x) (0,[]) = some (covS p x):=fun x=>qfr p lp x
  have r : ∀ x,loop (Uo q x) (0,[]) = some (covS q x):=fun x=>qfr q lq x
  have main:=qcc (f:=q4h xs p q f) (fun k=>(((k + 1 : Nat) : Int),(K1 putR Qz (steps.take k)).sec,((K1 putR Qz (steps.take k)).done.length : Int),(K1 putR Qz (steps.take k)).hi,(K1 putR Qz (steps.take k)).flat putR))
    steps.length (fun j=>∀ t,steps[j]? = some t→t.2.2.length≤400) (.inl ((K1 putR Qz steps).sec,((K1 putR Qz steps).done.length : Int),(K1 putR Qz steps).hi,(K1 putR Qz steps).flat putR)) (.inr ([],4))
    (fun k m s=>by
      have c : k + 1 < xs.length:=by omega
      have ah : k < xs.length:=by omega
      have i1 : idx xs (w64 (((k + 1 : Nat) : Int) - 1)) = some xs[k]:=by rw [Qm q0];exact J4 q0 q0
      have hc:=s k (Nat.le_refl _) _ (List.getElem?_eq_getElem m)
      have hm:=ad k q0 fun j ap=>s j q0
      rw [q3s putR m,v k m] at *
      simp only at hc
      have hb:=qi7 (K1 putR Qz (steps.take k)) xs[k] xs[k + 1] (secJ kind p q xs[k]) q0
      have ho : f (covS p xs[k]) (covS q xs[k]) = some (secJ kind p q xs[k],0):=by rw [hf,qlp kind hp o,qp q0]
      simp only [q4h,dlt c,Q1,i1,Qu c,qj,show idx [p,q] 0 = some p from rfl,show idx [p,q] 1 = some q from rfl,rj4,rj5,u,r,ho,show ((0 : Int) != 0) = false from rfl,qy,hb]
      rw [w64s c q0])
    (fun k m s g=>by
      have c : k + 1 < xs.length:=by omega
      have ah : k < xs.length:=by omega
      have i1 : idx xs (w64 (((k + 1 : Nat) : Int) - 1)) = some xs[k]:=by rw [Qm q0];exact J4 q0 q0
      have hc : 400 < (secJ kind p q xs[k]).length:=by
        refine Nat.lt_of_not_le fun h=>g fun t w=>?_
        rw [List.getElem?_eq_getElem m,v k m] at w
        cases w;exact h
      have ho : f (covS p xs[k]) (covS q xs[k]) = some ([],4):=by rw [hf,qlp kind hp o,qq hc]
      simp only [q4h,dlt c,Q1,i1,Qu c,qj,show idx [p,q] 0 = some p from rfl,show idx [p,q] 1 = some q from rfl,rj4,rj5,u,r,ho,show ((4 : Int) != 0) = true from rfl,Q1])
    (fun _=>by
      have : decide (((steps.length + 1 : Nat) : Int) < (xs.length : Int)) = false:=Q6 q0
      simp only [List.take_length,q4h,this,qy])
  have ac : ((((0 + 1 : Nat) : Int),(K1 putR Qz (steps.take 0)).sec,((K1 putR Qz (steps.take 0)).done.length : Int),(K1 putR Qz (steps.take 0)).hi,(K1 putR Qz (steps.take 0)).flat putR) : Int × List qk × Int × Int × List qi) = (1,[],0,0,[]):=rfl
  rw [ac] at main
  rcases main with ⟨_,z⟩ | ⟨j,s,g,z⟩
  · rw [z]
    simp only [qj]
    by_cases h4 : 400 < ((K1 putR Qz steps).flat putR).length
    · rw [Q7 (by omega : (((K1 putR Qz steps).flat putR).length : Int) > 400),qq h4];rfl
    · rw [Q6 (by omega : ¬ (((K1 putR Qz steps).flat putR).length : Int) > 400),qp h4];rfl
  · rw [z]
    have aq : j < xs.length:=by omega
    have h5 : 400 < (secJ kind p q xs[j]).length:=by
      refine Nat.lt_of_not_le fun h=>g fun t w=>?_
      rw [List.getElem?_eq_getElem s,v j s] at w
      cases w;exact h
    have h6:=n xs[j]
    have h4 : 400 < ((K1 putR Qz steps).flat putR).length:=Nat.lt_of_lt_of_le h5 h6
    rw [qq h4];rfl
theorem qwk (p q : List qi) : q6h p q = some (jR 2 p q):=by
  unfold q6h;rw [qwr 2 _ (fun a b=>q13b a b)];rfl
end Go.Sh
namespace Go.Sh
open Go Go.Am
theorem q11t (v : Qa) : q7x v = some (decide ((-1000000≤v.X∧-1000000≤v.Y∧-1000000≤v.Z)∧v.X≤1000000∧v.Y≤1000000∧v.Z≤1000000)):=by
  unfold q7x
  by_cases a : min (min v.X v.Y) v.Z ≥ -1000000
  · by_cases b : max (max v.X v.Y) v.Z≤1000000
    · rw [Q7 a,Q7 b,Q1,qj];congr 1;exact (Q7 q0).symm
    · rw [Q7 a,Q6 b,Q1,qj];congr 1;exact (Q6 q0).symm
  · rw [Q6 a,qy,qj];congr 1;exact (Q6 q0).symm
theorem qnr (b : qg) : q7y b = some (decide (vB b)):=by
  unfold q7y vB
  simp only [q11t,qj]
  by_cases a : b.Lo.X < b.Hi.X
  · by_cases c : b.Lo.Y < b.Hi.Y
    · by_cases f : b.Lo.Z < b.Hi.Z
      · simp only [a,c,f,decide_true,Q1,qj,true_and]
        by_cases d : (-1000000≤b.Lo.X∧-1000000≤b.Lo.Y∧-1000000≤b.Lo.Z)∧b.Lo.X≤1000000∧b.Lo.Y≤1000000∧b.Lo.Z≤1000000
        · rw [Q7 d]
          simp only [Q1,qj]
          congr 1
          exact decide_eq_decide.2 q0
        · rw [Q6 d]
          simp only [qy,qj]
          congr 1
          exact (Q6 q0).symm
      · simp [a,c,f]
    · simp [a,c]
  · simp [a]
theorem qw1 (v : Qa) (n : Int) : J7 v n = some (decide ((n≤v.X∧n≤v.Y∧n≤v.Z)∧v.X≤1000000∧v.Y≤1000000∧v.Z≤1000000)):=by
  unfold J7
  by_cases a : v.X ≥ n <;> by_cases d : v.Y ≥ n <;> by_cases b : v.Z ≥ n <;> by_cases f : v.X≤1000000 <;> by_cases g : v.Y≤1000000 <;> by_cases c : v.Z≤1000000 <;>
    simp [a,d,b,f,g,c] <;> omega
theorem qwb (b : qg) : q9h b = some (decide (vB b)):=by
  unfold q9h vB
  simp only [qw1,qj]
  by_cases a : (-1000000≤b.Lo.X∧-1000000≤b.Lo.Y∧-1000000≤b.Lo.Z)∧b.Lo.X≤1000000∧b.Lo.Y≤1000000∧b.Lo.Z≤1000000
  · rw [Q7 a]
    simp only [Q1,qj]
    by_cases c : (-1000000≤b.Hi.X∧-1000000≤b.Hi.Y∧-1000000≤b.Hi.Z)∧b.Hi.X≤1000000∧b.Hi.Y≤1000000∧b.Hi.Z≤1000000
    · rw [Q7 c]
      by_cases d : b.Lo.X < b.Hi.X <;> by_cases g : b.Lo.Y < b.Hi.Y <;> by_cases f : b.Lo.Z < b.Hi.Z <;> simp [d,g,f] <;> omega
    · rw [Q6 c]
      simp only [qy,qj]
      congr 1
      exact (Q6 q0).symm
  · rw [Q6 a]
    simp only [qy,qj]
    congr 1
    exact (Q6 q0).symm
theorem q11s (l : List qg) (m : l.length≤1000000) : q9p l (fun a=>q3e a) = some (decide (¬ ∀ r∈l,vB r)):=by
  have hs : ∀ (k : Nat) (h : k < l.length),q4i l (fun a=>q3e a) (k : Int) = some (if (fun r=>!decide (vB r)) l[k] = true then .inr (.inr (k : Int)) else .inl ((k + 1 : Nat) : Int)):=by
    intro k h
    simp only [q4i,dlt h,Q1,Qu h,qj,w64s h m,q3e,qnr]
    by_cases j : vB l[k] <;> simp [j]
  have hd : q4i l (fun a=>q3e a) (l.length : Int) = some (.inr (.inl ())):=by simp only [q4i,dnl,qy]
  unfold q9p qd7
  rcases Z8 l (fun r=>!decide (vB r)) (fun k _=>(k : Int)) () _ hs hd with ⟨d,b⟩ | ⟨k,f,c,_,b⟩
  · rw [b]
    have : ∀ r∈l,vB r:=fun r g=>by simpa using d r g
    simp []
    omega
  · rw [b]
    have : ¬ ∀ r∈l,vB r:=fun h=>by simp [h _ (Kv f)] at c
    simp only [qj]
    rw [Q7 this,Q7 q0]
theorem q11r (l : List qg) (m : l.length≤1000000) : q20 l (fun a=>q3d a) = some (decide (¬ ∀ r∈l,vB r)):=by
  have hs : ∀ (k : Nat) (h : k < l.length),q17 l (fun a=>q3d a) (k : Int) = some (if (fun r=>!decide (vB r)) l[k] = true then .inr (.inr (k : Int)) else .inl ((k + 1 : Nat) : Int)):=by
    intro k h
    simp only [q17,dlt h,Q1,Qu h,qj,w64s h m,q3d,qnr]
    by_cases j : vB l[k] <;> simp [j]
  have hd : q17 l (fun a=>q3d a) (l.length : Int) = some (.inr (.inl ())):=by simp only [q17,dnl,qy]
  unfold q20 q9v
  rcases Z8 l (fun r=>!decide (vB r)) (fun k _=>(k : Int)) () _ hs hd with ⟨d,b⟩ | ⟨k,f,c,_,b⟩
  · rw [b]
    have : ∀ r∈l,vB r:=fun r g=>by simpa using d r g
    simp []
    omega
  · rw [b]
    have : ¬ ∀ r∈l,vB r:=fun h=>by simp [h _ (Kv f)] at c
    simp only [qj]
    rw [Q7 this,Q7 q0]
theorem qno (s : Mg qi qg) (a b : Int) (c : List qi) (hl : (s.flat putB).length + c.length≤1000000) :
    q7u (s.flat putB) s.sec (s.done.length : Int) s.hi a b c = some ((addM putB s a b c).sec,((addM putB s a b c).done.length : Int),(addM putB s a b c).hi,(addM putB s a b c).flat putB):=by
  have z : (s.flat putB).length = s.done.length + s.sec.length:=by simp [Mg.flat]
  have d : s.sec.length≤1000000:=by omega
  unfold q7u
  rcases q1d putB s a b c with ⟨m,r,t,q⟩ | ⟨m,q⟩
  · have hb : decide ((c.length : Int) > 0) = true:=Q7 (by have:=List.length_pos_iff.2 m;omega)
    have x : (s.hi == a) = true:=by simpa using t
    rw [r] at hb
    rw [q,r]
    simp only [hb,Q1,x,qj,qez _ _ d,decide_true]
    have:=qc1 (fun v : qg=>({Lo:=v.Lo,Hi:=({X:=v.Hi.X,Y:=v.Hi.Y,Z:=b} : Qa)} : qg)) s.done (s.sec.map (putB s.lo s.hi)) (by simp;omega) (q7v b) (fun k o f w=>by
      have l : (s.done ++ s.sec.map (putB s.lo s.hi)).length = (s.flat putB).length:=rfl
      simp only [q7v,dlt f,Q1,Qu f,qj,w64s f q0,Int.toNat_natCast]) (fun o=>by simp only [q7v,dnl,qy])
    rw [show s.flat putB = s.done ++ s.sec.map (putB s.lo s.hi) from rfl,this]
    simp only [qj,Mg.flat,List.map_map]
    rfl
  · rw [q]
    have y : ((cond (decide ((c.length : Int) > 0)) (some (s.hi == a)) (some false)).bind fun g=>(cond g ((q6t s.sec c).bind fun j=>some j) (some false))) = some false:=by
      by_cases l : c = []
      · subst l;simp
      · have hb : decide ((c.length : Int) > 0) = true:=Q7 (by have:=List.length_pos_iff.2 l;omega)
        simp only [hb,Q1,qj,qez _ _ d]
        by_cases n : s.hi = a
        · have u : s.sec≠c:=fun h=>m ⟨l,h.symm,n⟩
          simp [n,u]
        · have : (s.hi == a) = false:=by simpa using n
          simp [this]
    have p:=q92 c (putB a b) (s.flat putB) (fun o=>(c,((s.flat putB).length : Int),b,o)) (q7w c a b (s.flat putB)) (fun k f o w=>by
      simp only [q7w,dlt f,Q1,Qu f,qj,w64s f q0]
      rw [Y7 (by simp;omega)]
      rfl) (fun o=>by simp only [q7w,dnl,qy])
    rw [← Option.bind_assoc,y]
    simp only [qj,qy,p]
    simp [Mg.flat]
theorem qhl (l : List qg) (o : List Int) (g : l.length≤400) (f : o.length≤10000) : loop (q24 l) (0,o) = some (o ++ zsOf l):=
  Jt l q0 (fun r=>[r.Lo.Z,r.Hi.Z]) o (fun o=>o) (q24 l) (fun k b c a=>by
    have d : c.length = o.length + 2 * k:=by
      rw [a,List.length_append];have:=Zx (l.take k);rw [List.length_take,Nat.min_eq_left q0] at this
      unfold zsOf at this;omega
    simp only [q24,dlt b,Q1,Qu b,qj,w64s b q0]
    rw [Y7 (by simp;omega)]
    rfl) (fun o=>by simp only [q24,dnl,qy])
theorem q58 (l : List qg) (g : l.length≤400) (x : Int) : loop (q25 l x) (0,[]) = some (atB l x):=by
  have:=Jt l q0 (fun r=>if covB x r = true then [Jj r] else []) [] (fun o=>o) (q25 l x) (fun k b o d=>by
    have f : o.length≤k:=by rw [d,List.nil_append];have:=U8 (l.take k) x;rw [List.length_take,Nat.min_eq_left q0] at this;exact this
    simp only [q25,dlt b,Q1,Qu b,qj,w64s b q0]
    by_cases a : l[k].Lo.Z≤x
    · by_cases c : x < l[k].Hi.Z
      · simp only [a,c,decide_true,Q1,qj,covB,Bool.and_self,if_true]
        rw [Y7 (by simp;omega)]
        rfl
      · simp only [a,c,decide_true,decide_false,Q1,qy,qj,covB,Bool.and_false,if_false,Bool.false_eq_true,List.append_nil]
    · simp only [a,decide_false,qy,qj,covB,Bool.false_and,if_false,Bool.false_eq_true,List.append_nil]) (fun o=>by simp only [q25,dnl,qy])
  rw [List.nil_append] at this
  exact this
theorem qna {kind : Int} {p q : List qg} {xs : List Int} (ad : Qx (zsOf p ++ zsOf q) = xs) (h : p.length + q.length≤800) (F : Int × List qi × Int × Int × List qg→Option ((Int × List qi × Int × Int × List qg) ⊕ ((List qi × Int × Int × List qg) ⊕ (List qg × Int))))
    (af : ∀ (a b : Int) (k : Nat) (s : Mg qi qg),(s.flat putB).length + 400≤1000000→(h1 : k + 1 < xs.length)→a = xs[k]'(q0)→b = xs[k + 1]'h1→(secB kind p q a).length≤400→
      F (((k + 1 : Nat) : Int),s.sec,(s.done.length : Int),s.hi,s.flat putB) = some (.inl (((k + 1 + 1 : Nat) : Int),(addM putB s a b (secB kind p q a)).sec,((addM putB s a b (secB kind p q a)).done.length : Int),(addM putB s a b (secB kind p q a)).hi,(addM putB s a b (secB kind p q a)).flat putB)))
    (z : ∀ (a : Int) (k : Nat) (s : Mg qi qg),(h1 : k + 1 < xs.length)→a = xs[k]'(q0)→400 < (secB kind p q a).length→
      F (((k + 1 : Nat) : Int),s.sec,(s.done.length : Int),s.hi,s.flat putB) = some (.inr (.inr ([],4))))
    (w : ∀ (k : Nat) (s : Mg qi qg),xs.length≤k + 1→F (((k + 1 : Nat) : Int),s.sec,(s.done.length : Int),s.hi,s.flat putB) = some (.inr (.inl (s.sec,(s.done.length : Int),s.hi,s.flat putB)))) :
    (∃ a b c,loop F (1,[],0,0,[]) = some (.inl (a,b,c,mrgB kind p q)))∨(400 < (mrgB kind p q).length∧loop F (1,[],0,0,[]) = some (.inr ([],4))):=by
  have aj:=Zx p
  have ai:=Zx q
  obtain ⟨_,ag,d⟩:=Jy (l:=zsOf p ++ zsOf q) (by simp;omega)
  have d : (Qx (zsOf p ++ zsOf q)).length≤1600:=by simp at d;omega
  have m : ∀ x,(secB kind p q x).length≤(mrgB kind p q).length:=fun x=>qn3 kind q0 x
  have ae : mrgB kind p q = (K1 putB Qz (Yx (Qx (zsOf p ++ zsOf q)) (secB kind p q))).flat putB:=rfl
  rw [ae] at m ⊢
  rw [ad] at ag d m ⊢
  generalize v : Yx xs (secB kind p q) = steps at m ⊢
  have an : steps.length = xs.length - 1:=by rw [← v];exact q83 _ _
  have r : ∀ k (g : k < steps.length),steps[k] = (xs[k]'(q0),xs[k + 1]'(q0),secB kind p q (xs[k]'(q0))):=fun k g=>by subst v;exact q82 g q0
  have ac : ∀ k,k≤steps.length→(∀ j,j < k→∀ t,steps[j]? = some t→t.2.2.length≤400)→((K1 putB Qz (steps.take k)).flat putB).length≤1600 * 400:=fun k g n=>by
    have h1:=qc2 putB (s0:=Qz) (M:=400) (steps:=steps.take k) (fun t u=>by
      obtain ⟨i,hi,rfl⟩:=List.getElem_of_mem u
      rw [List.length_take] at hi
      rw [List.getElem_take]
      exact n i q0 _ (List.getElem?_eq_getElem q0))
    have y : (steps.take k).length≤1600:=by rw [List.length_take];omega
    have h3 : (Qz.flat putB : List qg).length = 0:=rfl
    have h4 : (steps.take k).length * 400≤1600 * 400:=Nat.mul_le_mul_right _ y
    omega
  have main:=qcc (f:=F) (fun k=>(((k + 1 : Nat) : Int),(K1 putB Qz (steps.take k)).sec,((K1 putB Qz (steps.take k)).done.length : Int),(K1 putB Qz (steps.take k)).hi,(K1 putB Qz (steps.take k)).flat putB))
    steps.length (fun j=>∀ t,steps[j]? = some t→t.2.2.length≤400) (.inl ((K1 putB Qz steps).sec,((K1 putB Qz steps).done.length : Int),(K1 putB Qz steps).hi,(K1 putB Qz steps).flat putB)) (.inr ([],4))
    (fun k g n=>by
      have o : k + 1 < xs.length:=by omega
      have hc:=n k (Nat.le_refl _) _ (List.getElem?_eq_getElem g)
      have hm:=ac k q0 fun j al=>n j q0
      rw [q3s putB g,r k g] at *
      simp only at hc
      exact af _ _ k (K1 putB Qz (steps.take k)) q0 o rfl rfl hc)
    (fun k g n hb=>by
      have o : k + 1 < xs.length:=by omega
      have ao : k < xs.length:=by omega
      refine z _ k (K1 putB Qz (steps.take k)) o rfl ?_
      refine Nat.lt_of_not_le fun h=>hb fun t u=>?_
      rw [List.getElem?_eq_getElem g,r k g] at u
      cases u;exact h)
    (fun _=>by
      rw [List.take_length]
      exact w steps.length _ q0)
  have ab : ((((0 + 1 : Nat) : Int),(K1 putB Qz (steps.take 0)).sec,((K1 putB Qz (steps.take 0)).done.length : Int),(K1 putB Qz (steps.take 0)).hi,(K1 putB Qz (steps.take 0)).flat putB) : Int × List qi × Int × Int × List qg) = (1,[],0,0,[]):=rfl
  rw [ab] at main
  rcases main with ⟨_,y⟩ | ⟨j,n,hb,y⟩
  · exact .inl ⟨_,_,_,y⟩
  · refine .inr ⟨?_,y⟩
    have am : j < xs.length:=by omega
    have h5 : 400 < (secB kind p q xs[j]).length:=by
      refine Nat.lt_of_not_le fun h=>hb fun t u=>?_
      rw [List.getElem?_eq_getElem n,r j n] at u
      cases u;exact h
    exact Nat.lt_of_lt_of_le h5 (m xs[j])
theorem qmu (l : List qg) (t : l.length≤400) (v : ∀ b∈l,vB b) : q7z l = some (if 400 < (mrgB 2 l []).length then ([],4) else (mrgB 2 l [],0)):=by
  unfold q7z
  have w:=Zx l
  simp only [show idx [l] 0 = some l from rfl,qj,qhl l [] t qe,List.nil_append]
  rw [qh0 _ q0]
  simp only [qj]
  have m : zsOf l = zsOf l ++ zsOf []:=by simp [zsOf]
  obtain ⟨_,y,d⟩:=Jy (l:=zsOf l ++ zsOf []) (by rw [← m];omega)
  have d : (Qx (zsOf l ++ zsOf [])).length≤800:=by rw [← m] at d ⊢;omega
  have g : ∀ z,q1x (atB l z) = some (if 400 < (secB 2 l [] z).length then ([],4) else (secB 2 l [] z,0)):=fun z=>by
    have:=U8 l z
    rw [qmh,mkR,qp q0,qq (qoq v z)];rfl
  rw [m]
  have:=qna (kind:=2) (p:=l) (q:=[]) rfl (by simp;omega) (q4u (Qx (zsOf l ++ zsOf [])) l)
    (fun a b k s hs f o hb u=>by
      have h0 : k < (Qx (zsOf l ++ zsOf [])).length:=by omega
      have n : idx (Qx (zsOf l ++ zsOf [])) (w64 (((k + 1 : Nat) : Int) - 1)) = some a:=by rw [Qm q0,o];exact J4 q0 q0
      have x : idx (Qx (zsOf l ++ zsOf [])) ((k + 1 : Nat) : Int) = some b:=by rw [hb];exact Qu f
      have h:=g a
      rw [qp q0] at h
      simp only [q4u,dlt f,Q1,n,x,qj,show idx [l] 0 = some l from rfl,q58 l t,h,show ((0 : Int) != 0) = false from rfl,qy,qno s a b (secB 2 l [] a) q0]
      rw [w64s f q0])
    (fun a k s f o u=>by
      have n : idx (Qx (zsOf l ++ zsOf [])) (w64 (((k + 1 : Nat) : Int) - 1)) = some a:=by rw [Qm q0,o];exact J4 q0 q0
      have h:=g a
      rw [qq u] at h
      simp only [q4u,dlt f,Q1,n,Qu f,qj,show idx [l] 0 = some l from rfl,q58 l t,h,show ((4 : Int) != 0) = true from rfl])
    (fun k s f=>by
      have : decide (((k + 1 : Nat) : Int) < ((Qx (zsOf l ++ zsOf [])).length : Int)) = false:=Q6 q0
      simp only [q4u,this,qy])
  rcases this with ⟨a,b,c,r⟩ | ⟨j,r⟩
  · rw [r]
    simp only [qj]
    by_cases j : 400 < (mrgB 2 l []).length
    · rw [Q7 (by omega : ((mrgB 2 l []).length : Int) > 400),qq j];rfl
    · rw [Q6 (by omega : ¬ ((mrgB 2 l []).length : Int) > 400),qp j];rfl
  · rw [r,qq j];rfl
theorem q11n (l : List qg) : qap l = some (mkB l):=by
  unfold qap mkB
  by_cases b : 400 < l.length
  · rw [Q7 (by omega : (l.length : Int) > 400),Q1,qq b]
  rw [Q6 (by omega : ¬ (l.length : Int) > 400),qy,qp b,q11s l q0,qj]
  by_cases a : ∀ r∈l,vB r
  · rw [Q6 (fun h=>h a),qy,qmu l q0 a,qq a];rfl
  · rw [Q7 a,Q1,qp a]
theorem qrf (p q : List qg) (a : p.length≤1000000) : qd5 p q = some (decide (p = q)):=sameBox p q a
theorem qdf (l : List qg) : q23 l = some (K0 l):=by
  unfold q23 K0
  by_cases d : 400 < l.length
  · rw [Q7 (by omega : (l.length : Int) > 400),Q1,qq d]
  rw [Q6 (by omega : ¬ (l.length : Int) > 400),qy,qp d,q11r l q0,qj]
  by_cases a : ∀ r∈l,vB r
  · rw [Q6 (fun h=>h a),qy,qmu l q0 a,qq a,qj]
    by_cases b : 400 < (mrgB 2 l []).length
    · have c : mrgB 2 l []≠l:=fun h=>by rw [h] at b;exact d b
      rw [qq b,qp c];rfl
    · rw [qp b]
      simp only [qrf (mrgB 2 l []) l q0]
      by_cases f : mrgB 2 l [] = l <;> simp [f]
  · rw [Q7 a,Q1,qp a]
end Go.Sh
namespace Go.Sh
open Go Go.Am
theorem sj1 : qdh = q24:=rfl
theorem sj2 : qdi = q24:=rfl
theorem sj4 : qdj = q25:=rfl
theorem sj5 : qdk = q25:=rfl
theorem qel {p : List qg} (h : K0 p = 0) (z : Int) : Yn (atB p z) = 0:=by
  obtain ⟨c,a,b⟩:=Yd.1 h
  have:=U8 p z
  exact q8l.2 ⟨q0,qoq a z,b.at z⟩
theorem qch {p : List qg} (h : K0 p = 0) (z : Int) : q1x (atB p z) = some (atB p z,0):=by
  obtain ⟨c,a,b⟩:=q8l.1 (qel h z)
  rw [qmh,mkR,qp q0,qq a,qlh q0 b,qp q0]
theorem qx7 (kind : Int) (g : List qi→List qi→Option (List qi × Int)) (x : ∀ a b,g a b = some (jR kind a b)) (p q : List qg) (hp : K0 p = 0) (j : K0 q = 0) :
    qas g p q = some (if 400 < (mrgB kind p q).length then ([],4) else (mrgB kind p q,0)):=by
  obtain ⟨r,vp,cp⟩:=Yd.1 hp
  obtain ⟨t,vq,cq⟩:=Yd.1 j
  unfold qas
  have ab:=Zx p
  have aa:=Zx q
  simp only [show idx [p,q] 0 = some p from rfl,show idx [p,q] 1 = some q from rfl,qj,sj1,sj2,qhl p [] r qe,List.nil_append,qhl q (zsOf p) t q0]
  rw [qh0 _ (by simp;omega)]
  simp only [qj]
  obtain ⟨_,ac,d⟩:=Jy (l:=zsOf p ++ zsOf q) (by simp;omega)
  have d : (Qx (zsOf p ++ zsOf q)).length≤1600:=by simp at d;omega
  have v : ∀ z,g (atB p z) (atB q z) = some (if 400 < (secB kind p q z).length then ([],4) else (secB kind p q z,0)):=fun z=>by
    rw [x,jR,qp (by simp [qel hp z]),qp (by simp [qel j z])];rfl
  have:=qna (kind:=kind) (p:=p) (q:=q) rfl q0 (q4t (Qx (zsOf p ++ zsOf q)) p q g)
    (fun a b k s hs f o hb w=>by
      have h0 : k < (Qx (zsOf p ++ zsOf q)).length:=by omega
      have n : idx (Qx (zsOf p ++ zsOf q)) (w64 (((k + 1 : Nat) : Int) - 1)) = some a:=by rw [Qm q0,o];exact J4 q0 q0
      have y : idx (Qx (zsOf p ++ zsOf q)) ((k + 1 : Nat) : Int) = some b:=by rw [hb];exact Qu f
      have h:=v a
      rw [qp q0] at h
      simp only [q4t,dlt f,Q1,n,y,qj,show idx [p,q] 0 = some p from rfl,show idx [p,q] 1 = some q from rfl,sj4,sj5,q58 p r,q58 q t,qch hp,qch j,show ((0 : Int) == 0) = true from rfl,h,show ((0 : Int) != 0) = false from rfl,qy,qno s a b (secB kind p q a) q0]
      rw [w64s f q0])
    (fun a k s f o w=>by
      have n : idx (Qx (zsOf p ++ zsOf q)) (w64 (((k + 1 : Nat) : Int) - 1)) = some a:=by rw [Qm q0,o];exact J4 q0 q0
      have h:=v a
      rw [qq w] at h
      simp only [q4t,dlt f,Q1,n,Qu f,qj,show idx [p,q] 0 = some p from rfl,show idx [p,q] 1 = some q from rfl,sj4,sj5,q58 p r,q58 q t,qch hp,qch j,show ((0 : Int) == 0) = true from rfl,h,show ((4 : Int) != 0) = true from rfl])
    (fun k s f=>by
      have : decide (((k + 1 : Nat) : Int) < ((Qx (zsOf p ++ zsOf q)).length : Int)) = false:=Q6 q0
      simp only [q4t,this,qy])
  rcases this with ⟨a,b,c,u⟩ | ⟨m,u⟩
  · rw [u]
    simp only [qj]
    by_cases m : 400 < (mrgB kind p q).length
    · rw [Q7 (by omega : ((mrgB kind p q).length : Int) > 400),qq m];rfl
    · rw [Q6 (by omega : ¬ ((mrgB kind p q).length : Int) > 400),qp m];rfl
  · rw [u,qq m];rfl
theorem qso (kind : Int) (g : List qi→List qi→Option (List qi × Int)) (d : ∀ a b,g a b = some (jR kind a b)) (p q : List qg) : qar p q g = some (jB kind p q):=by
  unfold qar jB
  simp only [qdf,qj]
  by_cases hp : ¬ K0 p = 0
  · rw [qq hp]
    have : (K0 p != 0) = true:=by simpa using hp
    rw [this,Q1]
  replace hp:=Classical.not_not.1 hp
  by_cases c : ¬ K0 q = 0
  · rw [qp (by simp [hp]),qq c,hp]
    have : (K0 q != 0) = true:=by simpa using c
    rw [this];rfl
  replace c:=Classical.not_not.1 c
  rw [qp (by simp [hp]),qp (by simp [c]),qx7 kind g d p q hp c,hp,c]
  rfl
theorem qnm (p q : List qg) : q7s p q = some (jB 2 p q):=by
  unfold q7s;rw [qso 2 _ (fun a b=>qwk a b)];rfl
def q55 (kind : Int) (p q : List qg) (z : Int) : Prop:=400 < (secB kind p q z).length∨400 < (secB 2 p [] z).length∨400 < (secB 2 q [] z).length
theorem qsr (kind : Int) {p q : List qg} (h : p.length + q.length≤800) (j : ∀ z,(atB p z).length + (atB q z).length≤490) {xs : List Int} (r : xs.length≤1000000) {i : Nat} (hi : i + 1 < xs.length) (hb : q55 kind p q (xs[i]'(q0))) (a : Int) (c : List qi) (o : List qg) :
    q1w xs p q kind (c,a,(i : Int),o) = some (.inr (.inr ([],false))):=by
  have b : i < xs.length:=by omega
  have l : w64 ((i : Int) + 1) = ((i + 1 : Nat) : Int):=w64s b r
  have v:=U8 p xs[i]
  have y:=U8 q xs[i]
  have w:=j xs[i]
  have u : U3 p xs[i] = some (atB p xs[i]):=qcr p q0 _
  have aq : U3 q xs[i] = some (atB q xs[i]):=qcr q q0 _
  have n : Ji kind (atB p xs[i]) (atB q xs[i]) = some (secB kind p q xs[i]):=q61 kind q0
  have g : Ji 2 (atB p xs[i]) [] = some (secB 2 p [] xs[i]):=q61 2 (by simp;omega)
  have k : Ji 2 (atB q xs[i]) [] = some (secB 2 q [] xs[i]):=q61 2 (by simp;omega)
  unfold q1w
  simp only [l,dlt hi,Q1,Qu b,u,aq,n,g,k,qj]
  by_cases m : 400 < (secB kind p q xs[i]).length
  · have d : decide (((secB kind p q xs[i]).length : Int) > 400) = true:=Q7 q0
    simp only [d,Q1,qj]
  have d : decide (((secB kind p q xs[i]).length : Int) > 400) = false:=Q6 q0
  by_cases t : 400 < (secB 2 p [] xs[i]).length
  · have f : decide (((secB 2 p [] xs[i]).length : Int) > 400) = true:=Q7 q0
    simp only [d,f,Q1,qy,qj]
  have f : decide (((secB 2 p [] xs[i]).length : Int) > 400) = false:=Q6 q0
  have x : 400 < (secB 2 q [] xs[i]).length:=by rcases hb with h | h | h <;> first | exact absurd h m | exact absurd h t | exact h
  have s : decide (((secB 2 q [] xs[i]).length : Int) > 400) = true:=Q7 q0
  simp only [d,f,s,Q1,qy,qj]
theorem qwa (kind : Int) {p q : List qg} (h : p.length + q.length≤800) (hz : ∀ z,(atB p z).length + (atB q z).length≤490) :
    q4e kind p q = some (mrgB kind p q,decide (((mrgB kind p q).length : Int)≤400))∨(q4e kind p q = some ([],false)∧∃ z,q55 kind p q z):=by
  unfold q4e
  rw [qw6 q0]
  simp only [qj]
  have ae:=Zx p
  have ad:=Zx q
  obtain ⟨_,ak,o⟩:=Jy (l:=zsOf p ++ zsOf q) (by simp;omega)
  have y : (Qx (zsOf p ++ zsOf q)).length≤1600:=by simp at o;omega
  unfold mrgB
  generalize Qx (zsOf p ++ zsOf q) = xs at y ⊢
  generalize r : Yx xs (secB kind p q) = steps
  have ah : steps.length = xs.length - 1:=by rw [← r];exact q83 _ _
  have a : ∀ k (b : k < steps.length),steps[k] = (xs[k]'(q0),xs[k + 1]'(q0),secB kind p q (xs[k]'(q0))):=fun k b=>by subst r;exact q82 b q0
  have x : ∀ k,k≤steps.length→(∀ j,j < k→∀ t,steps[j]? = some t→¬ q55 kind p q t.1)→((K1 putB Qz (steps.take k)).flat putB).length≤1600 * 400:=fun k b g=>by
    have h1:=qc2 putB (s0:=Qz) (M:=400) (steps:=steps.take k) (fun t d=>by
      obtain ⟨i,hi,rfl⟩:=List.getElem_of_mem d
      rw [List.length_take] at hi
      rw [List.getElem_take]
      have:=g i q0 _ (List.getElem?_eq_getElem q0)
      rw [a i q0] at this ⊢
      exact Nat.le_of_not_lt fun h=>this (.inl h))
    have s : (steps.take k).length≤1600:=by rw [List.length_take];omega
    have h3 : (Qz.flat putB : List qg).length = 0:=rfl
    have h4 : (steps.take k).length * 400≤1600 * 400:=Nat.mul_le_mul_right _ s
    omega
  have main:=qcc (f:=q1w xs p q kind) (fun k=>((K1 putB Qz (steps.take k)).sec,((K1 putB Qz (steps.take k)).done.length : Int),(k : Int),(K1 putB Qz (steps.take k)).flat putB))
    steps.length (fun j=>∀ t,steps[j]? = some t→¬ q55 kind p q t.1) (.inl ((K1 putB Qz steps).flat putB)) (.inr ([],false)) (fun k b g=>by
      have c : k + 1 < xs.length:=by omega
      have u:=g k (Nat.le_refl _) _ (List.getElem?_eq_getElem b)
      have hm:=x k q0 fun j af=>g j q0
      rw [a k b] at u
      have n : qhn kind p q xs[k]:=by
        refine ⟨hz _,?_,?_,?_⟩
        · exact Nat.le_of_not_lt fun h=>u (.inl h)
        · exact Nat.le_of_not_lt fun h=>u (.inr (.inl h))
        · exact Nat.le_of_not_lt fun h=>u (.inr (.inr h))
      have:=qss kind q0 (xs:=xs) q0 c n (K1 putB Qz (steps.take k)) q0 (fun h0=>by subst h0;rfl) (fun aa=>by
        obtain ⟨m,rfl⟩ : ∃ m,k = m + 1:=⟨k - 1,q0⟩
        rw [q3s putB q0,qhp,a m q0])
      rw [this,q3s putB b,a k b])
    (fun k b _ hb=>by
      have c : k + 1 < xs.length:=by omega
      have aj : k < xs.length:=by omega
      refine qsr kind h hz q0 c ?_ _ _ _
      refine Classical.byContradiction fun v=>hb fun t d=>?_
      rw [List.getElem?_eq_getElem b,a k b] at d
      cases d;exact v)
    (fun _=>by
      rw [List.take_length]
      have hb : decide (w64 ((steps.length : Int) + 1) < (xs.length : Int)) = false:=by
        rw [Qm q0];exact Q6 q0
      unfold q1w
      simp only [hb,qy])
  have w : (((K1 putB Qz (steps.take 0)).sec,((K1 putB Qz (steps.take 0)).done.length : Int),((0 : Nat) : Int),(K1 putB Qz (steps.take 0)).flat putB) : List qi × Int × Int × List qg) = ([],0,0,[]):=rfl
  rw [w] at main
  rcases main with ⟨h1,s⟩ | ⟨j,g,hb,s⟩
  · exact .inl (by rw [s];rfl)
  · refine .inr ⟨by rw [s];rfl,?_⟩
    have ag : j < xs.length:=by omega
    refine ⟨xs[j],?_⟩
    refine Classical.byContradiction fun v=>hb fun t d=>?_
    rw [List.getElem?_eq_getElem g,a j g] at d
    cases d;exact v
theorem qpd {p q : List qg} (h : p.length + q.length≤490) (z : Int) : (atB p z).length + (atB q z).length≤490:=by
  have b:=U8 p z
  have a:=U8 q z
  omega
theorem qyf (kind : Int) (z : Int) : secB kind [] [] z = []:=qg3 kind
theorem qw8 (kind : Int) {p q : List qg} (h : p.length + q.length≤800) (a : ∀ z,(atB p z).length + (atB q z).length≤490) (hs : ∀ z,q55 kind p q z→400 < (mrgB kind p q).length) :
    ∃ o,q4e kind p q = some (o,decide ((mrgB kind p q).length≤400))∧((mrgB kind p q).length≤400→o = mrgB kind p q):=by
  rcases qwa kind h a with b | ⟨b,z,a⟩
  · refine ⟨_,?_,fun _=>rfl⟩
    rw [b]
    have : decide (((mrgB kind p q).length : Int)≤400) = decide ((mrgB kind p q).length≤400):=decide_eq_decide.2 q0
    rw [this]
  · have:=hs z a
    refine ⟨[],?_,fun h=>absurd h q0⟩
    rw [b,Q6 q0]
theorem qyj {l : List qg} (h : l.length≤100000) : ∀ z,q55 2 l [] z→400 < (mrgB 2 l []).length:=by
  intro z a
  have b:=qn3 2 (p:=l) (q:=[]) (by simpa using h) z
  rcases a with a | a | a
  · omega
  · omega
  · rw [qyf] at a;simp at a
theorem qwd (l : List qg) (n : l.length≤1000000) {γ : Type} (f : Int→Option (Int ⊕ (Unit ⊕ γ))) (e : γ) (m : ∀ k (h : k < l.length),f (k : Int) = some (if (fun r=>!decide (vB r)) l[k] = true then .inr (.inr e) else .inl ((k + 1 : Nat) : Int))) (hd : f (l.length : Int) = some (.inr (.inl ()))) :
    loop f 0 = some (if ∀ b∈l,vB b then .inl () else .inr e):=by
  rcases Z8 l (fun r=>!decide (vB r)) (fun k _=>e) () f m hd with ⟨d,a⟩ | ⟨k,g,c,_,a⟩
  · have : ∀ r∈l,vB r:=fun r j=>by simpa using d r j
    rw [qq this];exact a
  · have : ¬ ∀ r∈l,vB r:=fun h=>by simp [h _ (Kv g)] at c
    rw [qp this];exact a
theorem qw4 (l : List qg) : q9f l = some (K0 l):=by
  unfold q9f K0
  by_cases d : 400 < l.length
  · rw [Q7 (by omega : (l.length : Int) > 400),Q1,qq d]
  rw [Q6 (by omega : ¬ (l.length : Int) > 400),qy,qp d]
  rw [qwd l q0 (q67 l) 8 (fun k b=>by
    simp only [q67,dlt b,Q1,Qu b,qj,qwb,w64s b q0]
    by_cases a : vB l[k] <;> simp [a]) (by simp only [q67,dnl,qy])]
  by_cases a : ∀ r∈l,vB r
  · rw [qq a,qq a]
    obtain ⟨o,j,m⟩:=qw8 2 (p:=l) (q:=[]) (by simp;omega) (qpd (by simp;omega)) (qyj q0)
    simp only [qj,j]
    by_cases f : 400 < (mrgB 2 l []).length
    · have c : mrgB 2 l []≠l:=fun h=>by rw [h] at f;exact d f
      rw [Q6 q0,qp c];rfl
    · rw [Q7 q0,m q0,sameBox _ l q0]
      by_cases g : mrgB 2 l [] = l <;> simp [g]
  · rw [qp a,qp a];rfl
end Go.Sh
namespace Go.Sh
open Go Go.Am
def sumN : Nat→(Int→Int)→Int
  | 0,_=>0
  | n + 1,f=>sumN n f + f n
theorem qo7 {f g : Int→Int} : ∀ {n : Nat},sumN n (fun x=>f x + g x) = sumN n f + sumN n g
  | 0=>rfl
  | n + 1=>by rw [sumN,sumN,sumN,qo7 (n:=n)];omega
theorem qoa {c : Int} {f : Int→Int} : ∀ {n : Nat},sumN n (fun x=>c * f x) = c * sumN n f
  | 0=>by simp [sumN]
  | n + 1=>by rw [sumN,sumN,qoa (n:=n),Int.mul_add]
theorem qob : ∀ {n : Nat},sumN n (fun _=>0) = 0
  | 0=>rfl
  | n + 1=>by rw [sumN,qob (n:=n)];rfl
theorem qo9 {f g : Int→Int} : ∀ {n : Nat},(∀ k : Nat,k < n→f k≤g k)→sumN n f≤sumN n g
  | 0,_=>Int.le_refl _
  | n + 1,h=>by have:=qo9 (n:=n) fun k a=>h k q0;have:=h n q0;rw [sumN,sumN];omega
noncomputable def ind (p : Prop) : Int:=by classical exact if p then 1 else 0
theorem qc9 {p : Prop} (h : p) : ind p = 1:=by unfold ind;simp [h]
theorem Ug {p : Prop} (h : ¬ p) : ind p = 0:=by unfold ind;simp [h]
theorem q5i {p q : Prop} (h : p↔q) : ind p = ind q:=by rw [propext h]
theorem qkn {p q : Prop} : ind (p∧q) = ind p * ind q:=by
  by_cases hp : p <;> by_cases a : q
  · rw [qc9 ⟨hp,a⟩,qc9 hp,qc9 a];rfl
  · rw [Ug (fun h=>a h.2),Ug a];simp
  · rw [Ug (fun h=>hp h.1),Ug hp];simp
  · rw [Ug (fun h=>hp h.1),Ug hp];simp
theorem qsg {p q : Prop} : ind (p∨q) = ind p + ind q - ind (p∧q):=by
  by_cases hp : p <;> by_cases a : q <;> simp [ind,hp,a]
theorem qko {p : Prop} : 0≤ind p∧ind p≤1:=by by_cases hp : p <;> simp [ind,hp]
theorem qo8 (a b : Int) : ∀ {n : Nat},sumN n (fun x=>ind (a≤x∧x < b)) = max 0 (min b n - max a 0)
  | 0=>by rw [sumN];omega
  | n + 1=>by
    rw [sumN,qo8 a b (n:=n)]
    by_cases h : a≤(n : Int)∧(n : Int) < b
    · rw [qc9 h];omega
    · rw [Ug h];omega
def sumZ (N : Nat) (f : Int→Int) : Int:=sumN (2 * N) fun k=>f (k - N)
theorem q12m {N : Nat} {f g : Int→Int} : sumZ N (fun x=>f x + g x) = sumZ N f + sumZ N g:=qo7
theorem qb2 {N : Nat} {c : Int} {f : Int→Int} : sumZ N (fun x=>c * f x) = c * sumZ N f:=qoa
theorem qoc {N : Nat} : sumZ N (fun _=>0) = 0:=qob
theorem qdp {N : Nat} {f g : Int→Int} (h : ∀ x : Int,-(N : Int)≤x→x < N→f x≤g x) : sumZ N f≤sumZ N g:=
  qo9 fun k a=>h _ q0 q0
theorem qh5 {N : Nat} {a b : Int} (c : -N≤a) (f : a≤b) (d : b≤N) : sumZ N (fun x=>ind (a≤x∧x < b)) = b - a:=by
  unfold sumZ
  have : (fun k : Int=>ind (a≤k - N∧k - N < b)) = fun k=>ind (a + N≤k∧k < b + N):=by
    funext k;exact q5i ⟨fun h=>q0,fun h=>q0⟩
  simp only [this]
  rw [qo8];omega
theorem qh6 {N : Nat} {f : Int→Int} (h : ∀ x : Int,-(N : Int)≤x→x < N→0≤f x) : 0≤sumZ N f:=by
  rw [← qoc (N:=N)];exact qdp h
theorem qh4 {N : Nat} {c : Int} : sumZ N (fun _=>c) = 2 * N * c:=by
  have : ∀ n : Nat,sumN n (fun _=>c) = n * c:=by
    intro n
    induction n with
    | zero=>simp [sumN]
    | succ n ih=>rw [sumN,ih,Int.natCast_succ,Int.add_mul,Int.one_mul]
  unfold sumZ;rw [this];simp
noncomputable def cnt3 (N : Nat) (P : Int→Int→Int→Prop) : Int:=sumZ N fun x=>sumZ N fun y=>sumZ N fun z=>ind (P x y z)
def sumL {α : Type} (f : α→Int) : List α→Int
  | []=>0
  | a::r=>f a + sumL f r
theorem qo6 {α : Type} (f : α→Int) (a b : List α) : sumL f (a ++ b) = sumL f a + sumL f b:=by
  induction a with
  | nil=>simp [sumL]
  | cons x a ih=>rw [List.cons_append,sumL,sumL,ih];omega
theorem q12l {α : Type} {f g : α→Int} {l : List α} (h : ∀ a∈l,f a = g a) : sumL f l = sumL g l:=by
  induction l with
  | nil=>rfl
  | cons a l ih=>rw [sumL,sumL,h a qe,ih fun b hb=>h b (by simp [hb])]
theorem qh3 {α : Type} {N : Nat} (f : α→Int→Int) (l : List α) : sumL (fun a=>sumZ N (f a)) l = sumZ N fun x=>sumL (fun a=>f a x) l:=by
  induction l with
  | nil=>exact qoc.symm
  | cons a l ih=>
    have : (fun x=>sumL (fun a=>f a x) (a::l)) = fun x=>f a x + (fun x=>sumL (fun a=>f a x) l) x:=rfl
    rw [sumL,ih,this,q12m]
def inB (b : qg) (x y z : Int) : Prop:=(b.Lo.X≤x∧x < b.Hi.X)∧(b.Lo.Y≤y∧y < b.Hi.Y)∧(b.Lo.Z≤z∧z < b.Hi.Z)
def inR (r : qi) (x y : Int) : Prop:=(r.X0≤x∧x < r.X1)∧(r.Y0≤y∧y < r.Y1)
def inS (t : qk) (x : Int) : Prop:=t.Lo≤x∧x < t.Hi
def volB (b : qg) : Int:=(b.Hi.X - b.Lo.X) * (b.Hi.Y - b.Lo.Y) * (b.Hi.Z - b.Lo.Z)
theorem q13g {N : Nat} {b : qg} (h : (b.Lo.X≤b.Hi.X∧b.Lo.Y≤b.Hi.Y∧b.Lo.Z≤b.Hi.Z)∧(-(N : Int)≤b.Lo.X∧-(N : Int)≤b.Lo.Y∧-(N : Int)≤b.Lo.Z)∧b.Hi.X≤N∧b.Hi.Y≤N∧b.Hi.Z≤N) :
    volB b = cnt3 N (inB b):=by
  obtain ⟨⟨c,j,d⟩,⟨k,m,f⟩,g,a,n⟩:=h
  unfold cnt3
  have e : ∀ x y,(sumZ N fun z=>ind (inB b x y z)) = ind (b.Lo.X≤x∧x < b.Hi.X) * (ind (b.Lo.Y≤y∧y < b.Hi.Y) * (b.Hi.Z - b.Lo.Z)):=fun x y=>by
    have : (fun z=>ind (inB b x y z)) = fun z=>ind (b.Lo.X≤x∧x < b.Hi.X) * (ind (b.Lo.Y≤y∧y < b.Hi.Y) * ind (b.Lo.Z≤z∧z < b.Hi.Z)):=by
      funext z;unfold inB;rw [qkn (p:=_∧_) (q:=(_∧_)∧_),qkn (p:=_∧_) (q:=_∧_)]
    rw [this,qb2,qb2,qh5 f d n]
  have l : ∀ x,(sumZ N fun y=>sumZ N fun z=>ind (inB b x y z)) = ind (b.Lo.X≤x∧x < b.Hi.X) * ((b.Hi.Y - b.Lo.Y) * (b.Hi.Z - b.Lo.Z)):=fun x=>by
    have : (fun y=>sumZ N fun z=>ind (inB b x y z)) = fun y=>ind (b.Lo.X≤x∧x < b.Hi.X) * ((b.Hi.Z - b.Lo.Z) * ind (b.Lo.Y≤y∧y < b.Hi.Y)):=by
      funext y;rw [e,Int.mul_comm (b.Hi.Z - b.Lo.Z)]
    rw [this,qb2,qb2,qh5 m j a,Int.mul_comm (b.Hi.Z - b.Lo.Z)]
  have : (fun x=>sumZ N fun y=>sumZ N fun z=>ind (inB b x y z)) = fun x=>((b.Hi.Y - b.Lo.Y) * (b.Hi.Z - b.Lo.Z)) * ind (b.Lo.X≤x∧x < b.Hi.X):=by
    funext x;rw [l,Int.mul_comm]
  rw [this,qb2,qh5 k c g,volB]
  simp only [Int.mul_assoc,Int.mul_left_comm,Int.mul_comm]
noncomputable def cntS (s : List qk) (y : Int) : Int:=sumL (fun t=>ind (inS t y)) s
noncomputable def cntR (l : List qi) (x y : Int) : Int:=sumL (fun t=>ind (inR t x y)) l
noncomputable def cntB (l : List qg) (x y z : Int) : Int:=sumL (fun t=>ind (inB t x y z)) l
theorem qiu : ∀ {s : List qk},Can s→∀ y,cntS s y = ind (has s y)
  | [],_,y=>by rw [Ug (q1r y)];rfl
  | a::s,h,y=>by
    have b:=qiu h.tail y
    unfold cntS at b ⊢
    rw [sumL,b,q5i (Zv (a:=a) (s:=s) (x:=y)),qsg]
    have : ¬ ((a.Lo≤y∧y < a.Hi)∧has s y):=fun ⟨c,h2⟩=>by have:=h.tail_gt h2;omega
    rw [Ug this];unfold inS;omega
theorem qqu (l : List qi) (x y : Int) : cntR l x y = cntS (covS l x) y:=by
  unfold cntR cntS
  induction l with
  | nil=>rfl
  | cons r l ih=>
    have e : covS (r::l) x = (if covR x r = true then [ysp r] else []) ++ covS l x:=rfl
    rw [sumL,ih,e,qo6]
    congr 1
    by_cases a : covR x r = true
    · rw [qq a]
      have:=q5b.1 a
      simp only [sumL,Int.add_zero]
      exact q5i ⟨fun h=>h.2,fun h=>⟨this,h⟩⟩
    · rw [qp a]
      rw [q5b] at a
      exact Ug fun h=>a h.1
theorem qqt (l : List qg) (x y z : Int) : cntB l x y z = cntR (atB l z) x y:=by
  unfold cntB cntR
  induction l with
  | nil=>rfl
  | cons r l ih=>
    have e : atB (r::l) z = (if covB z r = true then [Jj r] else []) ++ atB l z:=rfl
    rw [sumL,ih,e,qo6]
    congr 1
    by_cases a : covB z r = true
    · rw [qq a]
      have:=q2h.1 a
      simp only [sumL,Int.add_zero]
      exact q5i ⟨fun h=>⟨h.1,h.2.1⟩,fun h=>⟨h.1,h.2,this⟩⟩
    · rw [qp a]
      rw [q2h] at a
      exact Ug fun h=>a h.2.2
theorem CanR.cnt {l : List qi} (h : CanR l) (x y : Int) : cntR l x y = ind (hasR l x y):=by
  rw [qqu,qiu (h.cov x),q5i q13]
theorem CanB.cnt {l : List qg} (h : CanB l) (x y z : Int) : cntB l x y z = ind (hasB l x y z):=by
  rw [qqt,(h.at z).cnt,q5i q3v]
def volL (l : List qg) : Int:=sumL volB l
theorem q13j {N : Nat} {l : List qg} (a : ∀ x y z,cntB l x y z = ind (hasB l x y z)) (h : ∀ b∈l,(b.Lo.X≤b.Hi.X∧b.Lo.Y≤b.Hi.Y∧b.Lo.Z≤b.Hi.Z)∧(-(N : Int)≤b.Lo.X∧-(N : Int)≤b.Lo.Y∧-(N : Int)≤b.Lo.Z)∧b.Hi.X≤N∧b.Hi.Y≤N∧b.Hi.Z≤N) :
    volL l = cnt3 N (hasB l):=by
  unfold volL
  rw [q12l fun b hb=>q13g (h b hb)]
  unfold cnt3
  rw [qh3]
  congr 1;funext x
  rw [qh3]
  congr 1;funext y
  rw [qh3]
  congr 1;funext z
  exact a x y z
theorem q13i {l : List qg} (a : CanB l) (h : ∀ b∈l,vB b) : volL l = cnt3 1000000 (hasB l):=
  q13j a.cnt fun b hb=>by have:=h b hb;unfold vB at this;omega
end Go.Sh
namespace Go.Sh
open Go Go.Am
theorem qjs {α β γ : Type} (l : List α) (b : l.length≤1000000) (g : γ→α→γ) (fin : γ→β) (f : γ × Int→Option ((γ × Int) ⊕ β))
    (hs : ∀ k (h : k < l.length) (s : γ),f (s,(k : Int)) = some (.inl (g s l[k],((k + 1 : Nat) : Int)))) (hd : ∀ s,f (s,(l.length : Int)) = some (.inr (fin s))) (s : γ) :
    loop f (s,0) = some (fin (l.foldl g s)):=by
  have key:=Zw (f:=f) (fun k=>((l.take k).foldl g s,(k : Int))) l.length (fin (l.foldl g s)) (fun k a=>by
    rw [hs k a,List.take_succ_eq_append_getElem a,List.foldl_append];rfl) (by rw [List.take_length,hd]) (Nat.zero_le _)
  exact key
theorem qhe (x : Int) : w64 x = if 9223372036854775808≤x % 18446744073709551616 then x % 18446744073709551616 - 18446744073709551616 else x % 18446744073709551616:=by
  unfold w64 IntKind.wrap
  simp [IntKind.bits,IntKind.signed]
theorem q13n (x y : Int) (h : x % 18446744073709551616 = y % 18446744073709551616) : w64 x = w64 y:=by rw [qhe,qhe,h]
theorem q13o (x : Int) : w64 x % 18446744073709551616 = x % 18446744073709551616:=by rw [qhe];split <;> omega
theorem q13m (a b : Int) : w64 (w64 a + b) = w64 (a + b):=q13n _ _ (by have:=q13o a;omega)
theorem qvp {x y z : Int} (c : 0≤x∧x≤2000000) (b : 0≤y∧y≤2000000) (a : 0≤z∧z≤2000000) : (0≤x * y∧x * y≤4000000000000)∧0≤x * y * z∧x * y * z≤8000000000000000000:=by
  have d : 0≤x * y:=Int.mul_nonneg c.1 b.1
  have g : x * y≤2000000 * 2000000:=Int.mul_le_mul c.2 b.2 b.1 q0
  have f : 0≤x * y * z:=Int.mul_nonneg d a.1
  have h : x * y * z≤4000000000000 * 2000000:=Int.mul_le_mul q0 a.2 a.1 q0
  omega
theorem q13l {b : qg} (h : vB b) : w64 ((w64 ((w64 (b.Hi.X - b.Lo.X)) * (w64 (b.Hi.Y - b.Lo.Y)))) * (w64 (b.Hi.Z - b.Lo.Z))) = volB b:=by
  unfold vB at h
  rw [Qm (x:=b.Hi.X - b.Lo.X) q0,Qm (x:=b.Hi.Y - b.Lo.Y) q0,Qm (x:=b.Hi.Z - b.Lo.Z) q0]
  have:=qvp (x:=b.Hi.X - b.Lo.X) (y:=b.Hi.Y - b.Lo.Y) (z:=b.Hi.Z - b.Lo.Z) q0 q0 q0
  rw [Qm (x:=(b.Hi.X - b.Lo.X) * (b.Hi.Y - b.Lo.Y)) q0,Qm q0];rfl
theorem qjx {α : Type} (f : α→Int) : ∀ (l : List α) (n m : Int),n = w64 m→l.foldl (fun n b=>w64 (n + f b)) n = w64 (m + sumL f l)
  | [],n,m,h=>by simp [sumL,h]
  | b::l,n,m,h=>by
    rw [List.foldl_cons,qjx f l _ (m + f b) (by rw [h,q13m]),sumL,Int.add_assoc]
theorem qjw {α γ : Type} {f g : γ→α→γ} : ∀ {l : List α} {s : γ},(∀ b∈l,∀ s,f s b = g s b)→l.foldl f s = l.foldl g s
  | [],_,_=>rfl
  | b::l,s,h=>by rw [List.foldl_cons,List.foldl_cons,h b qe,qjw fun c a=>h c (by simp [a])]
theorem qqs (N : Nat) (P : Int→Int→Int→Prop) : 0≤cnt3 N P∧cnt3 N P≤2 * N * (2 * N * (2 * N * 1)):=by
  constructor
  · exact qh6 fun x _ _=>qh6 fun y _ _=>qh6 fun z _ _=>qko.1
  · rw [← qh4 (N:=N) (c:=1),← qh4,← qh4]
    exact qdp fun x _ _=>qdp fun y _ _=>qdp fun z _ _=>qko.2
theorem q13h {l : List qg} (h : K0 l = 0) : 0≤volL l∧volL l≤8000000000000000000:=by
  obtain ⟨c,a,b⟩:=Yd.1 h
  rw [q13i b a]
  have:=qqs 1000000 (hasB l)
  omega
noncomputable def volume (l : List qg) : Int × Int:=if K0 l≠0 then (0,K0 l) else (volL l,0)
theorem q13k {l : List qg} (h : K0 l = 0) : l.foldl (fun n b=>w64 (n + w64 ((w64 ((w64 (b.Hi.X - b.Lo.X)) * (w64 (b.Hi.Y - b.Lo.Y)))) * (w64 (b.Hi.Z - b.Lo.Z))))) 0 = volL l:=by
  obtain ⟨c,a,d⟩:=Yd.1 h
  rw [qjw (g:=fun n b=>w64 (n + volB b)) fun b hb s=>by rw [q13l (a b hb)]]
  rw [qjx volB l 0 0 (by rw [Qm q0])]
  have:=q13h h
  rw [Qm (by unfold volL at this;omega),Int.zero_add];rfl
theorem q11p (l : List qg) : qaq l = some (volume l):=by
  unfold qaq volume
  rw [qdf,qj]
  by_cases h : K0 l = 0
  · rw [qp (by simp [h]),h,show ((0 : Int) != 0) = false from rfl,qy]
    have c:=(Yd.1 h).1
    rw [qjs l q0 (fun n b=>w64 (n + w64 ((w64 ((w64 (b.Hi.X - b.Lo.X)) * (w64 (b.Hi.Y - b.Lo.Y)))) * (w64 (b.Hi.Z - b.Lo.Z))))) (fun n=>n) (q7t l) (fun k a s=>by
      simp only [q7t,dlt a,Q1,Qu a,qj,qdg,w64s a q0]) (fun s=>by simp only [q7t,dnl,qy]) 0,q13k h]
    rfl
  · have : (K0 l != 0) = true:=by simpa using h
    rw [qq h,this,Q1]
theorem qfc {b : qg} {l : List qg} {x y z : Int} : hasB (b::l) x y z↔inB b x y z∨hasB l x y z:=by
  constructor
  · rintro ⟨c,a,h⟩
    rcases List.mem_cons.1 a with rfl | a
    · exact .inl h
    · exact .inr ⟨c,a,h⟩
  · rintro (h | ⟨c,a,h⟩)
    · exact ⟨b,qe,h⟩
    · exact ⟨c,by simp [a],h⟩
instance (b : qg) (x y z : Int) : Decidable (inB b x y z):=by unfold inB;infer_instance
instance qr5 : (l : List qg)→(x y z : Int)→Decidable (hasB l x y z)
  | [],x,y,z=>isFalse (q2r x y z)
  | b::l,x,y,z=>by
    have:=qr5 l x y z
    exact decidable_of_iff _ qfc.symm
end Go.Sh
namespace Go.Sh
open Go Go.Am
def ltB (b : qg) : Prop:=b.Lo.X < b.Hi.X∧b.Lo.Y < b.Hi.Y∧b.Lo.Z < b.Hi.Z
end Go.Sh
namespace Go.Sh
open Go Go.Am
abbrev V3:=Qa × Qa × Qa
def zeroV : Qa:=⟨0,0,0⟩
noncomputable def axT (t : Nat) : V3:=match qrz (t : Int) with
  | some m=>m
  | none=>(zeroV,zeroV,zeroV)
def qho (v : Qa) : Prop:=-1≤v.X∧v.X≤1∧-1≤v.Y∧v.Y≤1∧-1≤v.Z∧v.Z≤1
instance (v : Qa) : Decidable (qho v):=by unfold qho;infer_instance
def mulV (m : V3) (v : Qa) : Qa:=⟨v.X * m.1.X + v.Y * m.2.1.X + v.Z * m.2.2.X,v.X * m.1.Y + v.Y * m.2.1.Y + v.Z * m.2.2.Y,v.X * m.1.Z + v.Y * m.2.1.Z + v.Z * m.2.2.Z⟩
def addV (a b : Qa) : Qa:=⟨a.X + b.X,a.Y + b.Y,a.Z + b.Z⟩
noncomputable def qkl (t : Nat) (at_ v : Qa) : Qa:=addV (mulV (axT t) v) at_
def InV (v : Qa) (lo : Int) : Prop:=lo≤v.X∧v.X≤1000000∧lo≤v.Y∧v.Y≤1000000∧lo≤v.Z∧v.Z≤1000000
instance (v : Qa) (lo : Int) : Decidable (InV v lo):=by unfold InV;infer_instance
theorem qf1 (v : Qa) (lo : Int) : q8y v lo = some (decide (InV v lo)):=by
  unfold q8y
  by_cases a : min (min v.X v.Y) v.Z ≥ lo
  · by_cases b : max (max v.X v.Y) v.Z≤1000000
    · have : InV v lo:=by unfold InV;omega
      simp only [Q7 a,Q7 b,Q7 this,Q1,qj]
    · have : ¬ InV v lo:=by unfold InV;omega
      simp only [Q7 a,Q6 b,Q6 this,Q1,qj]
  · have : ¬ InV v lo:=by unfold InV;omega
    simp only [Q6 a,Q6 this,qy,qj]
theorem qbg (v : Qa) (lo : Int) : J7 v lo = some (decide (InV v lo)):=by
  unfold J7 InV
  by_cases a : v.X ≥ lo <;> by_cases b : v.Y ≥ lo <;> by_cases c : v.Z ≥ lo <;> by_cases d : v.X≤1000000 <;> by_cases e : v.Y≤1000000 <;> by_cases f : v.Z≤1000000 <;> simp [a,b,c,d,e,f] <;> omega
def FOk (f : Kl) : Prop:=f.Turn < 24∧InV f.At (-1000000)
instance (f : Kl) : Decidable (FOk f):=by unfold FOk;infer_instance
def SOk (s : qhz) : Prop:=FOk s.Frame∧InV s.Size 0
instance (s : qhz) : Decidable (SOk s):=by unfold SOk;infer_instance
theorem qin {P Q : Prop} [Decidable P] [Decidable Q] {R : Prop} [Decidable R] (h : R↔P∧Q) : ((cond (decide (¬ P)) (some true) ((some (decide Q)).bind fun a=>some (!a))).bind fun c3=>cond c3 (some (8 : Int)) (some 0)) = some (if R then 0 else 8):=by
  by_cases p : P <;> by_cases q : Q <;> simp [p,q,h]
theorem qjz (f : Kl) : q5f f = some (if FOk f then 0 else 8):=by
  unfold q5f
  rw [qf1]
  have e : decide (f.Turn ≥ 24) = decide (¬ f.Turn < 24):=by rw [decide_eq_decide];omega
  rw [e]
  exact qin Iff.rfl
theorem qmc (f : Kl) : q63 f = some (if FOk f then 0 else 8):=by
  unfold q63
  rw [qbg]
  have e : decide (f.Turn ≥ 24) = decide (¬ f.Turn < 24):=by rw [decide_eq_decide];omega
  rw [e]
  exact qin Iff.rfl
theorem qg4 {P : Prop} [Decidable P] {a : Int} (h : a≠0) : ((if P then (0 : Int) else a) != 0) = decide (¬ P):=by
  by_cases p : P <;> simp [p,h]
end Go.Sh
namespace Go.Sh
open Go Go.Am
def rowOk (a b c : Int) : Prop:=(a = 1∧b = 0∧c = 0)∨(a = -1∧b = 0∧c = 0)∨(a = 0∧b = 1∧c = 0)∨(a = 0∧b = -1∧c = 0)∨(a = 0∧b = 0∧c = 1)∨(a = 0∧b = 0∧c = -1)
instance (a b c : Int) : Decidable (rowOk a b c):=by unfold rowOk;infer_instance
def q120 (p q : Qa) : qg:={Lo:=({X:=min p.X q.X,Y:=min p.Y q.Y,Z:=min p.Z q.Z} : Qa),Hi:=({X:=max p.X q.X,Y:=max p.Y q.Y,Z:=max p.Z q.Z} : Qa)}
noncomputable def qm3 (t : Nat) (at_ : Qa) (b : qg) : qg:=q120 (qkl t at_ b.Lo) (qkl t at_ b.Hi)
noncomputable def place (l : List qg) (f : Kl) : List qg × Int:=
  if K0 l≠0 then ([],K0 l) else if ¬ FOk f then ([],8) else if ∀ b∈l,vB (qm3 f.Turn.toNat f.At b) then mkB (l.map (qm3 f.Turn.toNat f.At)) else ([],16)
theorem qvm {l : List qg} (q : l.length≤400) (P : qg→Prop) [DecidablePred P] (pl : qg→qg) (e : List qg × Int) (f : Int × List qg→Option ((Int × List qg) ⊕ ((List qg) ⊕ (List qg × Int))))
    (d : ∀ k (h : k < l.length) (o : List qg),o.length = k→P l[k]→f ((k : Int),o) = some (.inl (((k + 1 : Nat) : Int),o ++ [pl l[k]])))
    (c : ∀ k (h : k < l.length) (o : List qg),o.length = k→¬ P l[k]→f ((k : Int),o) = some (.inr (.inr e)))
    (hd : ∀ o,f ((l.length : Int),o) = some (.inr (.inl o))) : loop f (0,[]) = some (if ∀ b∈l,P b then .inl (l.map pl) else .inr e):=by
  have main:=qcc (f:=f) (fun k=>((k : Int),(l.take k).map pl)) l.length (fun j=>∀ b,l[j]? = some b→P b) (.inl (l.map pl)) (.inr e)
    (fun k a n=>by
      rw [d k a _ (by simp;omega) (n k (Nat.le_refl _) _ (List.getElem?_eq_getElem a)),List.take_succ_eq_append_getElem a,List.map_append];rfl)
    (fun k a _ hb=>c k a _ (by simp;omega) fun h=>hb fun b hb=>by rw [List.getElem?_eq_getElem a] at hb;cases hb;exact h)
    (fun _=>by rw [List.take_length,hd])
  have g : ((((0 : Nat) : Int),(l.take 0).map pl) : Int × List qg) = (0,[]):=rfl
  rw [g] at main
  rcases main with ⟨p,m⟩ | ⟨j,n,hb,m⟩
  · rw [m,qq]
    intro b hb
    obtain ⟨i,hi,rfl⟩:=List.getElem_of_mem hb
    exact p i hi _ (List.getElem?_eq_getElem hi)
  · rw [m,qp]
    intro h
    exact hb fun b hb=>h b (List.mem_of_getElem? hb)
end Go.Sh
namespace Go.Sh
open Go Go.Am
end Go.Sh
namespace Go.Sh
open Go Go.Am
def grpR : List qi→List (Grp qk)
  | []=>[]
  | r::l=>match grpR l with
    | g::gs=>if g.lo = r.X0∧g.hi = r.X1 then ⟨g.lo,g.hi,ysp r::g.sec⟩::gs else ⟨r.X0,r.X1,[ysp r]⟩::g::gs
    | []=>[⟨r.X0,r.X1,[ysp r]⟩]
def grpB : List qg→List (Grp qi)
  | []=>[]
  | r::l=>match grpB l with
    | g::gs=>if g.lo = r.Lo.Z∧g.hi = r.Hi.Z then ⟨g.lo,g.hi,Jj r::g.sec⟩::gs else ⟨r.Lo.Z,r.Hi.Z,[Jj r]⟩::g::gs
    | []=>[⟨r.Lo.Z,r.Hi.Z,[Jj r]⟩]
theorem qke : ∀ l : List qi,Y6 putR (grpR l) = l
  | []=>rfl
  | r::l=>by
    have a:=qke l
    unfold grpR
    split
    · rename_i g d h
      rw [h] at a
      split
      · rename_i b
        obtain ⟨b,c⟩:=b
        rw [← a]
        simp only [Y6,List.flatMap_cons,List.map_cons,List.cons_append,b,c]
        congr 1
      · rw [← a];rfl
    · rename_i h
      rw [h] at a
      rw [← a];rfl
theorem qkd : ∀ l : List qg,Y6 putB (grpB l) = l
  | []=>rfl
  | r::l=>by
    have a:=qkd l
    unfold grpB
    split
    · rename_i g d h
      rw [h] at a
      split
      · rename_i b
        obtain ⟨b,c⟩:=b
        rw [← a]
        simp only [Y6,List.flatMap_cons,List.map_cons,List.cons_append,b,c]
        congr 1
      · rw [← a];rfl
    · rename_i h
      rw [h] at a
      rw [← a];rfl
instance {σ : Type} [DecidableEq σ] (gs : List (Grp σ)) : Decidable (CanG gs):=by unfold CanG;infer_instance
instance (s : List qk) : Decidable (Can s):=by unfold Can;infer_instance
def isR (l : List qi) : Prop:=CanG (grpR l)∧∀ g∈grpR l,Can g.sec
instance (l : List qi) : Decidable (isR l):=by unfold isR;infer_instance
def isB (l : List qg) : Prop:=CanG (grpB l)∧∀ g∈grpB l,isR g.sec
instance (l : List qg) : Decidable (isB l):=by unfold isB;infer_instance
theorem isR.can {l : List qi} (h : isR l) : CanR l:=⟨grpR l,(qke l).symm,h.1,h.2⟩
theorem isB.can {l : List qg} (h : isB l) : CanB l:=⟨grpB l,(qkd l).symm,h.1,fun g a=>(h.2 g a).can⟩
theorem q2f {l : List qg} (h : l.length≤400∧(∀ b∈l,vB b)∧isB l) : K0 l = 0:=Yd.2 ⟨h.1,h.2.1,h.2.2.can⟩
theorem qlf {kind : Int} {p q out : List qg} (h : p.length + q.length≤100000) (a : CanB out) (b : ∀ x y z,Y2 kind (hasB p x y z) (hasB q x y z)↔hasB out x y z) : mrgB kind p q = out:=
  qef (q95 kind h) a fun x y z=>by rw [qc4 kind h];exact b x y z
theorem qtj {l out : List qg} (h : l.length≤400∧(∀ b∈l,vB b)∧out.length≤400) (a : isB out) (c : ∀ x y z,hasB l x y z↔hasB out x y z) : mkB l = (out,0):=by
  have e : mrgB 2 l [] = out:=qlf (by simp;omega) a.can fun x y z=>by rw [q3w,← c];simp [q2r]
  unfold mkB
  rw [qp q0,qq h.2.1,e,qp q0]
theorem qqj {kind : Int} {p q : List qg} (hp : K0 p = 0) (f : K0 q = 0) (c : (mrgB kind p q).length≤400) : K0 (mrgB kind p q) = 0:=by
  obtain ⟨g,b,j⟩:=Yd.1 hp
  obtain ⟨h,d,k⟩:=Yd.1 f
  have a:=q95 kind (p:=p) (q:=q) q0
  exact Yd.2 ⟨c,a.vB (InB.mrg q0 (qhd b) (qhd d)),a⟩
theorem qsn (kind : Int) {p q : List qg} (hp : K0 p = 0) (a : K0 q = 0) :
    jB kind p q = ([],4)∨(jB kind p q = (mrgB kind p q,0)∧K0 (mrgB kind p q) = 0∧∀ x y z,hasB (mrgB kind p q) x y z↔Y2 kind (hasB p x y z) (hasB q x y z)):=by
  have b:=(Yd.1 hp).1
  have c:=(Yd.1 a).1
  unfold jB
  rw [qp (by simp [hp]),qp (by simp [a])]
  by_cases h : 400 < (mrgB kind p q).length
  · exact .inl (by rw [qq h])
  · exact .inr ⟨by rw [qp h],qqj hp a q0,qc4 kind q0⟩
theorem qfj {kind : Int} {p q out : List qg} (hp : K0 p = 0) (a : K0 q = 0) (b : CanB out) (g : out.length≤400) (c : ∀ x y z,Y2 kind (hasB p x y z) (hasB q x y z)↔hasB out x y z) : jB kind p q = (out,0):=by
  have d:=(Yd.1 hp).1
  have f:=(Yd.1 a).1
  have e:=qlf (kind:=kind) (p:=p) (q:=q) q0 b c
  unfold jB
  rw [qp (by simp [hp]),qp (by simp [a]),e,qp q0]
def bx (x y z u v w : Int) : qg:={Lo:=({X:=x,Y:=y,Z:=z} : Qa),Hi:=({X:=u,Y:=v,Z:=w} : Qa)}
theorem q8k : K0 [] = 0:=q2f qx
instance (kind : Int) (a b : Prop) [Decidable a] [Decidable b] : Decidable (Y2 kind a b):=by unfold Y2;infer_instance
end Go.Sh
namespace Go.Sh
open Go Go.Am
def swp (a c : Qa) (b : qg) : qg:={Lo:=({X:=b.Lo.X + min a.X c.X,Y:=b.Lo.Y + min a.Y c.Y,Z:=b.Lo.Z + min a.Z c.Z} : Qa),Hi:=({X:=b.Hi.X + max a.X c.X,Y:=b.Hi.Y + max a.Y c.Y,Z:=b.Hi.Z + max a.Z c.Z} : Qa)}
def movB (v : Qa) (b : qg) : qg:={Lo:=({X:=b.Lo.X + v.X,Y:=b.Lo.Y + v.Y,Z:=b.Lo.Z + v.Z} : Qa),Hi:=({X:=b.Hi.X + v.X,Y:=b.Hi.Y + v.Y,Z:=b.Hi.Z + v.Z} : Qa)}
def onL (a c p : Qa) : Prop:=(min a.X c.X≤p.X∧p.X≤max a.X c.X)∧(min a.Y c.Y≤p.Y∧p.Y≤max a.Y c.Y)∧(min a.Z c.Z≤p.Z∧p.Z≤max a.Z c.Z)
theorem qha {l h m n x : Int} (f : l < h) (c : m≤n) : (l + m≤x∧x < h + n)↔∃ t,(m≤t∧t≤n)∧l + t≤x∧x < h + t:=by
  constructor
  · rintro ⟨a,d⟩
    by_cases b : n≤x - l
    · exact ⟨n,q0,q0,q0⟩
    · exact ⟨x - l,q0,q0,q0⟩
  · rintro ⟨t,a,d,b⟩;omega
theorem qkm {a c : Qa} {b : qg} (hb : ltB b) {x y z : Int} : inB (swp a c b) x y z↔∃ p,onL a c p∧inB (movB p b) x y z:=by
  obtain ⟨r,s,m⟩:=hb
  have j:=qha (x:=x) r (show min a.X c.X≤max a.X c.X by omega)
  have l:=qha (x:=y) s (show min a.Y c.Y≤max a.Y c.Y by omega)
  have k:=qha (x:=z) m (show min a.Z c.Z≤max a.Z c.Z by omega)
  constructor
  · rintro ⟨q,t,u⟩
    obtain ⟨o,h,g⟩:=j.1 q
    obtain ⟨v,p2,d⟩:=l.1 t
    obtain ⟨n,p3,f⟩:=k.1 u
    exact ⟨⟨o,v,n⟩,⟨h,p2,p3⟩,g,d,f⟩
  · rintro ⟨p,⟨h,p2,p3⟩,g,d,f⟩
    exact ⟨j.2 ⟨_,h,g⟩,l.2 ⟨_,p2,d⟩,k.2 ⟨_,p3,f⟩⟩
theorem qkg {l : List qg} {f : qg→qg} {x y z : Int} : hasB (l.map f) x y z↔∃ b∈l,inB (f b) x y z:=by
  constructor
  · rintro ⟨c,a,h⟩
    obtain ⟨b,hb,rfl⟩:=List.mem_map.1 a
    exact ⟨b,hb,h⟩
  · rintro ⟨b,hb,h⟩
    exact ⟨_,List.mem_map.2 ⟨b,hb,rfl⟩,h⟩
theorem qsc {a c : Qa} {l : List qg} (g : ∀ b∈l,ltB b) {x y z : Int} : hasB (l.map (swp a c)) x y z↔∃ p,onL a c p∧hasB (l.map (movB p)) x y z:=by
  simp only [qkg]
  constructor
  · rintro ⟨b,hb,h⟩
    obtain ⟨p,d,f⟩:=(qkm (g b hb)).1 h
    exact ⟨p,d,b,hb,f⟩
  · rintro ⟨p,d,b,hb,f⟩
    exact ⟨b,hb,(qkm (g b hb)).2 ⟨p,d,f⟩⟩
theorem qsa {v : Qa} {l : List qg} {x y z : Int} : hasB (l.map (movB v)) x y z↔hasB l (x - v.X) (y - v.Y) (z - v.Z):=by
  rw [qkg]
  constructor
  · rintro ⟨b,hb,a,d,c⟩;exact ⟨b,hb,by simp only [movB] at a d c;omega⟩
  · rintro ⟨b,hb,a,d,c⟩;exact ⟨b,hb,by simp only [inB,movB];omega⟩
theorem q12x (a c : Qa) (b : qg) : swp a c b = swp c a b:=by
  unfold swp;simp only [Int.min_comm,Int.max_comm]
end Go.Sh
namespace Go.Sh
open Go Go.Am
end Go.Sh
namespace Go.Sh
open Go Go.Am
def Ax (a c : Qa) : Prop:=(a.X = c.X∧a.Y = c.Y)∨(a.X = c.X∧a.Z = c.Z)∨(a.Y = c.Y∧a.Z = c.Z)
instance (a c : Qa) : Decidable (Ax a c):=by unfold Ax;infer_instance
def LOk (l : Qy) : Prop:=Ax l.From l.To∧InV l.From (-1000000)∧InV l.To (-1000000)
instance (l : Qy) : Decidable (LOk l):=by unfold LOk;infer_instance
def TOk (t : Qp) : Prop:=(t.Lines.length≤2000∧t.Marks.length≤2000∧FOk t.End.Frame)∧(∀ l∈t.Lines,LOk l)∧∀ m∈t.Marks,FOk m.Frame
instance (t : Qp) : Decidable (TOk t):=by unfold TOk;infer_instance
theorem q134 (v : Qa) : qbe v = some (decide (InV v (-1000000))):=qf1 v (-1000000)
theorem q131 (l : Qy) : loop (q1a l) (0,0) = some ((if w64 (l.To.X - l.From.X) = 0 then 1 else 0) + (if w64 (l.To.Y - l.From.Y) = 0 then 1 else 0) + (if w64 (l.To.Z - l.From.Z) = 0 then 1 else 0)):=by
  have b : w64 (0 + 1) = 1:=by decide
  have a : w64 (1 + 1) = 2:=by decide
  have c : w64 (2 + 1) = 3:=by decide
  have s : ∀ n k v,idxA 3 [w64 (l.To.X - l.From.X),w64 (l.To.Y - l.From.Y),w64 (l.To.Z - l.From.Z)] k = some v→k < 3→q1a l (n,k) = some (.inl (if v = 0 then w64 (n + 1) else n,w64 (k + 1))):=by
    intro n k v d j
    unfold q1a
    simp only [Q7 j,Q1,d,qj]
    by_cases h : v = 0
    · have e : (v == 0) = true:=by simpa using h
      rw [e,qq h];rfl
    · have e : (v == 0) = false:=by simpa using h
      rw [e,qp h];rfl
  have g : ∀ n,q1a l (n,0) = some (.inl (if w64 (l.To.X - l.From.X) = 0 then w64 (n + 1) else n,1)):=fun n=>by rw [s n 0 _ rfl q0,b]
  have f : ∀ n,q1a l (n,1) = some (.inl (if w64 (l.To.Y - l.From.Y) = 0 then w64 (n + 1) else n,2)):=fun n=>by rw [s n 1 _ rfl q0,a]
  have o : ∀ n,q1a l (n,2) = some (.inl (if w64 (l.To.Z - l.From.Z) = 0 then w64 (n + 1) else n,3)):=fun n=>by rw [s n 2 _ rfl q0,c]
  have m : ∀ n,q1a l (n,3) = some (.inr n):=fun n=>rfl
  rw [Y3 (g 0),Y3 (f _),Y3 (o _),Kg (m _)]
  split <;> split <;> split <;> decide
theorem qt7 (l : Qy) : q8a l = some (!decide (LOk l)):=by
  unfold q8a
  simp only [q131,q134,qj]
  by_cases d : InV l.From (-1000000)
  · by_cases g : InV l.To (-1000000)
    · have hb : ∀ {a b : Int},-1000000≤a→a≤1000000→-1000000≤b→b≤1000000→(w64 (a - b) = 0↔b = a):=fun d g j k=>by rw [Qm q0];omega
      have f:=d;have c:=g
      unfold InV at f c
      simp only [hb c.1 c.2.1 f.1 f.2.1,hb c.2.2.1 c.2.2.2.1 f.2.2.1 f.2.2.2.1,hb c.2.2.2.2.1 c.2.2.2.2.2 f.2.2.2.2.1 f.2.2.2.2.2]
      simp only [d,g,decide_true,Bool.not_true,qy,qj]
      congr 1
      rw [Bool.eq_iff_iff]
      simp only [decide_eq_true_eq,Bool.not_eq_true',decide_eq_false_iff_not,LOk,Ax,d,g,and_true]
      split <;> split <;> split <;> simp_all
    · have : ¬ LOk l:=fun h=>g h.2.2
      simp [d,g,this]
  · have : ¬ LOk l:=fun h=>d h.2.1
    simp [d,this]
theorem qtl (m : Z2) : q8b m = some (!decide (FOk m.Frame)):=by
  unfold q8b
  rw [qjz]
  by_cases h : FOk m.Frame <;> simp [h]
theorem ql1 (l : List Qy) (d : l.length≤1000000) (p : Qy→Option Bool) (c : Qy→Bool) (h : ∀ v,p v = some (c v)) : q6s l p = some (l.any c):=by
  unfold q6s qd8
  rcases Z8 l c (fun k _=>(k : Int)) () (q6u l p) (fun k a=>by
    simp only [q6u,dlt a,Q1,Qu a,qj,w64s a d,h]
    cases c l[k] <;> simp) (by simp only [q6u,dnl,qy]) with ⟨h1,h2⟩ | ⟨k,a,hc,_,h2⟩
  · rw [h2]
    have : l.any c = false:=by rw [List.any_eq_false];exact fun v b=>by rw [h1 v b];simp
    rw [this];rfl
  · rw [h2]
    have : l.any c = true:=List.any_eq_true.2 ⟨_,Kv a,hc⟩
    simp only [qj]
    rw [this,Q7 q0]
theorem qte (l : List Z2) (d : l.length≤1000000) (p : Z2→Option Bool) (c : Z2→Bool) (h : ∀ v,p v = some (c v)) : q9q l p = some (l.any c):=by
  unfold q9q qd9
  rcases Z8 l c (fun k _=>(k : Int)) () (q6v l p) (fun k a=>by
    simp only [q6v,dlt a,Q1,Qu a,qj,w64s a d,h]
    cases c l[k] <;> simp) (by simp only [q6v,dnl,qy]) with ⟨h1,h2⟩ | ⟨k,a,hc,_,h2⟩
  · rw [h2]
    have : l.any c = false:=by rw [List.any_eq_false];exact fun v b=>by rw [h1 v b];simp
    rw [this];rfl
  · rw [h2]
    have : l.any c = true:=List.any_eq_true.2 ⟨_,Kv a,hc⟩
    simp only [qj]
    rw [this,Q7 q0]
theorem q132 (t : Qp) (j : t.Lines.length≤1000000) (n : t.Marks.length≤1000000) : qbd t = some (if TOk t then 0 else 8):=by
  unfold qbd
  rw [ql1 t.Lines j _ _ qt7,qte t.Marks n _ _ qtl,qjz]
  simp only [qj,qg4 (show (8 : Int)≠0 by omega)]
  have g : (t.Lines.any fun l=>!decide (LOk l)) = decide (¬ ∀ l∈t.Lines,LOk l):=by
    rw [Bool.eq_iff_iff];simp
  have f : (t.Marks.any fun m=>!decide (FOk m.Frame)) = decide (¬ ∀ m∈t.Marks,FOk m.Frame):=by
    rw [Bool.eq_iff_iff];simp
  have k : decide (max (t.Lines.length : Int) (t.Marks.length : Int) > 2000) = decide (¬ (t.Lines.length≤2000∧t.Marks.length≤2000)):=by
    rw [decide_eq_decide];omega
  rw [g,f,k]
  by_cases a : ∀ l∈t.Lines,LOk l
  · by_cases b : ∀ m∈t.Marks,FOk m.Frame
    · by_cases d : FOk t.End.Frame
      · by_cases c : t.Lines.length≤2000∧t.Marks.length≤2000
        · have : TOk t:=⟨⟨c.1,c.2,d⟩,a,b⟩
          rw [Q6 (not_not_intro a),Q6 (not_not_intro b),Q6 (not_not_intro d),Q6 (not_not_intro c),qq this];rfl
        · have : ¬ TOk t:=fun h=>c ⟨h.1.1,h.1.2.1⟩
          rw [Q6 (not_not_intro a),Q6 (not_not_intro b),Q6 (not_not_intro d),Q7 c,qp this];rfl
      · have : ¬ TOk t:=fun h=>d h.1.2.2
        rw [Q6 (not_not_intro a),Q6 (not_not_intro b),Q7 d,qp this];rfl
    · have : ¬ TOk t:=fun h=>b h.2.2
      rw [Q6 (not_not_intro a),Q7 b,qp this];rfl
  · have : ¬ TOk t:=fun h=>a h.2.1
    rw [Q7 a,qp this];rfl
theorem qol (t : Qp) (a : t.Lines.length≤1000000) (c : t.Marks.length≤1000000) : ∃ n,q54 t = some (n,if TOk t then 0 else 8):=by
  unfold q54
  rw [q132 t a c]
  simp only [qj]
  by_cases h : TOk t
  · simp only [qq h,show ((0 : Int) != 0) = false from rfl,qy]
    have:=qjs t.Lines a (fun n (l : Qy)=>w64 (n + (w64 ((w64 ((max (w64 (l.To.X - l.From.X)) (w64 (0 - (w64 (l.To.X - l.From.X))))) + (max (w64 (l.To.Y - l.From.Y)) (w64 (0 - (w64 (l.To.Y - l.From.Y))))))) + (max (w64 (l.To.Z - l.From.Z)) (w64 (0 - (w64 (l.To.Z - l.From.Z))))))))) (fun x=>x) (q89 t) (fun k b s=>by
      simp only [q89,q8c,dlt b,Q1,Qu b,qj,w64s b a]) (fun s=>by simp only [q89,dnl,qy]) 0
    rw [this]
    exact ⟨_,rfl⟩
  · simp only [qp h]
    exact ⟨0,rfl⟩
theorem qeb (a b : Int) : (a != b) = decide (¬ a = b):=by
  by_cases h : a = b <;> simp [h]
theorem qw3 (t : Qp) (n : t.Lines.length≤1000000) (y : t.Marks.length≤1000000) : q9e t = some (if TOk t then 0 else 8):=by
  unfold q9e
  rw [qmc]
  simp only [qj,qg4 (show (8 : Int)≠0 by omega)]
  by_cases c : t.Lines.length≤2000∧t.Marks.length≤2000
  · by_cases b : FOk t.End.Frame
    · have f : decide ((t.Lines.length : Int) > 2000) = false:=Q6 q0
      have d : decide ((t.Marks.length : Int) > 2000) = false:=Q6 q0
      rw [f,d,Q6 (not_not_intro b)]
      simp only [qy,qj]
      rcases Z8 t.Lines (fun l=>!decide (LOk l)) (fun k _=>(8 : Int)) () (q64 t) (fun k a=>by
        have u : w64 (0 + 1) = 1:=by decide
        have s : w64 (1 + 1) = 2:=by decide
        have w : w64 (2 + 1) = 3:=by decide
        simp only [q64,dlt a,Q1,Qu a,qj,w64s a n,qbg]
        generalize t.Lines[k] = l
        by_cases o : l.From.X = l.To.X <;> by_cases p : l.From.Y = l.To.Y <;> by_cases v : l.From.Z = l.To.Z <;> by_cases j : InV l.From (-1000000) <;> by_cases r : InV l.To (-1000000) <;>
          simp [qeb,o,p,v,j,r,show w64 1 = 1 by decide,show w64 2 = 2 by decide,show w64 3 = 3 by decide,LOk,Ax]) (by simp only [q64,dnl,qy]) with ⟨a1,a2⟩ | ⟨k,a,hc,_,a2⟩
      · rw [a2]
        simp only [qj]
        rcases Z8 t.Marks (fun m=>!decide (FOk m.Frame)) (fun k _=>(8 : Int)) () (q65 t) (fun k a=>by
          simp only [q65,dlt a,Q1,Qu a,qj,w64s a y,qmc,qg4 (show (8 : Int)≠0 by omega)]
          by_cases z : FOk (t.Marks[k]).Frame <;> simp [z]) (by simp only [q65,dnl,qy]) with ⟨b1,b2⟩ | ⟨k,a,hc,_,b2⟩
        · rw [b2]
          have : TOk t:=⟨⟨c.1,c.2,b⟩,fun l q=>by simpa using a1 l q,fun m x=>by simpa using b1 m x⟩
          rw [qq this]
          rfl
        · rw [b2]
          have : ¬ TOk t:=fun h=>by simp [h.2.2 _ (Kv a)] at hc
          rw [qp this]
          rfl
      · rw [a2]
        have : ¬ TOk t:=fun h=>by simp [h.2.1 _ (Kv a)] at hc
        rw [qp this]
        rfl
    · have : ¬ TOk t:=fun h=>b h.1.2.2
      have f : decide ((t.Lines.length : Int) > 2000) = false:=Q6 q0
      have d : decide ((t.Marks.length : Int) > 2000) = false:=Q6 q0
      rw [f,d,Q7 b,qp this]
      rfl
  · have : ¬ TOk t:=fun h=>c ⟨h.1.1,h.1.2.1⟩
    rw [qp this]
    by_cases g : (t.Lines.length : Int) > 2000
    · rw [Q7 g];rfl
    · rw [Q6 g,Q7 (by omega : (t.Marks.length : Int) > 2000)];rfl
noncomputable def badB : List (List qg)→Int
  | []=>0
  | b::r=>if K0 b≠0 then K0 b else badB r
theorem qe8 : ∀ {bs : List (List qg)},(∀ b∈bs,K0 b = 0)→badB bs = 0
  | [],_=>rfl
  | b::r,h=>by rw [badB,qp (by simp [h b qe])];exact qe8 fun c a=>h c (by simp [a])
theorem qi6 : ∀ {bs : List (List qg)},badB bs = 0→∀ b∈bs,K0 b = 0
  | [],_,b,hb=>by cases hb
  | a::r,h,b,hb=>by
    rw [badB] at h
    split at h
    · rename_i c;exact absurd h c
    · rename_i c
      rcases List.mem_cons.1 hb with rfl | hb
      · exact Classical.not_not.1 c
      · exact qi6 h b hb
theorem qi5 : ∀ {bs : List (List qg)} {k : Nat} (b : k < bs.length),K0 bs[k]≠0→(∀ j (c : j < k),K0 (bs[j]'(q0)) = 0)→badB bs = K0 bs[k]
  | a::r,0,b,h,_=>by rw [badB];exact qq h
  | a::r,k + 1,b,h,hb=>by
    rw [badB,qp (by simpa using hb 0 q0)]
    exact qi5 (bs:=r) (by simpa using b) h fun j c=>by simpa using hb (j + 1) q0
theorem qpo {γ : Type} (bs : List (List qg)) (o : bs.length≤1000000) (a : Int→γ) (f : Int→Option (Int ⊕ (Unit ⊕ γ)))
    (hs : ∀ k (h : k < bs.length),f (k : Int) = some (if K0 bs[k]≠0 then .inr (.inr (a (K0 bs[k]))) else .inl ((k + 1 : Nat) : Int))) (hd : f (bs.length : Int) = some (.inr (.inl ()))) :
    loop f 0 = some (if badB bs = 0 then .inl () else .inr (a (badB bs))):=by
  rcases Z8 bs (fun b=>decide (K0 b≠0)) (fun k h=>a (K0 bs[k])) () f (fun k h=>by rw [hs k h];simp) hd with ⟨m,d⟩ | ⟨k,n,g,hb,d⟩
  · rw [d,qq (qe8 fun b hb=>by simpa using m b hb)]
  · have c : K0 bs[k]≠0:=by simpa using g
    have:=qi5 n c fun j l=>by simpa using hb j l
    rw [d,qp (by rw [this];exact c),this]
noncomputable def chkS (t : Qp) (bs : List (List qg)) : Int:=
  if ¬ TOk t then 8 else if 20 < bs.length then 4 else if badB bs≠0 then badB bs else if 0 < t.Lines.length∧bs.length = 0 then 6 else if ∃ l∈t.Lines,l.Depth < 0 then 2 else 0
theorem qxd (t : Qp) (bs : List (List qg)) (m : t.Lines.length≤1000000) (r : t.Marks.length≤1000000) (j : bs.length≤1000000) : qb5 t bs = some (chkS t bs):=by
  obtain ⟨n,p⟩:=qol t m r
  unfold qb5 chkS
  rw [p]
  simp only [qj]
  by_cases a : ¬ TOk t
  · rw [qp a,qq a];rfl
  replace a:=Classical.not_not.1 a
  rw [qq a,qp (not_not_intro a),show ((0 : Int) != 0) = false from rfl,qy]
  by_cases g : 20 < bs.length
  · rw [Q7 (by omega : (bs.length : Int) > 20),Q1,qq g]
  rw [Q6 (by omega : ¬ (bs.length : Int) > 20),qy,qp g]
  rw [qpo bs j (fun e=>e) (q87 bs) (fun k f=>by
    simp only [q87,dlt f,Q1,Qu f,qj,w64s f j,qdf]
    by_cases h : K0 bs[k] = 0 <;> simp [qeb,h]) (by simp only [q87,dnl,qy])]
  by_cases c : badB bs = 0
  · rw [qq c,qp (not_not_intro c)]
    simp only [qj]
    rw [ql1 t.Lines m (fun q=>qb6 q) (fun v=>decide (v.Depth < 0)) (fun v=>rfl)]
    by_cases o : 0 < t.Lines.length
    · by_cases d : bs.length = 0
      · rw [Q7 (by omega : (t.Lines.length : Int) > 0),d,qq ⟨o,rfl⟩];rfl
      · have e : ((bs.length : Int) == 0) = false:=by simpa using d
        rw [Q7 (by omega : (t.Lines.length : Int) > 0),e,qp (fun h=>d h.2)]
        simp only [Q1,qy,qj]
        by_cases b : ∃ l∈t.Lines,l.Depth < 0
        · rw [qq b,show (t.Lines.any fun v=>decide (v.Depth < 0)) = true by simpa using b];rfl
        · rw [qp b,show (t.Lines.any fun v=>decide (v.Depth < 0)) = false by simpa using b];rfl
    · have e : t.Lines = []:=List.length_eq_zero_iff.1 q0
      rw [Q6 (by omega : ¬ (t.Lines.length : Int) > 0),qp (fun h=>o h.1),e]
      simp
  · rw [qp c,qq c];rfl
end Go.Sh
namespace Go.Sh
open Go Go.Am
noncomputable def barS (l : Qy) (b : List qg) : List qg × Int:=if ∀ x∈b,vB (swp l.From l.To x) then mkB (b.map (swp l.From l.To)) else ([],16)
theorem qn6 (v : Qa) : qb7 v = some (decide (InV v (-1000000))):=qf1 v (-1000000)
theorem q13d {b : qg} (h : vB b) : ltB b:=h.1
theorem qop {a c : Qa} {b : qg} (hb : vB b) : vB (swp a c b)↔InV (swp a c b).Lo (-1000000)∧InV (swp a c b).Hi (-1000000):=by
  unfold vB at hb;unfold vB InV swp;simp only;omega
theorem qod {l : Qy} {b : List qg} (n : LOk l) (f : b.length≤400) (hb : ∀ x∈b,vB x) : q86 l b = some (barS l b):=by
  obtain ⟨_,j,m⟩:=n
  unfold InV at j m
  have w : ∀ k (a : k < b.length),({X:=w64 (b[k].Lo.X + (min l.From.X l.To.X)),Y:=w64 (b[k].Lo.Y + (min l.From.Y l.To.Y)),Z:=w64 (b[k].Lo.Z + (min l.From.Z l.To.Z))} : Qa) = (swp l.From l.To b[k]).Lo∧({X:=w64 (b[k].Hi.X + (max l.From.X l.To.X)),Y:=w64 (b[k].Hi.Y + (max l.From.Y l.To.Y)),Z:=w64 (b[k].Hi.Z + (max l.From.Z l.To.Z))} : Qa) = (swp l.From l.To b[k]).Hi:=by
    intro k a
    have h:=hb _ (Kv a)
    unfold vB at h
    refine ⟨?_,?_⟩ <;> (unfold swp;simp only;rw [Qm q0,Qm q0,Qm q0])
  unfold q86 barS
  rw [qvm f (fun x=>vB (swp l.From l.To x)) (swp l.From l.To) ([],16) (q52 b l) (fun k a o g c=>by
      obtain ⟨d,p2⟩:=(qop (hb _ (Kv a))).1 c
      simp only [q52,dlt a,Q1,Qu a,qj,(w k a).1,(w k a).2,qn6,Q7 d,Q7 p2,Bool.not_true,qy,w64s a q0]
      rw [Y7 (by simp;omega)]
      rfl) (fun k a o g c=>by
      rw [qop (hb _ (Kv a))] at c
      simp only [q52,dlt a,Q1,Qu a,qj,(w k a).1,(w k a).2,qn6]
      by_cases d : InV (swp l.From l.To b[k]).Lo (-1000000)
      · have p2 : ¬ InV (swp l.From l.To b[k]).Hi (-1000000):=fun p2=>c ⟨d,p2⟩
        rw [Q7 d,Q6 p2];rfl
      · rw [Q6 d];rfl) (fun o=>by simp only [q52,dnl,qy])]
  rw [qj]
  by_cases c : ∀ x∈b,vB (swp l.From l.To x)
  · rw [qq c,qq c]
    simp only [q11n,qj]
  · rw [qp c,qp c]
def nL (a c : Qa) : Nat:=(c.X - a.X).natAbs + (c.Y - a.Y).natAbs + (c.Z - a.Z).natAbs
theorem qto (a c : Qa) : (nL a c : Int) = max (c.X - a.X) (a.X - c.X) + max (c.Y - a.Y) (a.Y - c.Y) + max (c.Z - a.Z) (a.Z - c.Z):=by
  unfold nL;omega
theorem q13e {p q : Qa} : p = q↔p.X = q.X∧p.Y = q.Y∧p.Z = q.Z:=by
  cases p;cases q;simp
end Go.Sh
namespace Go.Sh
open Go Go.Am
section
variable {α β : Type}
noncomputable def fstE (g : α→β × Int) : List α→Int
  | []=>0
  | a::r=>if (g a).2≠0 then (g a).2 else fstE g r
theorem qf9 {g : α→β × Int} : ∀ {l : List α},fstE g l = 0↔∀ a∈l,(g a).2 = 0
  | []=>by simp [fstE]
  | a::r=>by
    rw [fstE]
    by_cases h : (g a).2 = 0
    · rw [qp (by simp [h]),qf9];simp [h]
    · rw [qq h];simp [h]
theorem qk7 {g : α→β × Int} {P : Int→Prop} : ∀ {l : List α},(∀ a∈l,P (g a).2)→P 0→P (fstE g l)
  | [],_,h0=>h0
  | a::r,h,h0=>by
    rw [fstE]
    split
    · exact h a qe
    · exact qk7 (fun b hb=>h b (by simp [hb])) h0
theorem qs2 {src : List α} {g : α→β × Int} {f : Int × List β→Option ((Int × List β) ⊕ (List β ⊕ (List β × Int)))}
    (hs : ∀ k (j : k < src.length) (o : List β),o.length = k→f ((k : Int),o) = some (if (g src[k]).2≠0 then .inr (.inr ([],(g src[k]).2)) else .inl (((k + 1 : Nat) : Int),o ++ [(g src[k]).1])))
    (hd : ∀ o,f ((src.length : Int),o) = some (.inr (.inl o))) : loop f (0,[]) = some (if fstE g src = 0 then .inl (src.map fun a=>(g a).1) else .inr ([],fstE g src)):=by
  have key : ∀ (r pre : List α),src = pre ++ r→loop f ((pre.length : Int),pre.map fun a=>(g a).1) = some (if fstE g r = 0 then .inl (src.map fun a=>(g a).1) else .inr ([],fstE g r)):=by
    intro r
    induction r with
    | nil=>
      intro pre h
      rw [List.append_nil] at h;subst h
      rw [Kg (hd _)];rfl
    | cons a r ih=>
      intro pre h
      have j : pre.length < src.length:=by rw [h];simp
      have l : src[pre.length] = a:=by simp [h]
      have c:=hs pre.length j (pre.map fun a=>(g a).1) qe
      rw [l] at c
      by_cases b : (g a).2 = 0
      · rw [qp (by simp [b])] at c
        have d : fstE g (a::r) = fstE g r:=qp (by simp [b])
        rw [Y3 c,d]
        have:=ih (pre ++ [a]) (by rw [h];simp)
        simpa using this
      · rw [qq b] at c
        have d : fstE g (a::r) = (g a).2:=qq b
        rw [Kg c,d,qp b]
  exact key src [] rfl
end
noncomputable def Ur (bs : List (List qg)) (l : Qy) : List qg:=(idx bs (min l.Depth ((bs.length : Int) - 1))).getD []
noncomputable def barB (bs : List (List qg)) (l : Qy) : List qg × Int:=barS l (Ur bs l)
noncomputable def Kd (t : Qp) (bs : List (List qg)) : List (List qg) × Int:=
  if chkS t bs≠0 then ([],chkS t bs) else if fstE (barB bs) t.Lines = 0 then (t.Lines.map fun l=>(barB bs l).1,0) else ([],fstE (barB bs) t.Lines)
structure Yu (t : Qp) (bs : List (List qg)) : Prop where
  tok : TOk t
  few : bs.length≤20
  brush : ∀ b∈bs,K0 b = 0
  some' : t.Lines≠[]→bs≠[]
  depth : ∀ l∈t.Lines,0≤l.Depth
theorem q3o {t : Qp} {bs : List (List qg)} : chkS t bs = 0↔Yu t bs:=by
  unfold chkS
  constructor
  · intro h
    split at h
    · cases h
    rename_i c
    split at h
    · cases h
    rename_i j
    split at h
    · rename_i a;exact absurd h a
    rename_i a
    split at h
    · cases h
    rename_i d
    split at h
    · cases h
    rename_i f
    refine ⟨Classical.not_not.1 c,q0,qi6 (Classical.not_not.1 a),fun b k=>d ⟨List.length_pos_iff.2 b,by simp [k]⟩,fun l b=>?_⟩
    exact Int.not_lt.1 fun g=>f ⟨l,b,g⟩
  · rintro ⟨c,j,a,d,f⟩
    rw [qp (not_not_intro c),qp q0,qp (not_not_intro (qe8 a)),qp (fun h=>d (List.length_pos_iff.1 h.1) (List.length_eq_zero_iff.1 h.2)),qp (fun ⟨l,b,g⟩=>by have:=f l b;omega)]
theorem qih {t : Qp} {bs : List (List qg)} (h : Yu t bs) {l : Qy} (b : l∈t.Lines) : idx bs (min l.Depth (w64 ((bs.length : Int) - 1))) = some (Ur bs l)∧Ur bs l∈bs:=by
  have c:=h.few
  have f:=h.depth l b
  have d : bs.length≠0:=fun e=>h.some' (List.ne_nil_of_mem b) (List.length_eq_zero_iff.1 e)
  rw [Qm q0]
  have a : (min l.Depth ((bs.length : Int) - 1)).toNat < bs.length:=by omega
  have e:=J4 (xs:=bs) (i:=min l.Depth ((bs.length : Int) - 1)) (k:=(min l.Depth ((bs.length : Int) - 1)).toNat) q0 a
  unfold Ur
  rw [e]
  exact ⟨rfl,Kv a⟩
theorem qbp (t : Qp) (bs : List (List qg)) (l : t.Lines.length≤1000000) (p : t.Marks.length≤1000000) (m : bs.length≤1000000) : q28 t bs = some (Kd t bs):=by
  unfold q28 Kd
  rw [qxd t bs l p m]
  simp only [qj]
  by_cases b : chkS t bs = 0
  · have ok:=q3o.1 b
    rw [qp (not_not_intro b),b,show ((0 : Int) != 0) = false from rfl,qy]
    rw [qs2 (src:=t.Lines) (g:=barB bs) (f:=q84 t bs) (fun k c o r=>by
      have j:=Kv c
      obtain ⟨n,q⟩:=qih ok j
      obtain ⟨d,h,_⟩:=Yd.1 (ok.brush _ q)
      simp only [q84,dlt c,Q1,Qu c,qj,n,qod (ok.tok.2.1 _ j) d h,w64s c l]
      have e : barS t.Lines[k] (Ur bs t.Lines[k]) = barB bs t.Lines[k]:=rfl
      rw [e]
      by_cases a : (barB bs t.Lines[k]).2 = 0
      · rw [qp (by simp [a]),a,show ((0 : Int) != 0) = false from rfl,qy,Y7 (by simp;omega)]
        rfl
      · rw [qq a,show ((barB bs t.Lines[k]).2 != 0) = true by simpa using a]
        rfl) (fun o=>by simp only [q84,dnl,qy])]
    by_cases a : fstE (barB bs) t.Lines = 0
    · rw [qq a,qq a];rfl
    · rw [qp a,qp a];rfl
  · rw [qq b,show (chkS t bs != 0) = true by simpa using b];rfl
structure Small (t : Qp) (bs : List (List qg)) : Prop where
  lines : t.Lines.length≤12
  marks : t.Marks.length≤50
  many : bs.length≤25
  near : ∀ l∈t.Lines,(InV l.From (-2000000)∧InV l.To (-2000000))∧nL l.From l.To≤90
  few : ∀ b∈bs,b.length≤5
end Go.Sh
