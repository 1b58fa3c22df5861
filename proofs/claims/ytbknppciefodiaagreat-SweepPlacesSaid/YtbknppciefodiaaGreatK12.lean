/- Rs1 Rs2 Rs3 Qb1 Rs4 Qb2 Pf3 Rs5 Rs6 Rs7 -/
import Derived.Test.YtbknppciefodiaaGreatK11
namespace Go.Sh
open Go Go.Am
theorem qdg {α β : Type} {f : α→Option (α ⊕ β)} (st : Nat→α) (n : Nat) (ok : Nat→Prop) (b e : β)
    (step : ∀ k,k < n→(∀ j,j≤k→ok j)→f (st k) = some (.inl (st (k + 1))))
    (bad : ∀ k,k < n→(∀ j,j < k→ok j)→¬ ok k→f (st k) = some (.inr e))
    (done : (∀ j,j < n→ok j)→f (st n) = some (.inr b)) :
    ((∀ j,j < n→ok j)∧loop f (st 0) = some b)∨(∃ j,j < n∧¬ ok j∧loop f (st 0) = some e):=by
  by_cases h : ∀ j,j < n→ok j
  · exact .inl ⟨h,Ja st n b (fun k c=>step k c fun j d=>h j q6) (done h) (Nat.zero_le _)⟩
  · refine .inr ?_
    have g : ∃ k,(k < n∧¬ ok k)∧∀ j,j < k→ok j:=by
      have : ∃ k,k < n∧¬ ok k:=by
        refine Classical.byContradiction fun o=>h fun k c=>?_;exact Classical.byContradiction fun h=>o ⟨k,c,h⟩
      obtain ⟨k,c⟩:=this
      induction k using Nat.strongRecOn with
      | _ k ih=>
        by_cases d : ∃ j,j < k∧(j < n∧¬ ok j)
        · obtain ⟨j,l,g⟩:=d;exact ih j l g
        · exact ⟨k,c,fun j l=>Classical.byContradiction fun h=>d ⟨j,l,q6,h⟩⟩
    obtain ⟨K,⟨m,hb⟩,a⟩:=g;exact ⟨K,m,hb,Ja st K e (fun k c=>step k q6 fun j d=>a j q6) (bad K m a hb) (Nat.zero_le _)⟩
theorem qim (xs : List Int) (h : xs.length≤1000000) :
    ((Ud xs).bind fun c=>(K6 c.length xs.length).bind fun k=>(q1h c).bind fun b=>(K6 b.2.length c.length).bind fun m=>(q1m b.2.length b.1).bind fun j=>some ((b.2.drop b.1.1).take b.1.2)) = some (K1 xs):=by
  obtain ⟨ys,n,g,p⟩:=qpp xs h;have f : ys.length = xs.length:=g.length_eq;obtain ⟨w,a,c1,c2,c3,c4⟩:=qkp p q6;obtain ⟨_,o,_⟩:=U5 h
  have d : a.take w = K1 xs:=by
    refine qpq (l:=xs) ⟨c4.1,fun x=>?_⟩ o;rw [c4.2 x];exact g.mem_iff
  simp only [qk,n,K6,f,if_true,c1,c2,q1m];rw [qr q6];simp only [qk,List.drop_zero,d]
theorem qr5 (l : List qj) (o : List Int) (g : l.length≤400) (d : o.length≤10000) : loop (Je l) (0,o) = some (o ++ xsOf l):=
  U0 l q6 (fun r=>[r.X0,r.X1]) o (fun o=>o) (Je l) (fun k b c a=>by
    have f : c.length = o.length + 2 * k:=by
      rw [a,List.length_append];have:=Ug (l.take k);rw [List.length_take,Nat.min_eq_left q6] at this;unfold xsOf at this;omega
    simp only [Je,dlt b,Q3,Qv b,qk,w64s b q6]
    rw [Y7 (by simp;omega)]
    rfl) (fun o=>by simp only [Je,dnl,Q0])
theorem qzc (l : List qj) (j : l.length≤1000000) : qap l (fun a=>q3i a) = some (decide (¬ ∀ r∈l,vR r)):=by
  have hs : ∀ (k : Nat) (h : k < l.length),q4z l (fun a=>q3i a) (k : Int) = some (if (fun r=>!decide (vR r)) l[k] = true then .inr (.inr (k : Int)) else .inl ((k + 1 : Nat) : Int)):=by
    intro k h;simp only [q4z,dlt h,Q3,Qv h,qk,w64s h j,q3i,qqy];by_cases d : vR l[k] <;> simp [d]
  have hd : q4z l (fun a=>q3i a) (l.length : Int) = some (.inr (.inl ())):=by simp only [q4z,dnl,Q0]
  unfold qap qeg;rcases Zh l (fun r=>!decide (vR r)) (fun k _=>(k : Int)) () _ hs hd with ⟨m,b⟩ | ⟨k,g,f,_,b⟩
  · rw [b];have : ∀ r∈l,vR r:=fun r c=>by simpa using m r c
    simp [];omega
  · rw [b];have : ¬ ∀ r∈l,vR r:=fun h=>by simp [h _ (Kp g)] at f
    simp only [qk];rw [Qc this,Qc q6]
theorem qo9 (l : List qj) : q27 l = some (mkR l):=by
  unfold q27 mkR;by_cases b : 400 < l.length
  · rw [Qc (by omega : (l.length : Int) > 400),Q3,qr b]
  rw [Q9 (by omega : ¬ (l.length : Int) > 400),Q0,qp b,qzc l q6,qk];by_cases a : ∀ r∈l,vR r
  · rw [Q9 (fun h=>h a),Q0,qmt l q6 a,qr a];rfl
  · rw [Qc a,Q3,qp a]
theorem qz9 (p q : List qj) : qai p q = some (if Yq p≠0 then Yq p else Yq q):=by
  unfold qai;simp only [qz5,qk];by_cases h : Yq p = 0
  · simp [h]
  · have : (Yq p != 0) = true:=by simpa using h
    simp [h,this]
theorem rj1 : qe1 = Je:=rfl
theorem rj2 : qe2 = Je:=rfl
theorem rj4 : qe3 = Uv:=rfl
theorem rj5 : qe4 = Uv:=rfl
theorem qk9 {p : List qj} (h : Yq p = 0) (x : Int) : Yx (covS p x) = 0∧Good (covS p x):=by
  obtain ⟨d,b,c⟩:=q9i.1 h;have a : Good (covS p x):=⟨qku b x,(c.cov x).2⟩
  have:=Uz p x;refine ⟨?_,a⟩;unfold Yx;rw [qp q6,qr a]
theorem qnf (kind : Int) {p q : List qj} (hp : Yq p = 0) (a : Yq q = 0) (x : Int) : opS kind (covS p x) (covS q x) = if 400 < (secJ kind p q x).length then ([],4) else (secJ kind p q x,0):=by
  unfold opS;rw [qp (by simp [(qk9 hp x).1]),qp (by simp [(qk9 a x).1])];rfl
theorem qze (kind : Int) (f : List qn→List qn→Option (List qn × Int)) (hf : ∀ a b,f a b = some (opS kind a b)) (p q : List qj) : qaj p q f = some (jR kind p q):=by
  unfold qaj jR;rw [qz9,qk];by_cases hp : ¬ Yq p = 0
  · rw [qr hp,qr hp];have : (Yq p != 0) = true:=by simpa using hp
    rw [this,Q3]
  replace hp:=Classical.not_not.1 hp;by_cases n : ¬ Yq q = 0
  · rw [qp (by simp [hp]),qp (by simp [hp]),qr n];have : (Yq q != 0) = true:=by simpa using n
    rw [this,Q3]
  replace n:=Classical.not_not.1 n;rw [qp (by simp [hp]),qp (by simp [hp]),qp (by simp [n]),n];obtain ⟨lp,vp,cp⟩:=q9i.1 hp;obtain ⟨lq,vq,cq⟩:=q9i.1 n;have ar:=Ug p;have ao:=Ug q;rw [show ((0 : Int) != 0) = false from rfl,Q0];simp only [show idx [p,q] 0 = some p from rfl,show idx [p,q] 1 = some q from rfl,qk,rj1,rj2,qr5 p [] lp qg,List.nil_append,qr5 q (xsOf p) lq q6];rw [qim _ (by simp;omega)];simp only [qk];obtain ⟨_,ae,d⟩:=U5 (l:=xsOf p ++ xsOf q) (by simp;omega);have d : (K1 (xsOf p ++ xsOf q)).length≤1600:=by simp at d;omega
  have o : ∀ x,(secJ kind p q x).length≤(mrgR kind p q).length:=fun x=>q114 kind q6 x;have ac : mrgR kind p q = (K4 putR K2 (Yy (K1 (xsOf p ++ xsOf q)) (secJ kind p q))).flat putR:=rfl;rw [ac] at o ⊢;generalize K1 (xsOf p ++ xsOf q) = xs at ae d o ⊢;generalize aa : Yy xs (secJ kind p q) = steps at o ⊢;have au : steps.length = xs.length - 1:=by rw [← aa];exact q8v _ _
  have w : ∀ k (m : k < steps.length),steps[k] = (xs[k]'(q6),xs[k + 1]'(q6),secJ kind p q (xs[k]'(q6))):=fun k m=>by subst aa;exact q8u m q6
  have ab : ∀ k,k≤steps.length→(∀ j,j < k→∀ t,steps[j]? = some t→t.2.2.length≤400)→((K4 putR K2 (steps.take k)).flat putR).length≤1600 * 400:=fun k m s=>by
    have h1:=qd1 putR (s0:=K2) (M:=400) (steps:=steps.take k) (fun t v=>by
      obtain ⟨i,hi,rfl⟩:=List.getElem_of_mem v;rw [List.length_take] at hi;rw [List.getElem_take]
      exact s i q6 _ (List.getElem?_eq_getElem q6))
    have z : (steps.take k).length≤1600:=by rw [List.length_take];omega
    have h3 : (K2.flat putR : List qj).length = 0:=rfl;have y : (steps.take k).length * 400≤1600 * 400:=Nat.mul_le_mul_right _ z;omega
  have r : ∀ x,loop (Uv p x) (0,[]) = some (covS p x):=fun x=>qh5 p lp x;have u : ∀ x,loop (Uv q x) (0,[]) = some (covS q x):=fun x=>qh5 q lq x
  have main:=qdg (f:=q4x xs p q f) (fun k=>(((k + 1 : Nat) : Int),(K4 putR K2 (steps.take k)).sec,((K4 putR K2 (steps.take k)).done.length : Int),(K4 putR K2 (steps.take k)).hi,(K4 putR K2 (steps.take k)).flat putR))
    steps.length (fun j=>∀ t,steps[j]? = some t→t.2.2.length≤400) (.inl ((K4 putR K2 steps).sec,((K4 putR K2 steps).done.length : Int),(K4 putR K2 steps).hi,(K4 putR K2 steps).flat putR)) (.inr ([],4))
    (fun k m s=>by
      have c : k + 1 < xs.length:=by omega
      have ad : k < xs.length:=by omega
      have i1 : idx xs (w64 (((k + 1 : Nat) : Int) - 1)) = some xs[k]:=by rw [Qg q6];exact Zy q6 q6
      have hc:=s k (Nat.le_refl _) _ (List.getElem?_eq_getElem m);have hm:=ab k q6 fun j am=>s j q6;rw [q47 putR m,w k m] at *;simp only at hc;have hb:=qjx (K4 putR K2 (steps.take k)) xs[k] xs[k + 1] (secJ kind p q xs[k]) q6;have ho : f (covS p xs[k]) (covS q xs[k]) = some (secJ kind p q xs[k],0):=by rw [hf,qnf kind hp n,qp q6]
      simp only [q4x,dlt c,Q3,i1,Qv c,qk,show idx [p,q] 0 = some p from rfl,show idx [p,q] 1 = some q from rfl,rj4,rj5,r,u,ho,show ((0 : Int) != 0) = false from rfl,Q0,hb]
      rw [w64s c q6])
    (fun k m s g=>by
      have c : k + 1 < xs.length:=by omega
      have ad : k < xs.length:=by omega
      have i1 : idx xs (w64 (((k + 1 : Nat) : Int) - 1)) = some xs[k]:=by rw [Qg q6];exact Zy q6 q6
      have hc : 400 < (secJ kind p q xs[k]).length:=by
        refine Nat.lt_of_not_le fun h=>g fun t v=>?_;rw [List.getElem?_eq_getElem m,w k m] at v;cases v;exact h
      have ho : f (covS p xs[k]) (covS q xs[k]) = some ([],4):=by rw [hf,qnf kind hp n,qr hc]
      simp only [q4x,dlt c,Q3,i1,Qv c,qk,show idx [p,q] 0 = some p from rfl,show idx [p,q] 1 = some q from rfl,rj4,rj5,r,u,ho,show ((4 : Int) != 0) = true from rfl,Q3])
    (fun _=>by
      have : decide (((steps.length + 1 : Nat) : Int) < (xs.length : Int)) = false:=Q9 q6
      simp only [List.take_length,q4x,this,Q0])
  have ag : ((((0 + 1 : Nat) : Int),(K4 putR K2 (steps.take 0)).sec,((K4 putR K2 (steps.take 0)).done.length : Int),(K4 putR K2 (steps.take 0)).hi,(K4 putR K2 (steps.take 0)).flat putR) : Int × List qn × Int × Int × List qj) = (1,[],0,0,[]):=rfl;rw [ag] at main;rcases main with ⟨_,z⟩ | ⟨j,s,g,z⟩
  · rw [z];simp only [qk];by_cases y : 400 < ((K4 putR K2 steps).flat putR).length
    · rw [Qc (by omega : (((K4 putR K2 steps).flat putR).length : Int) > 400),qr y];rfl
    · rw [Q9 (by omega : ¬ (((K4 putR K2 steps).flat putR).length : Int) > 400),qp y];rfl
  · rw [z];have aq : j < xs.length:=by omega
    have h5 : 400 < (secJ kind p q xs[j]).length:=by
      refine Nat.lt_of_not_le fun h=>g fun t v=>?_;rw [List.getElem?_eq_getElem s,w j s] at v;cases v;exact h
    have h6:=o xs[j];have y : 400 < ((K4 putR K2 steps).flat putR).length:=Nat.lt_of_lt_of_le h5 h6;rw [qr y];rfl
theorem qz7 (p q : List qj) : q76 p q = some (jR 2 p q):=by
  unfold q76;rw [qze 2 _ (fun a b=>q161 a b)];rfl
end Go.Sh
namespace Go.Sh
open Go Go.Am
theorem q14g (v : qw) : q8o v = some (decide ((-1000000≤v.X∧-1000000≤v.Y∧-1000000≤v.Z)∧v.X≤1000000∧v.Y≤1000000∧v.Z≤1000000)):=by
  unfold q8o;by_cases a : min (min v.X v.Y) v.Z ≥ -1000000
  · by_cases b : max (max v.X v.Y) v.Z≤1000000
    · rw [Qc a,Qc b,Q3,qk];congr 1;exact (Qc q6).symm
    · rw [Qc a,Q9 b,Q3,qk];congr 1;exact (Q9 q6).symm
  · rw [Q9 a,Q0,qk];congr 1;exact (Q9 q6).symm
theorem qpk (b : qh) : q8p b = some (decide (vB b)):=by
  unfold q8p vB;simp only [q14g,qk];by_cases a : b.Lo.X < b.Hi.X
  · by_cases c : b.Lo.Y < b.Hi.Y
    · by_cases f : b.Lo.Z < b.Hi.Z
      · simp only [a,c,f,decide_true,Q3,qk,true_and];by_cases d : (-1000000≤b.Lo.X∧-1000000≤b.Lo.Y∧-1000000≤b.Lo.Z)∧b.Lo.X≤1000000∧b.Lo.Y≤1000000∧b.Lo.Z≤1000000
        · rw [Qc d];simp only [Q3,qk];congr 1;exact decide_eq_decide.2 q6
        · rw [Q9 d];simp only [Q0,qk];congr 1;exact (Q9 q6).symm
      · simp [a,c,f]
    · simp [a,c]
  · simp [a]
theorem qyo (v : qw) (n : Int) : Jd v n = some (decide ((n≤v.X∧n≤v.Y∧n≤v.Z)∧v.X≤1000000∧v.Y≤1000000∧v.Z≤1000000)):=by
  unfold Jd
  by_cases g : v.X ≥ n <;> by_cases a : v.Y ≥ n <;> by_cases c : v.Z ≥ n <;> by_cases d : v.X≤1000000 <;> by_cases f : v.Y≤1000000 <;> by_cases b : v.Z≤1000000 <;>
    simp [g,a,c,d,f,b] <;> omega
theorem qyy (b : qh) : qag b = some (decide (vB b)):=by
  unfold qag vB;simp only [qyo,qk];by_cases a : (-1000000≤b.Lo.X∧-1000000≤b.Lo.Y∧-1000000≤b.Lo.Z)∧b.Lo.X≤1000000∧b.Lo.Y≤1000000∧b.Lo.Z≤1000000
  · rw [Qc a];simp only [Q3,qk];by_cases c : (-1000000≤b.Hi.X∧-1000000≤b.Hi.Y∧-1000000≤b.Hi.Z)∧b.Hi.X≤1000000∧b.Hi.Y≤1000000∧b.Hi.Z≤1000000
    · rw [Qc c];by_cases g : b.Lo.X < b.Hi.X <;> by_cases d : b.Lo.Y < b.Hi.Y <;> by_cases f : b.Lo.Z < b.Hi.Z <;> simp [g,d,f] <;> omega
    · rw [Q9 c];simp only [Q0,qk];congr 1;exact (Q9 q6).symm
  · rw [Q9 a];simp only [Q0,qk];congr 1;exact (Q9 q6).symm
theorem q14f (l : List qh) (j : l.length≤1000000) : qan l (fun a=>q3s a) = some (decide (¬ ∀ r∈l,vB r)):=by
  have hs : ∀ (k : Nat) (h : k < l.length),q4y l (fun a=>q3s a) (k : Int) = some (if (fun r=>!decide (vB r)) l[k] = true then .inr (.inr (k : Int)) else .inl ((k + 1 : Nat) : Int)):=by
    intro k h;simp only [q4y,dlt h,Q3,Qv h,qk,w64s h j,q3s,qpk];by_cases d : vB l[k] <;> simp [d]
  have hd : q4y l (fun a=>q3s a) (l.length : Int) = some (.inr (.inl ())):=by simp only [q4y,dnl,Q0]
  unfold qan qed;rcases Zh l (fun r=>!decide (vB r)) (fun k _=>(k : Int)) () _ hs hd with ⟨m,b⟩ | ⟨k,g,f,_,b⟩
  · rw [b];have : ∀ r∈l,vB r:=fun r c=>by simpa using m r c
    simp [];omega
  · rw [b];have : ¬ ∀ r∈l,vB r:=fun h=>by simp [h _ (Kp g)] at f
    simp only [qk];rw [Qc this,Qc q6]
theorem q14e (l : List qh) (j : l.length≤1000000) : q2a l (fun a=>q3r a) = some (decide (¬ ∀ r∈l,vB r)):=by
  have hs : ∀ (k : Nat) (h : k < l.length),q1i l (fun a=>q3r a) (k : Int) = some (if (fun r=>!decide (vB r)) l[k] = true then .inr (.inr (k : Int)) else .inl ((k + 1 : Nat) : Int)):=by
    intro k h;simp only [q1i,dlt h,Q3,Qv h,qk,w64s h j,q3r,qpk];by_cases d : vB l[k] <;> simp [d]
  have hd : q1i l (fun a=>q3r a) (l.length : Int) = some (.inr (.inl ())):=by simp only [q1i,dnl,Q0]
  unfold q2a qat;rcases Zh l (fun r=>!decide (vB r)) (fun k _=>(k : Int)) () _ hs hd with ⟨m,b⟩ | ⟨k,g,f,_,b⟩
  · rw [b];have : ∀ r∈l,vB r:=fun r c=>by simpa using m r c
    simp [];omega
  · rw [b];have : ¬ ∀ r∈l,vB r:=fun h=>by simp [h _ (Kp g)] at f
    simp only [qk];rw [Qc this,Qc q6]
theorem qph (s : Mg qj qh) (a b : Int) (c : List qj) (hl : (s.flat putB).length + c.length≤1000000) :
    q8l (s.flat putB) s.sec (s.done.length : Int) s.hi a b c = some ((addM putB s a b c).sec,((addM putB s a b c).done.length : Int),(addM putB s a b c).hi,(addM putB s a b c).flat putB):=by
  have t : (s.flat putB).length = s.done.length + s.sec.length:=by simp [Mg.flat]
  have d : s.sec.length≤1000000:=by omega
  unfold q8l;rcases q1o putB s a b c with ⟨q,r,x,p⟩ | ⟨q,p⟩
  · have hb : decide ((c.length : Int) > 0) = true:=Qc (by have:=List.length_pos_iff.2 q;omega);have z : (s.hi == a) = true:=by simpa using x
    rw [r] at hb;rw [p,r];simp only [hb,Q3,z,qk,qg9 _ _ d,decide_true]
    have:=qcz (fun v : qh=>({Lo:=v.Lo,Hi:=({X:=v.Hi.X,Y:=v.Hi.Y,Z:=b} : qw)} : qh)) s.done (s.sec.map (putB s.lo s.hi)) (by simp;omega) (q8m b) (fun k o f w=>by
      have l : (s.done ++ s.sec.map (putB s.lo s.hi)).length = (s.flat putB).length:=rfl
      simp only [q8m,dlt f,Q3,Qv f,qk,w64s f q6,Int.toNat_natCast]) (fun o=>by simp only [q8m,dnl,Q0])
    rw [show s.flat putB = s.done ++ s.sec.map (putB s.lo s.hi) from rfl,this];simp only [qk,Mg.flat,List.map_map];rfl
  · rw [p]
    have u : ((cond (decide ((c.length : Int) > 0)) (some (s.hi == a)) (some false)).bind fun g=>(cond g ((q7i s.sec c).bind fun j=>some j) (some false))) = some false:=by
      by_cases l : c = []
      · subst l;simp
      · have hb : decide ((c.length : Int) > 0) = true:=Qc (by have:=List.length_pos_iff.2 l;omega);simp only [hb,Q3,qk,qg9 _ _ d];by_cases m : s.hi = a
        · have y : s.sec≠c:=fun h=>q ⟨l,h.symm,m⟩;simp [m,y]
        · have : (s.hi == a) = false:=by simpa using m
          simp [this]
    have n:=qa2 c (putB a b) (s.flat putB) (fun o=>(c,((s.flat putB).length : Int),b,o)) (q8n c a b (s.flat putB)) (fun k f o w=>by
      simp only [q8n,dlt f,Q3,Qv f,qk,w64s f q6];rw [Y7 (by simp;omega)]
      rfl) (fun o=>by simp only [q8n,dnl,Q0])
    rw [← Option.bind_assoc,u];simp only [qk,Q0,n];simp [Mg.flat]
theorem qjd (l : List qh) (o : List Int) (g : l.length≤400) (d : o.length≤10000) : loop (q2d l) (0,o) = some (o ++ zsOf l):=
  U0 l q6 (fun r=>[r.Lo.Z,r.Hi.Z]) o (fun o=>o) (q2d l) (fun k b c a=>by
    have f : c.length = o.length + 2 * k:=by
      rw [a,List.length_append];have:=J3 (l.take k);rw [List.length_take,Nat.min_eq_left q6] at this;unfold zsOf at this;omega
    simp only [q2d,dlt b,Q3,Qv b,qk,w64s b q6]
    rw [Y7 (by simp;omega)]
    rfl) (fun o=>by simp only [q2d,dnl,Q0])
theorem q5p (l : List qh) (g : l.length≤400) (x : Int) : loop (q2e l x) (0,[]) = some (atB l x):=by
  have:=U0 l q6 (fun r=>if covB x r = true then [Jq r] else []) [] (fun o=>o) (q2e l x) (fun k a o d=>by
    have f : o.length≤k:=by rw [d,List.nil_append];have:=Uh (l.take k) x;rw [List.length_take,Nat.min_eq_left q6] at this;exact this
    simp only [q2e,dlt a,Q3,Qv a,qk,w64s a q6];by_cases b : l[k].Lo.Z≤x
    · by_cases c : x < l[k].Hi.Z
      · simp only [b,c,decide_true,Q3,qk,covB,Bool.and_self,if_true];rw [Y7 (by simp;omega)];rfl
      · simp only [b,c,decide_true,decide_false,Q3,Q0,qk,covB,Bool.and_false,if_false,Bool.false_eq_true,List.append_nil]
    · simp only [b,decide_false,Q0,qk,covB,Bool.false_and,if_false,Bool.false_eq_true,List.append_nil]) (fun o=>by simp only [q2e,dnl,Q0])
  rw [List.nil_append] at this;exact this
theorem qp1 {kind : Int} {p q : List qh} {xs : List Int} (ab : K1 (zsOf p ++ zsOf q) = xs) (h : p.length + q.length≤800) (F : Int × List qj × Int × Int × List qh→Option ((Int × List qj × Int × Int × List qh) ⊕ ((List qj × Int × Int × List qh) ⊕ (List qh × Int))))
    (ad : ∀ (a b : Int) (k : Nat) (s : Mg qj qh),(s.flat putB).length + 400≤1000000→(h1 : k + 1 < xs.length)→a = xs[k]'(q6)→b = xs[k + 1]'h1→(secB kind p q a).length≤400→
      F (((k + 1 : Nat) : Int),s.sec,(s.done.length : Int),s.hi,s.flat putB) = some (.inl (((k + 1 + 1 : Nat) : Int),(addM putB s a b (secB kind p q a)).sec,((addM putB s a b (secB kind p q a)).done.length : Int),(addM putB s a b (secB kind p q a)).hi,(addM putB s a b (secB kind p q a)).flat putB)))
    (w : ∀ (a : Int) (k : Nat) (s : Mg qj qh),(h1 : k + 1 < xs.length)→a = xs[k]'(q6)→400 < (secB kind p q a).length→
      F (((k + 1 : Nat) : Int),s.sec,(s.done.length : Int),s.hi,s.flat putB) = some (.inr (.inr ([],4))))
    (v : ∀ (k : Nat) (s : Mg qj qh),xs.length≤k + 1→F (((k + 1 : Nat) : Int),s.sec,(s.done.length : Int),s.hi,s.flat putB) = some (.inr (.inl (s.sec,(s.done.length : Int),s.hi,s.flat putB)))) :
    (∃ a b c,loop F (1,[],0,0,[]) = some (.inl (a,b,c,mrgB kind p q)))∨(400 < (mrgB kind p q).length∧loop F (1,[],0,0,[]) = some (.inr ([],4))):=by
  have an:=J3 p;have ak:=J3 q;obtain ⟨_,ae,d⟩:=U5 (l:=zsOf p ++ zsOf q) (by simp;omega);have d : (K1 (zsOf p ++ zsOf q)).length≤1600:=by simp at d;omega
  have m : ∀ x,(secB kind p q x).length≤(mrgB kind p q).length:=fun x=>qou kind q6 x;have ac : mrgB kind p q = (K4 putB K2 (Yy (K1 (zsOf p ++ zsOf q)) (secB kind p q))).flat putB:=rfl;rw [ac] at m ⊢;rw [ab] at ae d m ⊢;generalize z : Yy xs (secB kind p q) = steps at m ⊢;have ao : steps.length = xs.length - 1:=by rw [← z];exact q8v _ _
  have r : ∀ k (g : k < steps.length),steps[k] = (xs[k]'(q6),xs[k + 1]'(q6),secB kind p q (xs[k]'(q6))):=fun k g=>by subst z;exact q8u g q6
  have aa : ∀ k,k≤steps.length→(∀ j,j < k→∀ t,steps[j]? = some t→t.2.2.length≤400)→((K4 putB K2 (steps.take k)).flat putB).length≤1600 * 400:=fun k g n=>by
    have h1:=qd1 putB (s0:=K2) (M:=400) (steps:=steps.take k) (fun t o=>by
      obtain ⟨i,hi,rfl⟩:=List.getElem_of_mem o;rw [List.length_take] at hi;rw [List.getElem_take]
      exact n i q6 _ (List.getElem?_eq_getElem q6))
    have y : (steps.take k).length≤1600:=by rw [List.length_take];omega
    have h3 : (K2.flat putB : List qh).length = 0:=rfl;have h4 : (steps.take k).length * 400≤1600 * 400:=Nat.mul_le_mul_right _ y;omega
  have main:=qdg (f:=F) (fun k=>(((k + 1 : Nat) : Int),(K4 putB K2 (steps.take k)).sec,((K4 putB K2 (steps.take k)).done.length : Int),(K4 putB K2 (steps.take k)).hi,(K4 putB K2 (steps.take k)).flat putB))
    steps.length (fun j=>∀ t,steps[j]? = some t→t.2.2.length≤400) (.inl ((K4 putB K2 steps).sec,((K4 putB K2 steps).done.length : Int),(K4 putB K2 steps).hi,(K4 putB K2 steps).flat putB)) (.inr ([],4))
    (fun k g n=>by
      have u : k + 1 < xs.length:=by omega
      have hc:=n k (Nat.le_refl _) _ (List.getElem?_eq_getElem g);have hm:=aa k q6 fun j ai=>n j q6;rw [q47 putB g,r k g] at *;simp only at hc
      exact ad _ _ k (K4 putB K2 (steps.take k)) q6 u rfl rfl hc)
    (fun k g n hb=>by
      have u : k + 1 < xs.length:=by omega
      have aj : k < xs.length:=by omega
      refine w _ k (K4 putB K2 (steps.take k)) u rfl ?_;refine Nat.lt_of_not_le fun h=>hb fun t o=>?_;rw [List.getElem?_eq_getElem g,r k g] at o
      cases o;exact h)
    (fun _=>by
      rw [List.take_length]
      exact v steps.length _ q6)
  have ag : ((((0 + 1 : Nat) : Int),(K4 putB K2 (steps.take 0)).sec,((K4 putB K2 (steps.take 0)).done.length : Int),(K4 putB K2 (steps.take 0)).hi,(K4 putB K2 (steps.take 0)).flat putB) : Int × List qj × Int × Int × List qh) = (1,[],0,0,[]):=rfl;rw [ag] at main;rcases main with ⟨_,y⟩ | ⟨j,n,hb,y⟩
  · exact .inl ⟨_,_,_,y⟩
  · refine .inr ⟨?_,y⟩;have am : j < xs.length:=by omega
    have h5 : 400 < (secB kind p q xs[j]).length:=by
      refine Nat.lt_of_not_le fun h=>hb fun t o=>?_;rw [List.getElem?_eq_getElem n,r j n] at o;cases o;exact h
    exact Nat.lt_of_lt_of_le h5 (m xs[j])
theorem qom (l : List qh) (r : l.length≤400) (y : ∀ b∈l,vB b) : q8q l = some (if 400 < (mrgB 2 l []).length then ([],4) else (mrgB 2 l [],0)):=by
  unfold q8q;have v:=J3 l;simp only [show idx [l] 0 = some l from rfl,qk,qjd l [] r qg,List.nil_append];rw [qim _ q6];simp only [qk];have m : zsOf l = zsOf l ++ zsOf []:=by simp [zsOf]
  obtain ⟨_,w,d⟩:=U5 (l:=zsOf l ++ zsOf []) (by rw [← m];omega);have d : (K1 (zsOf l ++ zsOf [])).length≤800:=by rw [← m] at d ⊢;omega
  have g : ∀ z,q27 (atB l z) = some (if 400 < (secB 2 l [] z).length then ([],4) else (secB 2 l [] z,0)):=fun z=>by
    have:=Uh l z;rw [qo9,mkR,qp q6,qr (qqx y z)];rfl
  rw [m]
  have:=qp1 (kind:=2) (p:=l) (q:=[]) rfl (by simp;omega) (q5b (K1 (zsOf l ++ zsOf [])) l)
    (fun a b k s hs f t hb u=>by
      have h0 : k < (K1 (zsOf l ++ zsOf [])).length:=by omega
      have n : idx (K1 (zsOf l ++ zsOf [])) (w64 (((k + 1 : Nat) : Int) - 1)) = some a:=by rw [Qg q6,t];exact Zy q6 q6
      have x : idx (K1 (zsOf l ++ zsOf [])) ((k + 1 : Nat) : Int) = some b:=by rw [hb];exact Qv f
      have h:=g a;rw [qp q6] at h;simp only [q5b,dlt f,Q3,n,x,qk,show idx [l] 0 = some l from rfl,q5p l r,h,show ((0 : Int) != 0) = false from rfl,Q0,qph s a b (secB 2 l [] a) q6]
      rw [w64s f q6])
    (fun a k s f t u=>by
      have n : idx (K1 (zsOf l ++ zsOf [])) (w64 (((k + 1 : Nat) : Int) - 1)) = some a:=by rw [Qg q6,t];exact Zy q6 q6
      have h:=g a;rw [qr u] at h
      simp only [q5b,dlt f,Q3,n,Qv f,qk,show idx [l] 0 = some l from rfl,q5p l r,h,show ((4 : Int) != 0) = true from rfl])
    (fun k s f=>by
      have : decide (((k + 1 : Nat) : Int) < ((K1 (zsOf l ++ zsOf [])).length : Int)) = false:=Q9 q6
      simp only [q5b,this,Q0])
  rcases this with ⟨a,b,c,o⟩ | ⟨j,o⟩
  · rw [o];simp only [qk];by_cases j : 400 < (mrgB 2 l []).length
    · rw [Qc (by omega : ((mrgB 2 l []).length : Int) > 400),qr j];rfl
    · rw [Q9 (by omega : ¬ ((mrgB 2 l []).length : Int) > 400),qp j];rfl
  · rw [o,qr j];rfl
theorem qpd (l : List qh) : q8i l = some (mkB l):=by
  unfold q8i mkB;by_cases b : 400 < l.length
  · rw [Qc (by omega : (l.length : Int) > 400),Q3,qr b]
  rw [Q9 (by omega : ¬ (l.length : Int) > 400),Q0,qp b,q14f l q6,qk];by_cases a : ∀ r∈l,vB r
  · rw [Q9 (fun h=>h a),Q0,qom l q6 a,qr a];rfl
  · rw [Qc a,Q3,qp a]
theorem qty (p q : List qh) (a : p.length≤1000000) : qeb p q = some (decide (p = q)):=sameBox p q a
theorem qbm (l : List qh) : q1j l = some (Qy l):=by
  unfold q1j Qy;by_cases d : 400 < l.length
  · rw [Qc (by omega : (l.length : Int) > 400),Q3,qr d]
  rw [Q9 (by omega : ¬ (l.length : Int) > 400),Q0,qp d,q14e l q6,qk];by_cases a : ∀ r∈l,vB r
  · rw [Q9 (fun h=>h a),Q0,qom l q6 a,qr a,qk];by_cases b : 400 < (mrgB 2 l []).length
    · have c : mrgB 2 l []≠l:=fun h=>by rw [h] at b;exact d b
      rw [qr b,qp c];rfl
    · rw [qp b];simp only [qty (mrgB 2 l []) l q6];by_cases f : mrgB 2 l [] = l <;> simp [f]
  · rw [Qc a,Q3,qp a]
end Go.Sh
namespace Go.Sh
open Go Go.Am
theorem sj1 : qem = q2d:=rfl
theorem sj2 : qen = q2d:=rfl
theorem sj4 : qeo = q2e:=rfl
theorem sj5 : qep = q2e:=rfl
theorem qfw {p : List qh} (h : Qy p = 0) (z : Int) : Yq (atB p z) = 0:=by
  obtain ⟨c,a,b⟩:=Y8.1 h;have:=Uh p z;exact q9i.2 ⟨q6,qqx a z,b.at z⟩
theorem qdl {p : List qh} (h : Qy p = 0) (z : Int) : q27 (atB p z) = some (atB p z,0):=by
  obtain ⟨c,a,b⟩:=q9i.1 (qfw h z);rw [qo9,mkR,qp q6,qr a,qn6 q6 b,qp q6]
theorem qzu (kind : Int) (g : List qj→List qj→Option (List qj × Int)) (hg : ∀ a b,g a b = some (jR kind a b)) (p q : List qh) (hp : Qy p = 0) (j : Qy q = 0) :
    qbq g p q = some (if 400 < (mrgB kind p q).length then ([],4) else (mrgB kind p q,0)):=by
  obtain ⟨n,vp,cp⟩:=Y8.1 hp;obtain ⟨t,vq,cq⟩:=Y8.1 j;unfold qbq;have aa:=J3 p;have ac:=J3 q;simp only [show idx [p,q] 0 = some p from rfl,show idx [p,q] 1 = some q from rfl,qk,sj1,sj2,qjd p [] n qg,List.nil_append,qjd q (zsOf p) t q6];rw [qim _ (by simp;omega)];simp only [qk];obtain ⟨_,x,d⟩:=U5 (l:=zsOf p ++ zsOf q) (by simp;omega);have d : (K1 (zsOf p ++ zsOf q)).length≤1600:=by simp at d;omega
  have w : ∀ z,g (atB p z) (atB q z) = some (if 400 < (secB kind p q z).length then ([],4) else (secB kind p q z,0)):=fun z=>by
    rw [hg,jR,qp (by simp [qfw hp z]),qp (by simp [qfw j z])];rfl
  have:=qp1 (kind:=kind) (p:=p) (q:=q) rfl q6 (q5a (K1 (zsOf p ++ zsOf q)) p q g)
    (fun a b k s hs f r hb v=>by
      have h0 : k < (K1 (zsOf p ++ zsOf q)).length:=by omega
      have u : idx (K1 (zsOf p ++ zsOf q)) (w64 (((k + 1 : Nat) : Int) - 1)) = some a:=by rw [Qg q6,r];exact Zy q6 q6
      have y : idx (K1 (zsOf p ++ zsOf q)) ((k + 1 : Nat) : Int) = some b:=by rw [hb];exact Qv f
      have h:=w a;rw [qp q6] at h;simp only [q5a,dlt f,Q3,u,y,qk,show idx [p,q] 0 = some p from rfl,show idx [p,q] 1 = some q from rfl,sj4,sj5,q5p p n,q5p q t,qdl hp,qdl j,show ((0 : Int) == 0) = true from rfl,h,show ((0 : Int) != 0) = false from rfl,Q0,qph s a b (secB kind p q a) q6]
      rw [w64s f q6])
    (fun a k s f r v=>by
      have u : idx (K1 (zsOf p ++ zsOf q)) (w64 (((k + 1 : Nat) : Int) - 1)) = some a:=by rw [Qg q6,r];exact Zy q6 q6
      have h:=w a;rw [qr v] at h
      simp only [q5a,dlt f,Q3,u,Qv f,qk,show idx [p,q] 0 = some p from rfl,show idx [p,q] 1 = some q from rfl,sj4,sj5,q5p p n,q5p q t,qdl hp,qdl j,show ((0 : Int) == 0) = true from rfl,h,show ((4 : Int) != 0) = true from rfl])
    (fun k s f=>by
      have : decide (((k + 1 : Nat) : Int) < ((K1 (zsOf p ++ zsOf q)).length : Int)) = false:=Q9 q6
      simp only [q5a,this,Q0])
  rcases this with ⟨a,b,c,o⟩ | ⟨m,o⟩
  · rw [o];simp only [qk];by_cases m : 400 < (mrgB kind p q).length
    · rw [Qc (by omega : ((mrgB kind p q).length : Int) > 400),qr m];rfl
    · rw [Q9 (by omega : ¬ ((mrgB kind p q).length : Int) > 400),qp m];rfl
  · rw [o,qr m];rfl
theorem qvc (kind : Int) (g : List qj→List qj→Option (List qj × Int)) (d : ∀ a b,g a b = some (jR kind a b)) (p q : List qh) : qbp p q g = some (jB kind p q):=by
  unfold qbp jB;simp only [qbm,qk];by_cases hp : ¬ Qy p = 0
  · rw [qr hp];have : (Qy p != 0) = true:=by simpa using hp
    rw [this,Q3]
  replace hp:=Classical.not_not.1 hp;by_cases c : ¬ Qy q = 0
  · rw [qp (by simp [hp]),qr c,hp];have : (Qy q != 0) = true:=by simpa using c
    rw [this];rfl
  replace c:=Classical.not_not.1 c;rw [qp (by simp [hp]),qp (by simp [c]),qzu kind g d p q hp c,hp,c];rfl
theorem q14a (p q : List qh) : qbn p q = some (jB 2 p q):=by
  unfold qbn;rw [qvc 2 _ (fun a b=>qz7 a b)];rfl
def q5l (kind : Int) (p q : List qh) (z : Int) : Prop:=400 < (secB kind p q z).length∨400 < (secB 2 p [] z).length∨400 < (secB 2 q [] z).length
theorem qvf (kind : Int) {p q : List qh} (h : p.length + q.length≤800) (j : ∀ z,(atB p z).length + (atB q z).length≤490) {xs : List Int} (s : xs.length≤1000000) {i : Nat} (hi : i + 1 < xs.length) (hb : q5l kind p q (xs[i]'(q6))) (a : Int) (c : List qj) (o : List qh) :
    q26 xs p q kind (c,a,(i : Int),o) = some (.inr (.inr ([],false))):=by
  have b : i < xs.length:=by omega
  have r : w64 ((i : Int) + 1) = ((i + 1 : Nat) : Int):=w64s b s;have y:=Uh p xs[i];have w:=Uh q xs[i];have x:=j xs[i];have m : Uc p xs[i] = some (atB p xs[i]):=qdx p q6 _;have aq : Uc q xs[i] = some (atB q xs[i]):=qdx q q6 _;have k : Jp kind (atB p xs[i]) (atB q xs[i]) = some (secB kind p q xs[i]):=q6s kind q6;have t : Jp 2 (atB p xs[i]) [] = some (secB 2 p [] xs[i]):=q6s 2 (by simp;omega);have g : Jp 2 (atB q xs[i]) [] = some (secB 2 q [] xs[i]):=q6s 2 (by simp;omega);unfold q26;simp only [r,dlt hi,Q3,Qv b,m,aq,k,t,g,qk];by_cases u : 400 < (secB kind p q xs[i]).length
  · have d : decide (((secB kind p q xs[i]).length : Int) > 400) = true:=Qc q6;simp only [d,Q3,qk]
  have d : decide (((secB kind p q xs[i]).length : Int) > 400) = false:=Q9 q6;by_cases n : 400 < (secB 2 p [] xs[i]).length
  · have f : decide (((secB 2 p [] xs[i]).length : Int) > 400) = true:=Qc q6;simp only [d,f,Q3,Q0,qk]
  have f : decide (((secB 2 p [] xs[i]).length : Int) > 400) = false:=Q9 q6;have v : 400 < (secB 2 q [] xs[i]).length:=by rcases hb with h | h | h <;> first | exact absurd h u | exact absurd h n | exact h
  have l : decide (((secB 2 q [] xs[i]).length : Int) > 400) = true:=Qc q6;simp only [d,f,l,Q3,Q0,qk]
theorem qyx (kind : Int) {p q : List qh} (h : p.length + q.length≤800) (hz : ∀ z,(atB p z).length + (atB q z).length≤490) :
    q4v kind p q = some (mrgB kind p q,decide (((mrgB kind p q).length : Int)≤400))∨(q4v kind p q = some ([],false)∧∃ z,q5l kind p q z):=by
  unfold q4v;rw [qyt q6];simp only [qk];have aj:=J3 p;have af:=J3 q;obtain ⟨_,ah,o⟩:=U5 (l:=zsOf p ++ zsOf q) (by simp;omega);have w : (K1 (zsOf p ++ zsOf q)).length≤1600:=by simp at o;omega
  unfold mrgB;generalize K1 (zsOf p ++ zsOf q) = xs at w ⊢;generalize s : Yy xs (secB kind p q) = steps;have ak : steps.length = xs.length - 1:=by rw [← s];exact q8v _ _
  have a : ∀ k (b : k < steps.length),steps[k] = (xs[k]'(q6),xs[k + 1]'(q6),secB kind p q (xs[k]'(q6))):=fun k b=>by subst s;exact q8u b q6
  have v : ∀ k,k≤steps.length→(∀ j,j < k→∀ t,steps[j]? = some t→¬ q5l kind p q t.1)→((K4 putB K2 (steps.take k)).flat putB).length≤1600 * 400:=fun k b d=>by
    have h1:=qd1 putB (s0:=K2) (M:=400) (steps:=steps.take k) (fun t c=>by
      obtain ⟨i,hi,rfl⟩:=List.getElem_of_mem c;rw [List.length_take] at hi;rw [List.getElem_take];have:=d i q6 _ (List.getElem?_eq_getElem q6);rw [a i q6] at this ⊢
      exact Nat.le_of_not_lt fun h=>this (.inl h))
    have r : (steps.take k).length≤1600:=by rw [List.length_take];omega
    have h3 : (K2.flat putB : List qh).length = 0:=rfl;have h4 : (steps.take k).length * 400≤1600 * 400:=Nat.mul_le_mul_right _ r;omega
  have main:=qdg (f:=q26 xs p q kind) (fun k=>((K4 putB K2 (steps.take k)).sec,((K4 putB K2 (steps.take k)).done.length : Int),(k : Int),(K4 putB K2 (steps.take k)).flat putB))
    steps.length (fun j=>∀ t,steps[j]? = some t→¬ q5l kind p q t.1) (.inl ((K4 putB K2 steps).flat putB)) (.inr ([],false)) (fun k b d=>by
      have g : k + 1 < xs.length:=by omega
      have u:=d k (Nat.le_refl _) _ (List.getElem?_eq_getElem b);have hm:=v k q6 fun j ac=>d j q6;rw [a k b] at u
      have n : qjf kind p q xs[k]:=by
        refine ⟨hz _,?_,?_,?_⟩
        · exact Nat.le_of_not_lt fun h=>u (.inl h)
        · exact Nat.le_of_not_lt fun h=>u (.inr (.inl h))
        · exact Nat.le_of_not_lt fun h=>u (.inr (.inr h))
      have:=qvg kind q6 (xs:=xs) q6 g n (K4 putB K2 (steps.take k)) q6 (fun h0=>by subst h0;rfl) (fun aa=>by
        obtain ⟨m,rfl⟩ : ∃ m,k = m + 1:=⟨k - 1,q6⟩
        rw [q47 putB q6,qjg,a m q6])
      rw [this,q47 putB b,a k b])
    (fun k b _ hb=>by
      have g : k + 1 < xs.length:=by omega
      have ad : k < xs.length:=by omega
      refine qvf kind h hz q6 g ?_ _ _ _;refine Classical.byContradiction fun x=>hb fun t c=>?_;rw [List.getElem?_eq_getElem b,a k b] at c
      cases c;exact x)
    (fun _=>by
      rw [List.take_length]
      have hb : decide (w64 ((steps.length : Int) + 1) < (xs.length : Int)) = false:=by
        rw [Qg q6];exact Q9 q6
      unfold q26
      simp only [hb,Q0])
  have y : (((K4 putB K2 (steps.take 0)).sec,((K4 putB K2 (steps.take 0)).done.length : Int),((0 : Nat) : Int),(K4 putB K2 (steps.take 0)).flat putB) : List qj × Int × Int × List qh) = ([],0,0,[]):=rfl;rw [y] at main;rcases main with ⟨h1,r⟩ | ⟨j,d,hb,r⟩
  · exact .inl (by rw [r];rfl)
  · refine .inr ⟨by rw [r];rfl,?_⟩;have ag : j < xs.length:=by omega
    refine ⟨xs[j],?_⟩;refine Classical.byContradiction fun x=>hb fun t c=>?_;rw [List.getElem?_eq_getElem d,a j d] at c;cases c;exact x
theorem qrp {p q : List qh} (h : p.length + q.length≤490) (z : Int) : (atB p z).length + (atB q z).length≤490:=by
  have b:=Uh p z;have a:=Uh q z;omega
theorem q112 (kind : Int) (z : Int) : secB kind [] [] z = []:=qhh kind
theorem qyv (kind : Int) {p q : List qh} (h : p.length + q.length≤800) (a : ∀ z,(atB p z).length + (atB q z).length≤490) (hs : ∀ z,q5l kind p q z→400 < (mrgB kind p q).length) :
    ∃ o,q4v kind p q = some (o,decide ((mrgB kind p q).length≤400))∧((mrgB kind p q).length≤400→o = mrgB kind p q):=by
  rcases qyx kind h a with b | ⟨b,z,a⟩
  · refine ⟨_,?_,fun _=>rfl⟩;rw [b];have : decide (((mrgB kind p q).length : Int)≤400) = decide ((mrgB kind p q).length≤400):=decide_eq_decide.2 q6;rw [this]
  · have:=hs z a;refine ⟨[],?_,fun h=>absurd h q6⟩;rw [b,Q9 q6]
theorem q116 {l : List qh} (h : l.length≤100000) : ∀ z,q5l 2 l [] z→400 < (mrgB 2 l []).length:=by
  intro z a;have b:=qou 2 (p:=l) (q:=[]) (by simpa using h) z;rcases a with a | a | a
  · omega
  · omega
  · rw [q112] at a;simp at a
theorem qz0 (l : List qh) (n : l.length≤1000000) {γ : Type} (f : Int→Option (Int ⊕ (Unit ⊕ γ))) (e : γ) (m : ∀ k (h : k < l.length),f (k : Int) = some (if (fun r=>!decide (vB r)) l[k] = true then .inr (.inr e) else .inl ((k + 1 : Nat) : Int))) (hd : f (l.length : Int) = some (.inr (.inl ()))) :
    loop f 0 = some (if ∀ b∈l,vB b then .inl () else .inr e):=by
  rcases Zh l (fun r=>!decide (vB r)) (fun k _=>e) () f m hd with ⟨j,a⟩ | ⟨k,g,d,_,a⟩
  · have : ∀ r∈l,vB r:=fun r c=>by simpa using j r c
    rw [qr this];exact a
  · have : ¬ ∀ r∈l,vB r:=fun h=>by simp [h _ (Kp g)] at d
    rw [qp this];exact a
theorem qyr (l : List qh) : qae l = some (Qy l):=by
  unfold qae Qy;by_cases d : 400 < l.length
  · rw [Qc (by omega : (l.length : Int) > 400),Q3,qr d]
  rw [Q9 (by omega : ¬ (l.length : Int) > 400),Q0,qp d]
  rw [qz0 l q6 (q6x l) 8 (fun k b=>by
    simp only [q6x,dlt b,Q3,Qv b,qk,qyy,w64s b q6]
    by_cases a : vB l[k] <;> simp [a]) (by simp only [q6x,dnl,Q0])]
  by_cases a : ∀ r∈l,vB r
  · rw [qr a,qr a];obtain ⟨o,m,j⟩:=qyv 2 (p:=l) (q:=[]) (by simp;omega) (qrp (by simp;omega)) (q116 q6);simp only [qk,m];by_cases f : 400 < (mrgB 2 l []).length
    · have c : mrgB 2 l []≠l:=fun h=>by rw [h] at f;exact d f
      rw [Q9 q6,qp c];rfl
    · rw [Qc q6,j q6,sameBox _ l q6];by_cases g : mrgB 2 l [] = l <;> simp [g]
  · rw [qp a,qp a];rfl
end Go.Sh
namespace Go.Sh
open Go Go.Am
def sumN : Nat→(Int→Int)→Int
  | 0,_=>0
  | n + 1,f=>sumN n f + f n
theorem qq4 {f g : Int→Int} : ∀ {n : Nat},(∀ k : Nat,k < n→f k = g k)→sumN n f = sumN n g
  | 0,_=>rfl
  | n + 1,h=>by rw [sumN,sumN,qq4 (n:=n) fun k a=>h k q6,h n q6]
theorem qq3 {f g : Int→Int} : ∀ {n : Nat},sumN n (fun x=>f x + g x) = sumN n f + sumN n g
  | 0=>rfl
  | n + 1=>by rw [sumN,sumN,sumN,qq3 (n:=n)];omega
theorem qq8 {f g : Int→Int} : ∀ {n : Nat},sumN n (fun x=>f x - g x) = sumN n f - sumN n g
  | 0=>rfl
  | n + 1=>by rw [sumN,sumN,sumN,qq8 (n:=n)];omega
theorem qq7 {c : Int} {f : Int→Int} : ∀ {n : Nat},sumN n (fun x=>c * f x) = c * sumN n f
  | 0=>by simp [sumN]
  | n + 1=>by rw [sumN,sumN,qq7 (n:=n),Int.mul_add]
theorem qq9 : ∀ {n : Nat},sumN n (fun _=>0) = 0
  | 0=>rfl
  | n + 1=>by rw [sumN,qq9 (n:=n)];rfl
theorem qq6 {f g : Int→Int} : ∀ {n : Nat},(∀ k : Nat,k < n→f k≤g k)→sumN n f≤sumN n g
  | 0,_=>Int.le_refl _
  | n + 1,h=>by have:=qq6 (n:=n) fun k a=>h k q6;have:=h n q6;rw [sumN,sumN];omega
noncomputable def ind (p : Prop) : Int:=by classical exact if p then 1 else 0
theorem q65 {p : Prop} (h : p) : ind p = 1:=by unfold ind;simp [h]
theorem U8 {p : Prop} (h : ¬ p) : ind p = 0:=by unfold ind;simp [h]
theorem Uo {p q : Prop} (h : p↔q) : ind p = ind q:=by rw [propext h]
theorem q63 {p q : Prop} : ind (p∧q) = ind p * ind q:=by
  by_cases hp : p <;> by_cases a : q
  · rw [q65 ⟨hp,a⟩,q65 hp,q65 a];rfl
  · rw [U8 (fun h=>a h.2),U8 a];simp
  · rw [U8 (fun h=>hp h.1),U8 hp];simp
  · rw [U8 (fun h=>hp h.1),U8 hp];simp
theorem qv4 {p q : Prop} : ind (p∨q) = ind p + ind q - ind (p∧q):=by
  by_cases hp : p <;> by_cases a : q <;> simp [ind,hp,a]
theorem qv3 {p : Prop} : ind (¬ p) = 1 - ind p:=by by_cases hp : p <;> simp [ind,hp]
theorem q64 {p : Prop} : 0≤ind p∧ind p≤1:=by by_cases hp : p <;> simp [ind,hp]
theorem qq5 (a b : Int) : ∀ {n : Nat},sumN n (fun x=>ind (a≤x∧x < b)) = max 0 (min b n - max a 0)
  | 0=>by rw [sumN];omega
  | n + 1=>by
    rw [sumN,qq5 a b (n:=n)]
    by_cases h : a≤(n : Int)∧(n : Int) < b
    · rw [q65 h];omega
    · rw [U8 h];omega
def sumZ (N : Nat) (f : Int→Int) : Int:=sumN (2 * N) fun k=>f (k - N)
theorem qis {N : Nat} {f g : Int→Int} (h : ∀ x : Int,-(N : Int)≤x→x < N→f x = g x) : sumZ N f = sumZ N g:=
  qq4 fun k a=>h _ q6 q6
theorem q159 {N : Nat} {f g : Int→Int} : sumZ N (fun x=>f x + g x) = sumZ N f + sumZ N g:=qq3
theorem q15a {N : Nat} {f g : Int→Int} : sumZ N (fun x=>f x - g x) = sumZ N f - sumZ N g:=qq8
theorem q2h {N : Nat} {c : Int} {f : Int→Int} : sumZ N (fun x=>c * f x) = c * sumZ N f:=qq7
theorem qiw {N : Nat} : sumZ N (fun _=>0) = 0:=qq9
theorem qex {N : Nat} {f g : Int→Int} (h : ∀ x : Int,-(N : Int)≤x→x < N→f x≤g x) : sumZ N f≤sumZ N g:=
  qq6 fun k a=>h _ q6 q6
theorem qew {N : Nat} {a b : Int} (f : -N≤a) (c : a≤b) (d : b≤N) : sumZ N (fun x=>ind (a≤x∧x < b)) = b - a:=by
  unfold sumZ
  have : (fun k : Int=>ind (a≤k - N∧k - N < b)) = fun k=>ind (a + N≤k∧k < b + N):=by
    funext k;exact Uo ⟨fun h=>q6,fun h=>q6⟩
  simp only [this];rw [qq5];omega
theorem qiu {N : Nat} {f : Int→Int} (h : ∀ x : Int,-(N : Int)≤x→x < N→0≤f x) : 0≤sumZ N f:=by
  rw [← qiw (N:=N)];exact qex h
theorem qit {N : Nat} {c : Int} : sumZ N (fun _=>c) = 2 * N * c:=by
  have : ∀ n : Nat,sumN n (fun _=>c) = n * c:=by
    intro n
    induction n with
    | zero=>simp [sumN]
    | succ n ih=>rw [sumN,ih,Int.natCast_succ,Int.add_mul,Int.one_mul]
  unfold sumZ;rw [this];simp
noncomputable def cnt3 (N : Nat) (P : Int→Int→Int→Prop) : Int:=sumZ N fun x=>sumZ N fun y=>sumZ N fun z=>ind (P x y z)
theorem qt4 {N : Nat} {P Q : Int→Int→Int→Prop} (h : ∀ x y z : Int,-(N : Int)≤x∧x < N→-(N : Int)≤y∧y < N→-(N : Int)≤z∧z < N→(P x y z↔Q x y z)) : cnt3 N P = cnt3 N Q:=
  qis fun x g a=>qis fun y c d=>qis fun z f b=>Uo (h x y z ⟨g,a⟩ ⟨c,d⟩ ⟨f,b⟩)
def sumL {α : Type} (f : α→Int) : List α→Int
  | []=>0
  | a::r=>f a + sumL f r
theorem qet {α : Type} (f : α→Int) (a b : List α) : sumL f (a ++ b) = sumL f a + sumL f b:=by
  induction a with
  | nil=>simp [sumL]
  | cons x a ih=>rw [List.cons_append,sumL,sumL,ih];omega
theorem Uf {α : Type} {f g : α→Int} {l : List α} (h : ∀ a∈l,f a = g a) : sumL f l = sumL g l:=by
  induction l with
  | nil=>rfl
  | cons a l ih=>rw [sumL,sumL,h a qg,ih fun b hb=>h b (by simp [hb])]
theorem qeu {α β : Type} (f : β→Int) (g : α→β) (l : List α) : sumL f (l.map g) = sumL (fun a=>f (g a)) l:=by
  induction l with
  | nil=>rfl
  | cons a l ih=>rw [List.map_cons,sumL,sumL,ih]
theorem qir {α : Type} (c : Int) (f : α→Int) (l : List α) : sumL (fun a=>c * f a) l = c * sumL f l:=by
  induction l with
  | nil=>simp [sumL]
  | cons a l ih=>rw [sumL,sumL,ih,Int.mul_add]
theorem qiq {α : Type} (f g : α→Int) (l : List α) : sumL (fun a=>f a + g a) l = sumL f l + sumL g l:=by
  induction l with
  | nil=>rfl
  | cons a l ih=>rw [sumL,sumL,sumL,ih];omega
theorem qq1 {α : Type} (f g : α→Int) (l : List α) : sumL (fun a=>f a - g a) l = sumL f l - sumL g l:=by
  induction l with
  | nil=>rfl
  | cons a l ih=>rw [sumL,sumL,sumL,ih];omega
theorem qq2 {α : Type} (l : List α) : sumL (fun _ : α=>0) l = 0:=by
  induction l with
  | nil=>rfl
  | cons a l ih=>rw [sumL,ih];rfl
theorem qev {α : Type} {N : Nat} (f : α→Int→Int) (l : List α) : sumL (fun a=>sumZ N (f a)) l = sumZ N fun x=>sumL (fun a=>f a x) l:=by
  induction l with
  | nil=>exact qiw.symm
  | cons a l ih=>
    have : (fun x=>sumL (fun a=>f a x) (a::l)) = fun x=>f a x + (fun x=>sumL (fun a=>f a x) l) x:=rfl;rw [sumL,ih,this,q159]
def inB (b : qh) (x y z : Int) : Prop:=(b.Lo.X≤x∧x < b.Hi.X)∧(b.Lo.Y≤y∧y < b.Hi.Y)∧(b.Lo.Z≤z∧z < b.Hi.Z)
def inR (r : qj) (x y : Int) : Prop:=(r.X0≤x∧x < r.X1)∧(r.Y0≤y∧y < r.Y1)
def inS (t : qn) (x : Int) : Prop:=t.Lo≤x∧x < t.Hi
def volB (b : qh) : Int:=(b.Hi.X - b.Lo.X) * (b.Hi.Y - b.Lo.Y) * (b.Hi.Z - b.Lo.Z)
theorem q165 {N : Nat} {b : qh} (h : (b.Lo.X≤b.Hi.X∧b.Lo.Y≤b.Hi.Y∧b.Lo.Z≤b.Hi.Z)∧(-(N : Int)≤b.Lo.X∧-(N : Int)≤b.Lo.Y∧-(N : Int)≤b.Lo.Z)∧b.Hi.X≤N∧b.Hi.Y≤N∧b.Hi.Z≤N) :
    volB b = cnt3 N (inB b):=by
  obtain ⟨⟨m,d,j⟩,⟨k,l,f⟩,a,g,c⟩:=h;unfold cnt3
  have e : ∀ x y,(sumZ N fun z=>ind (inB b x y z)) = ind (b.Lo.X≤x∧x < b.Hi.X) * (ind (b.Lo.Y≤y∧y < b.Hi.Y) * (b.Hi.Z - b.Lo.Z)):=fun x y=>by
    have : (fun z=>ind (inB b x y z)) = fun z=>ind (b.Lo.X≤x∧x < b.Hi.X) * (ind (b.Lo.Y≤y∧y < b.Hi.Y) * ind (b.Lo.Z≤z∧z < b.Hi.Z)):=by
      funext z;unfold inB;rw [q63 (p:=_∧_) (q:=(_∧_)∧_),q63 (p:=_∧_) (q:=_∧_)]
    rw [this,q2h,q2h,qew f j c]
  have n : ∀ x,(sumZ N fun y=>sumZ N fun z=>ind (inB b x y z)) = ind (b.Lo.X≤x∧x < b.Hi.X) * ((b.Hi.Y - b.Lo.Y) * (b.Hi.Z - b.Lo.Z)):=fun x=>by
    have : (fun y=>sumZ N fun z=>ind (inB b x y z)) = fun y=>ind (b.Lo.X≤x∧x < b.Hi.X) * ((b.Hi.Z - b.Lo.Z) * ind (b.Lo.Y≤y∧y < b.Hi.Y)):=by
      funext y;rw [e,Int.mul_comm (b.Hi.Z - b.Lo.Z)]
    rw [this,q2h,q2h,qew l d g,Int.mul_comm (b.Hi.Z - b.Lo.Z)]
  have : (fun x=>sumZ N fun y=>sumZ N fun z=>ind (inB b x y z)) = fun x=>((b.Hi.Y - b.Lo.Y) * (b.Hi.Z - b.Lo.Z)) * ind (b.Lo.X≤x∧x < b.Hi.X):=by
    funext x;rw [n,Int.mul_comm]
  rw [this,q2h,qew k m a,volB];simp only [Int.mul_assoc,Int.mul_left_comm,Int.mul_comm]
noncomputable def cntS (s : List qn) (y : Int) : Int:=sumL (fun t=>ind (inS t y)) s
noncomputable def cntR (l : List qj) (x y : Int) : Int:=sumL (fun t=>ind (inR t x y)) l
noncomputable def cntB (l : List qh) (x y z : Int) : Int:=sumL (fun t=>ind (inB t x y z)) l
theorem qkh : ∀ {s : List qn},Can s→∀ y,cntS s y = ind (has s y)
  | [],_,y=>by rw [U8 (q22 y)];rfl
  | a::s,h,y=>by
    have b:=qkh h.tail y
    unfold cntS at b ⊢
    rw [sumL,b,Uo (J1 (a:=a) (s:=s) (x:=y)),qv4]
    have : ¬ ((a.Lo≤y∧y < a.Hi)∧has s y):=fun ⟨c,h2⟩=>by have:=h.tail_gt h2;omega
    rw [U8 this];unfold inS;omega
theorem qt7 (l : List qj) (x y : Int) : cntR l x y = cntS (covS l x) y:=by
  unfold cntR cntS
  induction l with
  | nil=>rfl
  | cons r l ih=>
    have e : covS (r::l) x = (if covR x r = true then [ysp r] else []) ++ covS l x:=rfl;rw [sumL,ih,e,qet];congr 1;by_cases a : covR x r = true
    · rw [qr a];have:=q5u.1 a;simp only [sumL,Int.add_zero];exact Uo ⟨fun h=>h.2,fun h=>⟨this,h⟩⟩
    · rw [qp a];rw [q5u] at a;exact U8 fun h=>a h.1
theorem qt5 (l : List qh) (x y z : Int) : cntB l x y z = cntR (atB l z) x y:=by
  unfold cntB cntR
  induction l with
  | nil=>rfl
  | cons r l ih=>
    have e : atB (r::l) z = (if covB z r = true then [Jq r] else []) ++ atB l z:=rfl;rw [sumL,ih,e,qet];congr 1;by_cases a : covB z r = true
    · rw [qr a];have:=q2r.1 a;simp only [sumL,Int.add_zero];exact Uo ⟨fun h=>⟨h.1,h.2.1⟩,fun h=>⟨h.1,h.2,this⟩⟩
    · rw [qp a];rw [q2r] at a;exact U8 fun h=>a h.2.2
theorem CanR.cnt {l : List qj} (h : CanR l) (x y : Int) : cntR l x y = ind (hasR l x y):=by
  rw [qt7,qkh (h.cov x),Uo q1c]
theorem CanB.cnt {l : List qh} (h : CanB l) (x y z : Int) : cntB l x y z = ind (hasB l x y z):=by
  rw [qt5,(h.at z).cnt,Uo q4b]
def volL (l : List qh) : Int:=sumL volB l
theorem qj5 {N : Nat} {l : List qh} (a : ∀ x y z,cntB l x y z = ind (hasB l x y z)) (h : ∀ b∈l,(b.Lo.X≤b.Hi.X∧b.Lo.Y≤b.Hi.Y∧b.Lo.Z≤b.Hi.Z)∧(-(N : Int)≤b.Lo.X∧-(N : Int)≤b.Lo.Y∧-(N : Int)≤b.Lo.Z)∧b.Hi.X≤N∧b.Hi.Y≤N∧b.Hi.Z≤N) :
    volL l = cnt3 N (hasB l):=by
  unfold volL;rw [Uf fun b hb=>q165 (h b hb)];unfold cnt3;rw [qev];congr 1;funext x;rw [qev];congr 1;funext y;rw [qev];congr 1;funext z;exact a x y z
theorem qr0 {l : List qh} (a : CanB l) (h : ∀ b∈l,vB b) : volL l = cnt3 1000000 (hasB l):=
  qj5 a.cnt fun b hb=>by have:=h b hb;unfold vB at this;omega
end Go.Sh
namespace Go.Sh
open Go Go.Am
theorem qlh {α β γ : Type} (l : List α) (b : l.length≤1000000) (g : γ→α→γ) (fin : γ→β) (f : γ × Int→Option ((γ × Int) ⊕ β))
    (hs : ∀ k (h : k < l.length) (s : γ),f (s,(k : Int)) = some (.inl (g s l[k],((k + 1 : Nat) : Int)))) (hd : ∀ s,f (s,(l.length : Int)) = some (.inr (fin s))) (s : γ) :
    loop f (s,0) = some (fin (l.foldl g s)):=by
  have key:=Ja (f:=f) (fun k=>((l.take k).foldl g s,(k : Int))) l.length (fin (l.foldl g s)) (fun k a=>by
    rw [hs k a,List.take_succ_eq_append_getElem a,List.foldl_append];rfl) (by rw [List.take_length,hd]) (Nat.zero_le _)
  exact key
theorem qj6 (x : Int) : w64 x = if 9223372036854775808≤x % 18446744073709551616 then x % 18446744073709551616 - 18446744073709551616 else x % 18446744073709551616:=by
  unfold w64 IntKind.wrap;simp [IntKind.bits,IntKind.signed]
theorem q16b (x y : Int) (h : x % 18446744073709551616 = y % 18446744073709551616) : w64 x = w64 y:=by rw [qj6,qj6,h]
theorem q16c (x : Int) : w64 x % 18446744073709551616 = x % 18446744073709551616:=by rw [qj6];split <;> omega
theorem q16a (a b : Int) : w64 (w64 a + b) = w64 (a + b):=q16b _ _ (by have:=q16c a;omega)
theorem qyc {x y z : Int} (c : 0≤x∧x≤2000000) (a : 0≤y∧y≤2000000) (b : 0≤z∧z≤2000000) : (0≤x * y∧x * y≤4000000000000)∧0≤x * y * z∧x * y * z≤8000000000000000000:=by
  have d : 0≤x * y:=Int.mul_nonneg c.1 a.1;have f : x * y≤2000000 * 2000000:=Int.mul_le_mul c.2 a.2 a.1 q6;have g : 0≤x * y * z:=Int.mul_nonneg d b.1;have h : x * y * z≤4000000000000 * 2000000:=Int.mul_le_mul q6 b.2 b.1 q6;omega
theorem q169 {b : qh} (h : vB b) : w64 ((w64 ((w64 (b.Hi.X - b.Lo.X)) * (w64 (b.Hi.Y - b.Lo.Y)))) * (w64 (b.Hi.Z - b.Lo.Z))) = volB b:=by
  unfold vB at h;rw [Qg (x:=b.Hi.X - b.Lo.X) q6,Qg (x:=b.Hi.Y - b.Lo.Y) q6,Qg (x:=b.Hi.Z - b.Lo.Z) q6];have:=qyc (x:=b.Hi.X - b.Lo.X) (y:=b.Hi.Y - b.Lo.Y) (z:=b.Hi.Z - b.Lo.Z) q6 q6 q6;rw [Qg (x:=(b.Hi.X - b.Lo.X) * (b.Hi.Y - b.Lo.Y)) q6,Qg q6];rfl
theorem qlm {α : Type} (f : α→Int) : ∀ (l : List α) (n m : Int),n = w64 m→l.foldl (fun n b=>w64 (n + f b)) n = w64 (m + sumL f l)
  | [],n,m,h=>by simp [sumL,h]
  | b::l,n,m,h=>by
    rw [List.foldl_cons,qlm f l _ (m + f b) (by rw [h,q16a]),sumL,Int.add_assoc]
theorem qll {α γ : Type} {f g : γ→α→γ} : ∀ {l : List α} {s : γ},(∀ b∈l,∀ s,f s b = g s b)→l.foldl f s = l.foldl g s
  | [],_,_=>rfl
  | b::l,s,h=>by rw [List.foldl_cons,List.foldl_cons,h b qg,qll fun c a=>h c (by simp [a])]
theorem qt3 (N : Nat) (P : Int→Int→Int→Prop) : 0≤cnt3 N P∧cnt3 N P≤2 * N * (2 * N * (2 * N * 1)):=by
  constructor
  · exact qiu fun x _ _=>qiu fun y _ _=>qiu fun z _ _=>q64.1
  · rw [← qit (N:=N) (c:=1),← qit,← qit];exact qex fun x _ _=>qex fun y _ _=>qex fun z _ _=>q64.2
theorem q166 {l : List qh} (h : Qy l = 0) : 0≤volL l∧volL l≤8000000000000000000:=by
  obtain ⟨c,a,b⟩:=Y8.1 h;rw [qr0 b a];have:=qt3 1000000 (hasB l);omega
noncomputable def volume (l : List qh) : Int × Int:=if Qy l≠0 then (0,Qy l) else (volL l,0)
theorem q168 {l : List qh} (h : Qy l = 0) : l.foldl (fun n b=>w64 (n + w64 ((w64 ((w64 (b.Hi.X - b.Lo.X)) * (w64 (b.Hi.Y - b.Lo.Y)))) * (w64 (b.Hi.Z - b.Lo.Z))))) 0 = volL l:=by
  obtain ⟨d,a,c⟩:=Y8.1 h;rw [qll (g:=fun n b=>w64 (n + volB b)) fun b hb s=>by rw [q169 (a b hb)]];rw [qlm volB l 0 0 (by rw [Qg q6])];have:=q166 h;rw [Qg (by unfold volL at this;omega),Int.zero_add];rfl
theorem q14c (l : List qh) : qbo l = some (volume l):=by
  unfold qbo volume;rw [qbm,qk];by_cases h : Qy l = 0
  · rw [qp (by simp [h]),h,show ((0 : Int) != 0) = false from rfl,Q0];have c:=(Y8.1 h).1
    rw [qlh l q6 (fun n b=>w64 (n + w64 ((w64 ((w64 (b.Hi.X - b.Lo.X)) * (w64 (b.Hi.Y - b.Lo.Y)))) * (w64 (b.Hi.Z - b.Lo.Z))))) (fun n=>n) (q8k l) (fun k a s=>by
      simp only [q8k,dlt a,Q3,Qv a,qk,qel,w64s a q6]) (fun s=>by simp only [q8k,dnl,Q0]) 0,q168 h]
    rfl
  · have : (Qy l != 0) = true:=by simpa using h
    rw [qr h,this,Q3]
theorem qgp {b : qh} {l : List qh} {x y z : Int} : hasB (b::l) x y z↔inB b x y z∨hasB l x y z:=by
  constructor
  · rintro ⟨c,a,h⟩;rcases List.mem_cons.1 a with rfl | a
    · exact .inl h
    · exact .inr ⟨c,a,h⟩
  · rintro (h | ⟨c,a,h⟩)
    · exact ⟨b,qg,h⟩
    · exact ⟨c,by simp [a],h⟩
instance (b : qh) (x y z : Int) : Decidable (inB b x y z):=by unfold inB;infer_instance
instance qto : (l : List qh)→(x y z : Int)→Decidable (hasB l x y z)
  | [],x,y,z=>isFalse (q37 x y z)
  | b::l,x,y,z=>by
    have:=qto l x y z
    exact decidable_of_iff _ qgp.symm
end Go.Sh
namespace Go.Sh
open Go Go.Am
def q1f {α : Type} (f : α→α→Int) (l : List α) : Nat→Int
  | 0=>0
  | n + 1=>q1f f l n + (match l[n]? with
    | some b=>sumL (fun c=>f b c) (l.take n)
    | none=>0)
theorem qnp {α : Type} (f : α→α→Int) (hs : ∀ a b,f a b = f b a) (l : List α) : ∀ n,n≤l.length→
    sumL (fun b=>sumL (fun c=>f b c) (l.take n)) (l.take n) = sumL (fun b=>f b b) (l.take n) + 2 * q1f f l n
  | 0,_=>by simp [sumL,q1f]
  | n + 1,h=>by
    have d:=qnp f hs l n q6
    rw [List.take_succ_eq_append_getElem q6]
    simp only [qet,sumL,Int.add_zero,q1f,List.getElem?_eq_getElem (show n < l.length by omega),qiq]
    have : sumL (fun b=>f b l[n]) (l.take n) = sumL (fun c=>f l[n] c) (l.take n):=Uf fun b _=>hs b _
    rw [this]
    omega
theorem qq0 {α : Type} (f g : α→α→Int) {l : List α} (hp : l.Pairwise fun a b=>f a b = g a b∧f b a = g b a) : ∀ n,n≤l.length→
    sumL (fun b=>sumL (fun c=>f b c - g b c) (l.take n)) (l.take n) = sumL (fun b=>f b b - g b b) (l.take n)
  | 0,_=>by simp [sumL]
  | n + 1,h=>by
    have j:=qq0 f g hp n q6
    have k:=List.pairwise_iff_getElem.1 hp
    rw [List.take_succ_eq_append_getElem q6]
    simp only [qet,sumL,Int.add_zero,qiq,j]
    have d : ∀ b∈l.take n,f b l[n] = g b l[n]∧f l[n] b = g l[n] b:=fun b hb=>by
      obtain ⟨i,hi,rfl⟩:=List.getElem_of_mem hb
      rw [List.length_take] at hi
      rw [List.getElem_take]
      exact k i n q6 q6 q6
    have o : sumL (fun b=>f b l[n] - g b l[n]) (l.take n) = 0:=(Uf (g:=fun _=>0) fun b hb=>by have:=d b hb;omega).trans (qq2 _)
    have m : sumL (fun c=>f l[n] c - g l[n] c) (l.take n) = 0:=(Uf (g:=fun _=>0) fun b hb=>by have:=d b hb;omega).trans (qq2 _)
    omega
theorem qmb {a b c : Prop} : ind (a∧b∧c) = ind a * (ind b * ind c):=by rw [q63,q63]
def ov (a0 a1 b0 b1 : Int) : Int:=max 0 (min a1 b1 - max a0 b0)
theorem qiv {N : Nat} {a b c b1 : Int} (f : -N≤a) (d : b≤N) : sumZ N (fun x=>ind (a≤x∧x < b) * ind (c≤x∧x < b1)) = ov a b c b1:=by
  have : (fun x : Int=>ind (a≤x∧x < b) * ind (c≤x∧x < b1)) = fun x=>ind (max a c≤x∧x < min b b1):=by
    funext x;rw [← q63];exact Uo ⟨fun h=>q6,fun h=>q6⟩
  rw [this];unfold ov;by_cases h : max a c≤min b b1
  · by_cases hb : c≤b∧a≤b1
    · rw [qew q6 h q6];omega
    · omega
  · have : (fun x : Int=>ind (max a c≤x∧x < min b b1)) = fun _=>0:=by
      funext x;exact U8 q6
    rw [this,qiw];omega
theorem qt9 {N : Nat} {b : qh} {g d c a f j : Int} (h : (-(N : Int)≤b.Lo.X∧-(N : Int)≤b.Lo.Y∧-(N : Int)≤b.Lo.Z)∧b.Hi.X≤N∧b.Hi.Y≤N∧b.Hi.Z≤N) :
    (sumZ N fun x=>sumZ N fun y=>sumZ N fun z=>ind (inB b x y z) * ind ((g≤x∧x < d)∧(c≤y∧y < a)∧(f≤z∧z < j))) = ov b.Lo.X b.Hi.X g d * (ov b.Lo.Y b.Hi.Y c a * ov b.Lo.Z b.Hi.Z f j):=by
  obtain ⟨⟨p,q,m⟩,o,l,k⟩:=h
  have e : ∀ x y,(sumZ N fun z=>ind (inB b x y z) * ind ((g≤x∧x < d)∧(c≤y∧y < a)∧(f≤z∧z < j))) = (ind (b.Lo.X≤x∧x < b.Hi.X) * ind (g≤x∧x < d)) * ((ind (b.Lo.Y≤y∧y < b.Hi.Y) * ind (c≤y∧y < a)) * ov b.Lo.Z b.Hi.Z f j):=fun x y=>by
    have : (fun z=>ind (inB b x y z) * ind ((g≤x∧x < d)∧(c≤y∧y < a)∧(f≤z∧z < j))) = fun z=>(ind (b.Lo.X≤x∧x < b.Hi.X) * ind (g≤x∧x < d)) * ((ind (b.Lo.Y≤y∧y < b.Hi.Y) * ind (c≤y∧y < a)) * (ind (b.Lo.Z≤z∧z < b.Hi.Z) * ind (f≤z∧z < j))):=by
      funext z;unfold inB;rw [qmb,qmb];simp only [Int.mul_assoc,Int.mul_left_comm,Int.mul_comm]
    rw [this,q2h,q2h,qiv m k]
  have n : ∀ x,(sumZ N fun y=>sumZ N fun z=>ind (inB b x y z) * ind ((g≤x∧x < d)∧(c≤y∧y < a)∧(f≤z∧z < j))) = (ov b.Lo.Y b.Hi.Y c a * ov b.Lo.Z b.Hi.Z f j) * (ind (b.Lo.X≤x∧x < b.Hi.X) * ind (g≤x∧x < d)):=fun x=>by
    have : (fun y=>sumZ N fun z=>ind (inB b x y z) * ind ((g≤x∧x < d)∧(c≤y∧y < a)∧(f≤z∧z < j))) = fun y=>((ind (b.Lo.X≤x∧x < b.Hi.X) * ind (g≤x∧x < d)) * ov b.Lo.Z b.Hi.Z f j) * (ind (b.Lo.Y≤y∧y < b.Hi.Y) * ind (c≤y∧y < a)):=by
      funext y;rw [e];simp only [Int.mul_assoc,Int.mul_left_comm,Int.mul_comm]
    rw [this,q2h,qiv q l];simp only [Int.mul_assoc,Int.mul_left_comm,Int.mul_comm]
  simp only [n];rw [q2h,qiv p o,Int.mul_comm]
def Uw (b c : qh) : Int:=
  ov b.Lo.X b.Hi.X (c.Lo.X - 1) (c.Hi.X - 1) * (ov b.Lo.Y b.Hi.Y c.Lo.Y c.Hi.Y * ov b.Lo.Z b.Hi.Z c.Lo.Z c.Hi.Z) + ov b.Lo.X b.Hi.X (c.Lo.X + 1) (c.Hi.X + 1) * (ov b.Lo.Y b.Hi.Y c.Lo.Y c.Hi.Y * ov b.Lo.Z b.Hi.Z c.Lo.Z c.Hi.Z) +
  (ov b.Lo.X b.Hi.X c.Lo.X c.Hi.X * (ov b.Lo.Y b.Hi.Y (c.Lo.Y - 1) (c.Hi.Y - 1) * ov b.Lo.Z b.Hi.Z c.Lo.Z c.Hi.Z) + ov b.Lo.X b.Hi.X c.Lo.X c.Hi.X * (ov b.Lo.Y b.Hi.Y (c.Lo.Y + 1) (c.Hi.Y + 1) * ov b.Lo.Z b.Hi.Z c.Lo.Z c.Hi.Z)) +
  (ov b.Lo.X b.Hi.X c.Lo.X c.Hi.X * (ov b.Lo.Y b.Hi.Y c.Lo.Y c.Hi.Y * ov b.Lo.Z b.Hi.Z (c.Lo.Z - 1) (c.Hi.Z - 1)) + ov b.Lo.X b.Hi.X c.Lo.X c.Hi.X * (ov b.Lo.Y b.Hi.Y c.Lo.Y c.Hi.Y * ov b.Lo.Z b.Hi.Z (c.Lo.Z + 1) (c.Hi.Z + 1)))
def J0 (a b : qh) : Int:=
  let x:=min a.Hi.X b.Hi.X - max a.Lo.X b.Lo.X
  let y:=min a.Hi.Y b.Hi.Y - max a.Lo.Y b.Lo.Y
  let z:=min a.Hi.Z b.Hi.Z - max a.Lo.Z b.Lo.Z
  if x = 0∧y > 0∧z > 0 then y * z else if x > 0∧y = 0∧z > 0 then x * z else if x > 0∧y > 0∧z = 0 then x * y else 0
theorem qtg (a b : qh) : J0 a b = J0 b a:=by
  unfold J0;simp only [Int.min_comm b.Hi.X,Int.max_comm b.Lo.X,Int.min_comm b.Hi.Y,Int.max_comm b.Lo.Y,Int.min_comm b.Hi.Z,Int.max_comm b.Lo.Z]
def ltB (b : qh) : Prop:=b.Lo.X < b.Hi.X∧b.Lo.Y < b.Hi.Y∧b.Lo.Z < b.Hi.Z
theorem ov3 {a b c b1 : Int} (d : a < b) (hb : c < b1) :
    (min b b1 - max a c < 0∧ov a b c b1 = 0∧ov a b (c - 1) (b1 - 1) + ov a b (c + 1) (b1 + 1) = 0∧ov a b (c - 1) (b1 - 1) = 0∧ov a b (c + 1) (b1 + 1) = 0)∨
    (min b b1 - max a c = 0∧ov a b c b1 = 0∧ov a b (c - 1) (b1 - 1) + ov a b (c + 1) (b1 + 1) = 1)∨
    (min b b1 - max a c > 0∧ov a b c b1 = min b b1 - max a c):=by
  unfold ov;omega
theorem qpw {b c : qh} (hb : ltB b) (m : ltB c) (hd : ∀ x y z,¬ (inB b x y z∧inB c x y z)) : Uw b c = J0 b c:=by
  obtain ⟨b1,l,k⟩:=hb;obtain ⟨c1,c2,c3⟩:=m
  have a : ¬ (min b.Hi.X c.Hi.X - max b.Lo.X c.Lo.X > 0∧min b.Hi.Y c.Hi.Y - max b.Lo.Y c.Lo.Y > 0∧min b.Hi.Z c.Hi.Z - max b.Lo.Z c.Lo.Z > 0):=fun ⟨o,h2,h3⟩=>
    hd (max b.Lo.X c.Lo.X) (max b.Lo.Y c.Lo.Y) (max b.Lo.Z c.Lo.Z) (by unfold inB;omega)
  have key : ∀ {X0 X1 Y0 Y1 Z0 d x y z : Int},((x < 0∧X0 = 0∧X1 = 0)∨(x = 0∧X0 = 0∧X1 = 1)∨(x > 0∧X0 = x))→((y < 0∧Y0 = 0∧Y1 = 0)∨(y = 0∧Y0 = 0∧Y1 = 1)∨(y > 0∧Y0 = y))→
      ((z < 0∧Z0 = 0∧d = 0)∨(z = 0∧Z0 = 0∧d = 1)∨(z > 0∧Z0 = z))→¬ (x > 0∧y > 0∧z > 0)→
      X1 * (Y0 * Z0) + X0 * (Y1 * Z0) + X0 * (Y0 * d) = if x = 0∧y > 0∧z > 0 then y * z else if x > 0∧y = 0∧z > 0 then x * z else if x > 0∧y > 0∧z = 0 then x * y else 0:=by
    intro X0 X1 Y0 Y1 Z0 d x y z j g f n
    rcases j with ⟨j,rfl,rfl⟩ | ⟨rfl,rfl,rfl⟩ | ⟨j,rfl⟩ <;> rcases g with ⟨g,rfl,rfl⟩ | ⟨rfl,rfl,rfl⟩ | ⟨g,rfl⟩ <;> rcases f with ⟨f,rfl,rfl⟩ | ⟨rfl,rfl,rfl⟩ | ⟨f,rfl⟩ <;>
      first
        | (exfalso;omega)
        | (simp only [Int.zero_mul,Int.mul_zero,Int.add_zero,Int.zero_add,Int.one_mul,Int.mul_one];clear hd a b1 l k c1 c2 c3;(repeat' split) <;> first | omega | (simp_all;done) | (simp_all;omega))
  have e : Uw b c = (ov b.Lo.X b.Hi.X (c.Lo.X - 1) (c.Hi.X - 1) + ov b.Lo.X b.Hi.X (c.Lo.X + 1) (c.Hi.X + 1)) * (ov b.Lo.Y b.Hi.Y c.Lo.Y c.Hi.Y * ov b.Lo.Z b.Hi.Z c.Lo.Z c.Hi.Z) +
      ov b.Lo.X b.Hi.X c.Lo.X c.Hi.X * ((ov b.Lo.Y b.Hi.Y (c.Lo.Y - 1) (c.Hi.Y - 1) + ov b.Lo.Y b.Hi.Y (c.Lo.Y + 1) (c.Hi.Y + 1)) * ov b.Lo.Z b.Hi.Z c.Lo.Z c.Hi.Z) +
      ov b.Lo.X b.Hi.X c.Lo.X c.Hi.X * (ov b.Lo.Y b.Hi.Y c.Lo.Y c.Hi.Y * (ov b.Lo.Z b.Hi.Z (c.Lo.Z - 1) (c.Hi.Z - 1) + ov b.Lo.Z b.Hi.Z (c.Lo.Z + 1) (c.Hi.Z + 1))):=by
    unfold Uw;simp only [Int.add_mul,Int.mul_add]
  rw [e];unfold J0;refine key ?_ ?_ ?_ a
  · rcases ov3 b1 c1 with h | h | h
    · exact .inl ⟨h.1,h.2.1,h.2.2.1⟩
    · exact .inr (.inl h)
    · exact .inr (.inr h)
  · rcases ov3 l c2 with h | h | h
    · exact .inl ⟨h.1,h.2.1,h.2.2.1⟩
    · exact .inr (.inl h)
    · exact .inr (.inr h)
  · rcases ov3 k c3 with h | h | h
    · exact .inl ⟨h.1,h.2.1,h.2.2.1⟩
    · exact .inr (.inl h)
    · exact .inr (.inr h)
def q10 (b : qh) : Int:=2 * ((b.Hi.X - b.Lo.X) * (b.Hi.Y - b.Lo.Y) + (b.Hi.X - b.Lo.X) * (b.Hi.Z - b.Lo.Z) + (b.Hi.Y - b.Lo.Y) * (b.Hi.Z - b.Lo.Z))
theorem q14y {b : qh} (hb : ltB b) : 6 * volB b - Uw b b = q10 b:=by
  obtain ⟨b1,f,p⟩:=hb;have o : ∀ {a c : Int},a < c→ov a c a c = c - a∧ov a c (a - 1) (c - 1) = c - a - 1∧ov a c (a + 1) (c + 1) = c - a - 1:=fun h=>by unfold ov;omega
  obtain ⟨q,k,g⟩:=o b1;obtain ⟨j,m,d⟩:=o f;obtain ⟨r,l,n⟩:=o p;unfold Uw volB q10;rw [q,k,g,j,m,d,r,l,n];generalize b.Hi.X - b.Lo.X = x;generalize b.Hi.Y - b.Lo.Y = y;generalize b.Hi.Z - b.Lo.Z = z;simp only [Int.sub_mul,Int.mul_sub,Int.one_mul,Int.mul_one,Int.mul_assoc];omega
noncomputable def qix (N : Nat) (P : Int→Int→Int→Prop) : Int:=
  (cnt3 N (fun x y z=>P x y z∧¬ P (x + 1) y z) + cnt3 N (fun x y z=>P x y z∧¬ P (x - 1) y z)) +
  (cnt3 N (fun x y z=>P x y z∧¬ P x (y + 1) z) + cnt3 N (fun x y z=>P x y z∧¬ P x (y - 1) z)) +
  (cnt3 N (fun x y z=>P x y z∧¬ P x y (z + 1)) + cnt3 N (fun x y z=>P x y z∧¬ P x y (z - 1)))
def q3w (l : List qh) : Int:=sumL q10 l - 2 * q1f J0 l l.length
def vBN (N : Nat) (b : qh) : Prop:=ltB b∧(-(N : Int)≤b.Lo.X∧-(N : Int)≤b.Lo.Y∧-(N : Int)≤b.Lo.Z)∧b.Hi.X≤N∧b.Hi.Y≤N∧b.Hi.Z≤N
theorem q5s {N : Nat} {l : List qh} (g : ∀ x y z,cntB l x y z = ind (hasB l x y z)) (h : ∀ b∈l,vBN N b) (f d a : Int) :
    cnt3 N (fun x y z=>hasB l x y z∧¬ hasB l (x + f) (y + d) (z + a)) = volL l - sumL (fun b=>sumL (fun c=>ov b.Lo.X b.Hi.X (c.Lo.X - f) (c.Hi.X - f) * (ov b.Lo.Y b.Hi.Y (c.Lo.Y - d) (c.Hi.Y - d) * ov b.Lo.Z b.Hi.Z (c.Lo.Z - a) (c.Hi.Z - a))) l) l:=by
  have k : ∀ x y z,ind (hasB l x y z∧¬ hasB l (x + f) (y + d) (z + a)) = ind (hasB l x y z) - sumL (fun b=>sumL (fun c=>ind (inB b x y z) * ind ((c.Lo.X - f≤x∧x < c.Hi.X - f)∧(c.Lo.Y - d≤y∧y < c.Hi.Y - d)∧(c.Lo.Z - a≤z∧z < c.Hi.Z - a))) l) l:=fun x y z=>by
    have n : sumL (fun b=>sumL (fun c=>ind (inB b x y z) * ind ((c.Lo.X - f≤x∧x < c.Hi.X - f)∧(c.Lo.Y - d≤y∧y < c.Hi.Y - d)∧(c.Lo.Z - a≤z∧z < c.Hi.Z - a))) l) l = ind (hasB l x y z) * ind (hasB l (x + f) (y + d) (z + a)):=by
      rw [← g,← g]
      have m : ∀ b : qh,sumL (fun c : qh=>ind (inB b x y z) * ind ((c.Lo.X - f≤x∧x < c.Hi.X - f)∧(c.Lo.Y - d≤y∧y < c.Hi.Y - d)∧(c.Lo.Z - a≤z∧z < c.Hi.Z - a))) l = cntB l (x + f) (y + d) (z + a) * ind (inB b x y z):=fun b=>by
        rw [qir,Int.mul_comm];unfold cntB;rw [Uf fun c _=>Uo (q:=inB c (x + f) (y + d) (z + a)) ⟨fun h=>by unfold inB;omega,fun h=>by unfold inB at h;omega⟩]
      simp only [m];rw [qir,Int.mul_comm];rfl
    rw [n,q63,qv3,Int.mul_sub,Int.mul_one]
  unfold cnt3;simp only [k,q15a];have o : (sumZ N fun x=>sumZ N fun y=>sumZ N fun z=>ind (hasB l x y z)) = volL l:=(qj5 g fun b hb=>by have:=h b hb;unfold vBN ltB at this;omega).symm;rw [o];congr 1;simp only [← qev];refine Uf fun b hb=>Uf fun c j=>?_;have:=h b hb;unfold vBN at this;exact qt9 this.2
theorem qta {l : List qh} (f : ∀ x y z,cntB l x y z = ind (hasB l x y z)) : l.Pairwise fun b c=>∀ x y z,¬ (inB b x y z∧inB c x y z):=by
  have key : ∀ l : List qh,(∀ x y z,cntB l x y z≤1)→l.Pairwise fun b c=>∀ x y z,¬ (inB b x y z∧inB c x y z):=by
    intro l
    induction l with
    | nil=>intro _;exact .nil
    | cons b l ih=>
      intro h
      have k : ∀ (l : List qh) x y z,0≤cntB l x y z:=fun l x y z=>by
        unfold cntB;induction l with
        | nil=>exact Int.le_refl _
        | cons c l ih=>have:=(q64 (p:=inB c x y z)).1;rw [sumL];omega
      have g : ∀ x y z,ind (inB b x y z) + cntB l x y z≤1:=h;refine List.pairwise_cons.2 ⟨fun c f x y z ⟨n,h2⟩=>?_,ih fun x y z=>by have:=g x y z;have:=(q64 (p:=inB b x y z)).1;omega⟩;have j:=g x y z;rw [q65 n] at j
      have m : ∀ l : List qh,c∈l→1≤cntB l x y z:=by
        intro l
        induction l with
        | nil=>intro h;cases h
        | cons d l ih2=>
          intro a;have e : cntB (d::l) x y z = ind (inB d x y z) + cntB l x y z:=rfl;rcases List.mem_cons.1 a with rfl | a
          · have:=k l x y z;rw [e,q65 h2];omega
          · have:=ih2 a;have:=(q64 (p:=inB d x y z)).1;rw [e];omega
      have:=m l f;omega
  exact key l fun x y z=>by rw [f];exact q64.2
theorem qqa {N : Nat} {l : List qh} (d : ∀ x y z,cntB l x y z = ind (hasB l x y z)) (h : ∀ b∈l,vBN N b) : q3w l = qix N (hasB l):=by
  have hd:=qta d;have k:=q5s d h 1 0 0;have m:=q5s d h (-1) 0 0;have o:=q5s d h 0 1 0;have q:=q5s d h 0 (-1) 0;have p:=q5s d h 0 0 1;have r:=q5s d h 0 0 (-1);simp only [Int.add_zero,Int.sub_zero,Int.sub_neg,← Int.sub_eq_add_neg] at k m o q p r;unfold qix;rw [k,m,o,q,p,r]
  have j : sumL (fun b=>sumL (fun c=>Uw b c) l) l = 6 * volL l - sumL q10 l + 2 * q1f J0 l l.length:=by
    have g:=qq0 Uw J0 (l:=l) (List.Pairwise.imp_of_mem (fun {b c} hb f a=>⟨qpw (h b hb).1 (h c f).1 a,qpw (h c f).1 (h b hb).1 fun x y z n=>a x y z ⟨n.2,n.1⟩⟩) hd) l.length (Nat.le_refl _);have s:=qnp J0 qtg l l.length (Nat.le_refl _);rw [List.take_length] at g s;simp only [qq1] at g;have t : sumL (fun b=>6 * volB b - Uw b b) l = sumL q10 l:=Uf fun b hb=>q14y (h b hb).1;rw [qq1,qir] at t;unfold volL;have u : sumL (fun b=>sumL (fun c=>Uw b c) l) l - sumL (fun b=>sumL (fun c=>J0 b c) l) l = sumL (fun b=>Uw b b) l - sumL (fun b=>J0 b b) l:=g;omega
  unfold q3w;unfold Uw at j;simp only [qiq] at j;omega
theorem qf1 {b : qh} (h : vB b) : vBN 1000000 b:=by unfold vB at h;unfold vBN ltB;omega
theorem q15b {l : List qh} (a : CanB l) (h : ∀ b∈l,vB b) : q3w l = qix 1000000 (hasB l):=qqa a.cnt fun b hb=>qf1 (h b hb)
end Go.Sh
namespace Go.Sh
open Go Go.Am
theorem q176 {n : Int} (h : (Lit.int .u8 n).wf = true) : 0≤n:=by
  simp [Lit.wf,IntKind.min,IntKind.max,IntKind.signed,IntKind.bits] at h;omega
abbrev V3:=qw × qw × qw
def zeroV : qw:=⟨0,0,0⟩
noncomputable def axT (t : Nat) : V3:=match q2w (t : Int) with
  | some m=>m
  | none=>(zeroV,zeroV,zeroV)
theorem qd3 : ∀ t : Nat,t < 24→q2w (t : Int) = some (axT t):=by decide +kernel
def Zt (v : qw) : Prop:=-1≤v.X∧v.X≤1∧-1≤v.Y∧v.Y≤1∧-1≤v.Z∧v.Z≤1
instance (v : qw) : Decidable (Zt v):=by unfold Zt;infer_instance
theorem qfh : ∀ t : Nat,t < 24→Zt (axT t).1∧Zt (axT t).2.1∧Zt (axT t).2.2:=by decide +kernel
theorem qrq : ∀ t : Nat,t < 24→∀ u : Nat,u < 24→axT t = axT u→t = u:=by decide +kernel
def mulV (m : V3) (v : qw) : qw:=⟨v.X * m.1.X + v.Y * m.2.1.X + v.Z * m.2.2.X,v.X * m.1.Y + v.Y * m.2.1.Y + v.Z * m.2.2.Y,v.X * m.1.Z + v.Y * m.2.1.Z + v.Z * m.2.2.Z⟩
def addV (a b : qw) : qw:=⟨a.X + b.X,a.Y + b.Y,a.Z + b.Z⟩
def Zn (v : qw) (n : Int) : Prop:=-n≤v.X∧v.X≤n∧-n≤v.Y∧v.Y≤n∧-n≤v.Z∧v.Z≤n
theorem qwc {a b : Int} {n : Int} (c : -n≤a∧a≤n) (hb : -1≤b∧b≤1) : -n≤a * b∧a * b≤n:=by
  have : b = -1∨b = 0∨b = 1:=by omega
  rcases this with rfl | rfl | rfl <;> simp <;> omega
theorem qn8 {m : V3} {v : qw} {n : Int} (c : Zt m.1∧Zt m.2.1∧Zt m.2.2) (d : Zn v n) :
    (∀ a∈[v.X * m.1.X,v.Y * m.2.1.X,v.Z * m.2.2.X,v.X * m.1.Y,v.Y * m.2.1.Y,v.Z * m.2.2.Y,v.X * m.1.Z,v.Y * m.2.1.Z,v.Z * m.2.2.Z],-n≤a∧a≤n):=by
  obtain ⟨⟨f,h,w,a4,g,p⟩,⟨b1,j,u,t,z,x⟩,⟨c1,c2,c3,c4,q,y⟩⟩:=c;obtain ⟨k,s,l,o,v5,r⟩:=d;intro a b;simp only [List.mem_cons,List.not_mem_nil,or_false] at b;rcases b with rfl | rfl | rfl | rfl | rfl | rfl | rfl | rfl | rfl <;> exact qwc ⟨by assumption,by assumption⟩ ⟨by assumption,by assumption⟩
theorem qwb {m : V3} {v : qw} {n : Int} (c : Zt m.1∧Zt m.2.1∧Zt m.2.2) (a : Zn v n) : Zn (mulV m v) (3 * n):=by
  have b:=qn8 c a;simp only [List.mem_cons,List.not_mem_nil,or_false,forall_eq_or_imp,forall_eq] at b;unfold Zn mulV;simp only;omega
theorem qd6 {m : V3} {v : qw} (c : Zt m.1∧Zt m.2.1∧Zt m.2.2) (a : Zn v 1000000000000) : q60 m v = some (mulV m v):=by
  have b:=qn8 c a;simp only [List.mem_cons,List.not_mem_nil,or_false,forall_eq_or_imp,forall_eq] at b;unfold q60 mulV;congr 2
  · rw [Qg (x:=v.X * m.1.X) q6,Qg (x:=v.Y * m.2.1.X) q6,Qg (x:=v.Z * m.2.2.X) q6,Qg (x:=v.X * m.1.X + _) q6,Qg q6]
  · rw [Qg (x:=v.X * m.1.Y) q6,Qg (x:=v.Y * m.2.1.Y) q6,Qg (x:=v.Z * m.2.2.Y) q6,Qg (x:=v.X * m.1.Y + _) q6,Qg q6]
  · rw [Qg (x:=v.X * m.1.Z) q6,Qg (x:=v.Y * m.2.1.Z) q6,Qg (x:=v.Z * m.2.2.Z) q6,Qg (x:=v.X * m.1.Z + _) q6,Qg q6]
noncomputable def Kn (t : Nat) (at_ v : qw) : qw:=addV (mulV (axT t) v) at_
theorem qlq {f : K0} {t : Nat} {v : qw} (d : f.Turn = t) (h : t < 24) (g : Zn f.At 1000000000000) (c : Zn v 1000000000000) : q5y f v = some (Kn t f.At v):=by
  have a:=qfh t h;unfold q5y;rw [d,qd3 t h];simp only [qk,qd6 a c];have b:=qwb a c;unfold Zn at b g;unfold Kn addV;rw [Qg q6,Qg q6,Qg q6]
theorem qwe {u : Nat} (h : u < 24) : q9x (axT u) = some (u : Int):=by
  have key:=J2 (f:=q5z (axT u)) (σ:=Unit) (fun k _=>(k : Int)) 24 (fun k _=>k≤u) (fun b=>b = .inr (u : Int)) ?_ ?_ (k0:=0) (c0:=()) q6 q6
  · obtain ⟨b,j,rfl⟩:=key;have j : loop (q5z (axT u)) 0 = some (.inr (u : Int)):=j;unfold q9x;rw [j];rfl
  · intro k _ l o;have hb : decide ((k : Int) < 24) = true:=Qc q6;simp only [q5z,hb,Q3,qd3 k l,qk];by_cases e : k = u
    · subst e;exact .inr ⟨.inr (k : Int),qg,rfl⟩
    · have g : axT k≠axT u:=fun m=>e (qrq k l u h m);refine .inl ⟨(),?_,q6⟩
      have n : IntKind.u8.wrap ((k : Int) + 1) = ((k + 1 : Nat) : Int):=by
        simp [IntKind.wrap,IntKind.bits,IntKind.signed];omega
      have c : ((axT k).1.X == (axT u).1.X && ((axT k).1.Y == (axT u).1.Y && ((axT k).1.Z == (axT u).1.Z && ((axT k).2.1.X == (axT u).2.1.X && ((axT k).2.1.Y == (axT u).2.1.Y && ((axT k).2.1.Z == (axT u).2.1.Z && ((axT k).2.2.X == (axT u).2.2.X && ((axT k).2.2.Y == (axT u).2.2.Y && ((axT k).2.2.Z == (axT u).2.2.Z && true))))))))) = false:=by
        rw [Bool.eq_false_iff];intro d;simp only [Bool.and_eq_true,beq_iff_eq] at d;apply g;generalize axT k = a at d ⊢;generalize axT u = b at d ⊢;obtain ⟨⟨p,r,s⟩,⟨a4,q,z⟩,⟨a7,y,t⟩⟩:=a;obtain ⟨⟨b1,v,b3⟩,⟨b4,b5,b6⟩,⟨b7,x,w⟩⟩:=b;simp only at d;obtain ⟨rfl,rfl,rfl,rfl,rfl,rfl,rfl,rfl,rfl,_⟩:=d;rfl
      rw [c,n];rfl
  · intro _ hi;omega
def qko (n m : V3) : V3:=(mulV n m.1,mulV n m.2.1,mulV n m.2.2)
noncomputable def q44 (t u : Nat) : Nat:=match (List.range 24).find? (fun v=>decide (axT v = qko (axT u) (axT t))) with
  | some v=>v
  | none=>0
theorem qtb : ∀ t : Nat,t < 24→∀ u : Nat,u < 24→q44 t u < 24∧axT (q44 t u) = qko (axT u) (axT t):=by decide +kernel
theorem qj3 {v : qw} (h : Zt v) : Zn v 1000000000000:=by unfold Zt at h;unfold Zn;omega
theorem q16j {f g : K0} {t u : Nat} (l : f.Turn = t) (c : g.Turn = u) (h : t < 24) (a : u < 24) (m : Zn f.At 1000000000000) (n : Zn g.At 1000000000000) : q9y f g = some ⟨(q44 t u : Nat),Kn u g.At f.At⟩:=by
  have b:=qfh u a;obtain ⟨b1,k,o⟩:=qfh t h;unfold q9y;rw [l,c,qd3 t h,qd3 u a];simp only [qk];have p:=qd6 b (qj3 b1);have d:=qd6 b (qj3 k);have j:=qd6 b (qj3 o)
  have key : loop (q2x (axT u)) (0,[(axT t).1,(axT t).2.1,(axT t).2.2]) = some [mulV (axT u) (axT t).1,mulV (axT u) (axT t).2.1,mulV (axT u) (axT t).2.2]:=by
    rw [Kw (a':=((1 : Int),[mulV (axT u) (axT t).1,(axT t).2.1,(axT t).2.2])) (by simp [q2x,idxA,p,Qg])];rw [Kw (a':=((2 : Int),[mulV (axT u) (axT t).1,mulV (axT u) (axT t).2.1,(axT t).2.2])) (by simp [q2x,idxA,d,Qg])];rw [Kw (a':=((3 : Int),[mulV (axT u) (axT t).1,mulV (axT u) (axT t).2.1,mulV (axT u) (axT t).2.2])) (by simp [q2x,idxA,j,Qg])];exact Kg (by simp [q2x])
  rw [key];simp only [qk,arr3];obtain ⟨c1,c2⟩:=qtb t h u a;have : (mulV (axT u) (axT t).1,mulV (axT u) (axT t).2.1,mulV (axT u) (axT t).2.2) = axT (q44 t u):=c2.symm;rw [this,qwe c1,qlq c a n m];rfl
def InV (v : qw) (lo : Int) : Prop:=lo≤v.X∧v.X≤1000000∧lo≤v.Y∧v.Y≤1000000∧lo≤v.Z∧v.Z≤1000000
instance (v : qw) (lo : Int) : Decidable (InV v lo):=by unfold InV;infer_instance
theorem qd0 (v : qw) (lo : Int) : q48 v lo = some (decide (InV v lo)):=by
  unfold q48;by_cases a : min (min v.X v.Y) v.Z ≥ lo
  · by_cases b : max (max v.X v.Y) v.Z≤1000000
    · have : InV v lo:=by unfold InV;omega
      simp only [Qc a,Qc b,Qc this,Q3,qk]
    · have : ¬ InV v lo:=by unfold InV;omega
      simp only [Qc a,Q9 b,Q9 this,Q3,qk]
  · have : ¬ InV v lo:=by unfold InV;omega
    simp only [Q9 a,Q9 this,Q0,qk]
theorem qcd (v : qw) (lo : Int) : Jd v lo = some (decide (InV v lo)):=by
  unfold Jd InV;by_cases a : v.X ≥ lo <;> by_cases b : v.Y ≥ lo <;> by_cases c : v.Z ≥ lo <;> by_cases d : v.X≤1000000 <;> by_cases e : v.Y≤1000000 <;> by_cases f : v.Z≤1000000 <;> simp [a,b,c,d,e,f] <;> omega
def FOk (f : K0) : Prop:=f.Turn < 24∧InV f.At (-1000000)
instance (f : K0) : Decidable (FOk f):=by unfold FOk;infer_instance
def SOk (s : qjp) : Prop:=FOk s.Frame∧InV s.Size 0
instance (s : qjp) : Decidable (SOk s):=by unfold SOk;infer_instance
theorem qka {P Q : Prop} [Decidable P] [Decidable Q] {R : Prop} [Decidable R] (h : R↔P∧Q) : ((cond (decide (¬ P)) (some true) ((some (decide Q)).bind fun a=>some (!a))).bind fun c3=>cond c3 (some (8 : Int)) (some 0)) = some (if R then 0 else 8):=by
  by_cases p : P <;> by_cases q : Q <;> simp [p,q,h]
theorem q2u (f : K0) : U7 f = some (if FOk f then 0 else 8):=by
  unfold U7;rw [qd0];have e : decide (f.Turn ≥ 24) = decide (¬ f.Turn < 24):=by rw [decide_eq_decide];omega
  rw [e];exact qka Iff.rfl
theorem qhw (f : K0) : q4s f = some (if FOk f then 0 else 8):=by
  unfold q4s;rw [qcd];have e : decide (f.Turn ≥ 24) = decide (¬ f.Turn < 24):=by rw [decide_eq_decide];omega
  rw [e];exact qka Iff.rfl
theorem qhi {P : Prop} [Decidable P] {a : Int} (h : a≠0) : ((if P then (0 : Int) else a) != 0) = decide (¬ P):=by
  by_cases p : P <;> simp [p,h]
theorem qdd {v : qw} {lo : Int} (h : InV v lo) (a : -1000000≤lo) : Zn v 1000000000000:=by unfold InV at h;unfold Zn;omega
def qr6 : K0:=⟨0,⟨0,0,0⟩⟩
theorem qrb {f g : K0} {t u : Nat} (k : f.Turn = t) (j : g.Turn = u) (d : FOk f) (a : FOk g) :
    q11 f g = some (if FOk ⟨(q44 t u : Nat),Kn u g.At f.At⟩ then (⟨(q44 t u : Nat),Kn u g.At f.At⟩,0) else (qr6,16)):=by
  unfold q11;rw [q2u,q2u,qr d,qr a];have l : ((0 : Int) != 0) = false:=rfl;simp only [qk,l,Q0];have b : t < 24:=by have:=d.1;omega
  have c : u < 24:=by have:=a.1;omega
  rw [q16j k j b c (qdd d.2 q6) (qdd a.2 q6)];simp only [qk,q2u];by_cases h : FOk ⟨(q44 t u : Nat),Kn u g.At f.At⟩
  · simp only [qr h];rfl
  · simp only [qp h];rfl
end Go.Sh
namespace Go.Sh
open Go Go.Am
def qjb : qh:={Lo:=({X:=0,Y:=0,Z:=0} : qw),Hi:=({X:=0,Y:=0,Z:=0} : qw)}
def qv1 (h b : qh) : qh:={Lo:=({X:=min h.Lo.X b.Lo.X,Y:=min h.Lo.Y b.Lo.Y,Z:=min h.Lo.Z b.Lo.Z} : qw),Hi:=({X:=max h.Hi.X b.Hi.X,Y:=max h.Hi.Y b.Hi.Y,Z:=max h.Hi.Z b.Hi.Z} : qw)}
def qv0 : List qh→qh
  | []=>qjb
  | b::l=>(b::l).foldl qv1 b
noncomputable def hull (l : List qh) : qh × Int:=if Qy l≠0 then (qjb,Qy l) else if l = [] then (qjb,6) else (qv0 l,0)
def rowOk (a b c : Int) : Prop:=(a = 1∧b = 0∧c = 0)∨(a = -1∧b = 0∧c = 0)∨(a = 0∧b = 1∧c = 0)∨(a = 0∧b = -1∧c = 0)∨(a = 0∧b = 0∧c = 1)∨(a = 0∧b = 0∧c = -1)
instance (a b c : Int) : Decidable (rowOk a b c):=by unfold rowOk;infer_instance
theorem qrr : ∀ t : Nat,t < 24→rowOk (axT t).1.X (axT t).2.1.X (axT t).2.2.X∧rowOk (axT t).1.Y (axT t).2.1.Y (axT t).2.2.Y∧rowOk (axT t).1.Z (axT t).2.1.Z (axT t).2.2.Z:=by decide +kernel
theorem qi5 {a b c x y z u v w : Int} (h : rowOk a b c) (g : x < u) (d : y < v) (f : z < w) : x * a + y * b + z * c≠u * a + v * b + w * c:=by
  rcases h with ⟨rfl,rfl,rfl⟩ | ⟨rfl,rfl,rfl⟩ | ⟨rfl,rfl,rfl⟩ | ⟨rfl,rfl,rfl⟩ | ⟨rfl,rfl,rfl⟩ | ⟨rfl,rfl,rfl⟩ <;> omega
def q8r (p q : qw) : qh:={Lo:=({X:=min p.X q.X,Y:=min p.Y q.Y,Z:=min p.Z q.Z} : qw),Hi:=({X:=max p.X q.X,Y:=max p.Y q.Y,Z:=max p.Z q.Z} : qw)}
noncomputable def Yb (t : Nat) (at_ : qw) (b : qh) : qh:=q8r (Kn t at_ b.Lo) (Kn t at_ b.Hi)
theorem qy9 {t : Nat} (h : t < 24) (at_ : qw) {b : qh} (hb : ltB b) : (Kn t at_ b.Lo).X≠(Kn t at_ b.Hi).X∧(Kn t at_ b.Lo).Y≠(Kn t at_ b.Hi).Y∧(Kn t at_ b.Lo).Z≠(Kn t at_ b.Hi).Z:=by
  obtain ⟨d,a,c⟩:=qrr t h;unfold Kn addV mulV;have f:=qi5 d hb.1 hb.2.1 hb.2.2;have j:=qi5 a hb.1 hb.2.1 hb.2.2;have g:=qi5 c hb.1 hb.2.1 hb.2.2;simp only;omega
theorem qqu {t : Nat} (h : t < 24) (at_ : qw) {b : qh} (hb : ltB b) : vB (Yb t at_ b)↔InV (Kn t at_ b.Lo) (-1000000)∧InV (Kn t at_ b.Hi) (-1000000):=by
  obtain ⟨c,a,d⟩:=qy9 h at_ hb;unfold Yb q8r vB InV;simp only;omega
noncomputable def place (l : List qh) (f : K0) : List qh × Int:=
  if Qy l≠0 then ([],Qy l) else if ¬ FOk f then ([],8) else if ∀ b∈l,vB (Yb f.Turn.toNat f.At b) then mkB (l.map (Yb f.Turn.toNat f.At)) else ([],16)
theorem qqw {b : qh} (h : vB b) : Zn b.Lo 1000000000000∧Zn b.Hi 1000000000000∧InV b.Lo (-1000000)∧InV b.Hi (-1000000)∧ltB b:=by
  unfold vB at h;unfold Zn InV ltB;omega
theorem q5o {f : K0} {t : Nat} (d : f.Turn = t) (a : t < 24) (c : FOk f) {v : qw} (b : InV v (-1000000)) : q2t f v = some (if InV (Kn t f.At v) (-1000000) then (Kn t f.At v,0) else (zeroV,16)):=by
  unfold q2t;simp only [q2u,qd0,qk,qr c,show ((0 : Int) != 0) = false from rfl,Q0,Qc b,Bool.not_true];rw [qlq d a (qdd c.2 q6) (qdd b q6)];simp only [qk];by_cases hi : InV (Kn t f.At v) (-1000000)
  · rw [qr hi];simp [hi]
  · rw [qp hi];simp [hi];rfl
theorem qny {l : List qh} (q : l.length≤400) (P : qh→Prop) [DecidablePred P] (pl : qh→qh) (e : List qh × Int) (f : Int × List qh→Option ((Int × List qh) ⊕ ((List qh) ⊕ (List qh × Int))))
    (g : ∀ k (h : k < l.length) (o : List qh),o.length = k→P l[k]→f ((k : Int),o) = some (.inl (((k + 1 : Nat) : Int),o ++ [pl l[k]])))
    (c : ∀ k (h : k < l.length) (o : List qh),o.length = k→¬ P l[k]→f ((k : Int),o) = some (.inr (.inr e)))
    (hd : ∀ o,f ((l.length : Int),o) = some (.inr (.inl o))) : loop f (0,[]) = some (if ∀ b∈l,P b then .inl (l.map pl) else .inr e):=by
  have main:=qdg (f:=f) (fun k=>((k : Int),(l.take k).map pl)) l.length (fun j=>∀ b,l[j]? = some b→P b) (.inl (l.map pl)) (.inr e)
    (fun k a n=>by
      rw [g k a _ (by simp;omega) (n k (Nat.le_refl _) _ (List.getElem?_eq_getElem a)),List.take_succ_eq_append_getElem a,List.map_append];rfl)
    (fun k a _ hb=>c k a _ (by simp;omega) fun h=>hb fun b hb=>by rw [List.getElem?_eq_getElem a] at hb;cases hb;exact h)
    (fun _=>by rw [List.take_length,hd])
  have d : ((((0 : Nat) : Int),(l.take 0).map pl) : Int × List qh) = (0,[]):=rfl;rw [d] at main;rcases main with ⟨p,m⟩ | ⟨j,n,hb,m⟩
  · rw [m,qr];intro b hb;obtain ⟨i,hi,rfl⟩:=List.getElem_of_mem hb;exact p i hi _ (List.getElem?_eq_getElem hi)
  · rw [m,qp];intro h;exact hb fun b hb=>h b (List.mem_of_getElem? hb)
theorem qpf (l : List qh) (f : K0) (w : 0≤f.Turn) : q8j l f = some (place l f):=by
  unfold q8j place;rw [qbm,qk];by_cases h : ¬ Qy l = 0
  · have : (Qy l != 0) = true:=by simpa using h
    rw [qr h,this,Q3]
  replace h:=Classical.not_not.1 h;obtain ⟨v,r,x⟩:=Y8.1 h;rw [qp (by simp [h]),h,show ((0 : Int) != 0) = false from rfl,Q0,q2u,qk];by_cases c : ¬ FOk f
  · rw [qp c,qr c];rfl
  replace c:=Classical.not_not.1 c;rw [qr c,qp (by simp [c]),show ((0 : Int) != 0) = false from rfl,Q0];have m : f.Turn = (f.Turn.toNat : Int):=by omega
  have a : f.Turn.toNat < 24:=by have:=c.1;omega
  rw [qny v (fun b=>vB (Yb f.Turn.toNat f.At b)) (Yb f.Turn.toNat f.At) ([],16) (q59 l f) (fun k g o t d=>by
      obtain ⟨u,s,n,p,q⟩:=qqw (r _ (Kp g));obtain ⟨j,p2⟩:=(qqu a f.At q).1 d;simp only [q59,dlt g,Q3,Qv g,qk,q5o m a c n,q5o m a c p,qr j,qr p2,show ((0 : Int) != 0) = false from rfl,Q0,w64s g q6]
      rw [Y7 (by simp;omega)];rfl) (fun k g o t d=>by
      obtain ⟨u,s,n,p,q⟩:=qqw (r _ (Kp g));rw [qqu a f.At q] at d;simp only [q59,dlt g,Q3,Qv g,qk,q5o m a c n,q5o m a c p];by_cases j : InV (Kn f.Turn.toNat f.At l[k].Lo) (-1000000)
      · have p2 : ¬ InV (Kn f.Turn.toNat f.At l[k].Hi) (-1000000):=fun p2=>d ⟨j,p2⟩;rw [qr j,qp p2];rfl
      · rw [qp j];rfl) (fun o=>by simp only [q59,dnl,Q0])]
  rw [qk];by_cases d : ∀ b∈l,vB (Yb f.Turn.toNat f.At b)
  · rw [qr d,qr d];simp only [qpd,qk]
  · rw [qp d,qp d]
end Go.Sh
namespace Go.Sh
open Go Go.Am
end Go.Sh
namespace Go.Sh
open Go Go.Am
def grpR : List qj→List (Grp qn)
  | []=>[]
  | r::l=>match grpR l with
    | g::gs=>if g.lo = r.X0∧g.hi = r.X1 then ⟨g.lo,g.hi,ysp r::g.sec⟩::gs else ⟨r.X0,r.X1,[ysp r]⟩::g::gs
    | []=>[⟨r.X0,r.X1,[ysp r]⟩]
def grpB : List qh→List (Grp qj)
  | []=>[]
  | r::l=>match grpB l with
    | g::gs=>if g.lo = r.Lo.Z∧g.hi = r.Hi.Z then ⟨g.lo,g.hi,Jq r::g.sec⟩::gs else ⟨r.Lo.Z,r.Hi.Z,[Jq r]⟩::g::gs
    | []=>[⟨r.Lo.Z,r.Hi.Z,[Jq r]⟩]
theorem qm4 : ∀ l : List qj,Yd putR (grpR l) = l
  | []=>rfl
  | r::l=>by
    have a:=qm4 l
    unfold grpR
    split
    · rename_i g d h
      rw [h] at a
      split
      · rename_i b
        obtain ⟨b,c⟩:=b
        rw [← a]
        simp only [Yd,List.flatMap_cons,List.map_cons,List.cons_append,b,c]
        congr 1
      · rw [← a];rfl
    · rename_i h
      rw [h] at a
      rw [← a];rfl
theorem qm3 : ∀ l : List qh,Yd putB (grpB l) = l
  | []=>rfl
  | r::l=>by
    have a:=qm3 l
    unfold grpB
    split
    · rename_i g d h
      rw [h] at a
      split
      · rename_i b
        obtain ⟨b,c⟩:=b
        rw [← a]
        simp only [Yd,List.flatMap_cons,List.map_cons,List.cons_append,b,c]
        congr 1
      · rw [← a];rfl
    · rename_i h
      rw [h] at a
      rw [← a];rfl
instance {σ : Type} [DecidableEq σ] (gs : List (Grp σ)) : Decidable (CanG gs):=by unfold CanG;infer_instance
instance (s : List qn) : Decidable (Can s):=by unfold Can;infer_instance
def isR (l : List qj) : Prop:=CanG (grpR l)∧∀ g∈grpR l,Can g.sec
instance (l : List qj) : Decidable (isR l):=by unfold isR;infer_instance
def isB (l : List qh) : Prop:=CanG (grpB l)∧∀ g∈grpB l,isR g.sec
instance (l : List qh) : Decidable (isB l):=by unfold isB;infer_instance
theorem isR.can {l : List qj} (h : isR l) : CanR l:=⟨grpR l,(qm4 l).symm,h.1,h.2⟩
theorem isB.can {l : List qh} (h : isB l) : CanB l:=⟨grpB l,(qm3 l).symm,h.1,fun g a=>(h.2 g a).can⟩
theorem q2p {l : List qh} (h : l.length≤400∧(∀ b∈l,vB b)∧isB l) : Qy l = 0:=Y8.2 ⟨h.1,h.2.1,h.2.2.can⟩
theorem qn4 {kind : Int} {p q out : List qh} (h : p.length + q.length≤100000) (b : CanB out) (a : ∀ x y z,Y9 kind (hasB p x y z) (hasB q x y z)↔hasB out x y z) : mrgB kind p q = out:=
  qfq (q6j kind h) b fun x y z=>by rw [qd8 kind h];exact a x y z
theorem qw6 {l out : List qh} (h : l.length≤400∧(∀ b∈l,vB b)∧out.length≤400) (c : isB out) (a : ∀ x y z,hasB l x y z↔hasB out x y z) : mkB l = (out,0):=by
  have e : mrgB 2 l [] = out:=qn4 (by simp;omega) c.can fun x y z=>by rw [q4c,← a];simp [q37]
  unfold mkB;rw [qp q6,qr h.2.1,e,qp q6]
theorem qsw {kind : Int} {p q : List qh} (hp : Qy p = 0) (c : Qy q = 0) (f : (mrgB kind p q).length≤400) : Qy (mrgB kind p q) = 0:=by
  obtain ⟨h,b,g⟩:=Y8.1 hp;obtain ⟨j,d,k⟩:=Y8.1 c;have a:=q6j kind (p:=p) (q:=q) q6;exact Y8.2 ⟨f,a.vB (InB.mrg q6 (qf2 b) (qf2 d)),a⟩
theorem qvb (kind : Int) {p q : List qh} (hp : Qy p = 0) (a : Qy q = 0) :
    jB kind p q = ([],4)∨(jB kind p q = (mrgB kind p q,0)∧Qy (mrgB kind p q) = 0∧∀ x y z,hasB (mrgB kind p q) x y z↔Y9 kind (hasB p x y z) (hasB q x y z)):=by
  have b:=(Y8.1 hp).1;have c:=(Y8.1 a).1;unfold jB;rw [qp (by simp [hp]),qp (by simp [a])];by_cases h : 400 < (mrgB kind p q).length
  · exact .inl (by rw [qr h])
  · exact .inr ⟨by rw [qp h],qsw hp a q6,qd8 kind q6⟩
theorem qgy {kind : Int} {p q out : List qh} (hp : Qy p = 0) (a : Qy q = 0) (c : CanB out) (g : out.length≤400) (b : ∀ x y z,Y9 kind (hasB p x y z) (hasB q x y z)↔hasB out x y z) : jB kind p q = (out,0):=by
  have d:=(Y8.1 hp).1;have f:=(Y8.1 a).1;have e:=qn4 (kind:=kind) (p:=p) (q:=q) q6 c b;unfold jB;rw [qp (by simp [hp]),qp (by simp [a]),e,qp q6]
def bx (x y z u v w : Int) : qh:={Lo:=({X:=x,Y:=y,Z:=z} : qw),Hi:=({X:=u,Y:=v,Z:=w} : qw)}
theorem q9h : Qy [] = 0:=q2p qz
instance (kind : Int) (a b : Prop) [Decidable a] [Decidable b] : Decidable (Y9 kind a b):=by unfold Y9;infer_instance
end Go.Sh
