/- Rs1 Rs2 Rs3 Qb1 Rs4 Qb2 Pf3 Rs5 -/
import Derived.Test.YtiejlbckgihckaaGreatK11
namespace Go.Sh
open Go Go.Am
theorem qcc {α β : Type} {f : α→Option (α ⊕ β)} (st : Nat→α) (n : Nat) (ok : Nat→Prop) (b e : β)
    (step : ∀ k,k < n→(∀ j,j≤k→ok j)→f (st k) = some (.inl (st (k + 1))))
    (bad : ∀ k,k < n→(∀ j,j < k→ok j)→¬ ok k→f (st k) = some (.inr e))
    (done : (∀ j,j < n→ok j)→f (st n) = some (.inr b)) :
    ((∀ j,j < n→ok j)∧loop f (st 0) = some b)∨(∃ j,j < n∧¬ ok j∧loop f (st 0) = some e):=by
  by_cases h : ∀ j,j < n→ok j
  · exact .inl ⟨h,Zv st n b (fun k c=>step k c fun j d=>h j q0) (done h) (Nat.zero_le _)⟩
  · refine .inr ?_
    have g : ∃ k,(k < n∧¬ ok k)∧∀ j,j < k→ok j:=by
      have : ∃ k,k < n∧¬ ok k:=by
        refine Classical.byContradiction fun o=>h fun k c=>?_;exact Classical.byContradiction fun h=>o ⟨k,c,h⟩
      obtain ⟨k,c⟩:=this
      induction k using Nat.strongRecOn with
      | _ k ih=>
        by_cases d : ∃ j,j < k∧(j < n∧¬ ok j)
        · obtain ⟨j,l,g⟩:=d;exact ih j l g
        · exact ⟨k,c,fun j l=>Classical.byContradiction fun h=>d ⟨j,l,q0,h⟩⟩
    obtain ⟨K,⟨m,hb⟩,a⟩:=g;exact ⟨K,m,hb,Zv st K e (fun k c=>step k q0 fun j d=>a j q0) (bad K m a hb) (Nat.zero_le _)⟩
theorem qhf (xs : List Int) (h : xs.length≤1000000) :
    ((Ud xs).bind fun c=>(K1 c.length xs.length).bind fun j=>(q1g c).bind fun b=>(K1 b.2.length c.length).bind fun m=>(q1j b.2.length b.1).bind fun k=>some ((b.2.drop b.1.1).take b.1.2)) = some (Qw xs):=by
  obtain ⟨ys,n,g,p⟩:=qoi xs h;have f : ys.length = xs.length:=g.length_eq;obtain ⟨w,a,c1,c2,c3,c4⟩:=qj9 p q0;obtain ⟨_,o,_⟩:=U6 h
  have d : a.take w = Qw xs:=by
    refine qoj (l:=xs) ⟨c4.1,fun x=>?_⟩ o;rw [c4.2 x];exact g.mem_iff
  simp only [qk,n,K1,f,if_true,c1,c2,q1j];rw [qr q0];simp only [qk,List.drop_zero,d]
theorem qpn (l : List qi) (o : List Int) (d : l.length≤400) (g : o.length≤10000) : loop (J9 l) (0,o) = some (o ++ xsOf l):=
  U1 l q0 (fun r=>[r.X0,r.X1]) o (fun o=>o) (J9 l) (fun k a c b=>by
    have f : c.length = o.length + 2 * k:=by
      rw [b,List.length_append];have:=Ug (l.take k);rw [List.length_take,Nat.min_eq_left q0] at this;unfold xsOf at this;omega
    simp only [J9,dlt a,Q2,Qx a,qk,w64s a q0]
    rw [Y4 (by simp;omega)]
    rfl) (fun o=>by simp only [J9,dnl,Q3])
theorem qxf (l : List qi) (m : l.length≤1000000) : qa3 l (fun a=>q3b a) = some (decide (¬ ∀ r∈l,vR r)):=by
  have hs : ∀ (k : Nat) (h : k < l.length),q4p l (fun a=>q3b a) (k : Int) = some (if (fun r=>!decide (vR r)) l[k] = true then .inr (.inr (k : Int)) else .inl ((k + 1 : Nat) : Int)):=by
    intro k h;simp only [q4p,dlt h,Q2,Qx h,qk,w64s h m,q3b,qpd];by_cases g : vR l[k] <;> simp [g]
  have hd : q4p l (fun a=>q3b a) (l.length : Int) = some (.inr (.inl ())):=by simp only [q4p,dnl,Q3]
  unfold qa3 qdb;rcases q2u l (fun r=>!decide (vR r)) (fun k _=>(k : Int)) () _ hs hd with ⟨f,b⟩ | ⟨k,d,j,_,b⟩
  · rw [b];have : ∀ r∈l,vR r:=fun r c=>by simpa using f r c
    simp [];omega
  · rw [b];have : ¬ ∀ r∈l,vR r:=fun h=>by simp [h _ (Ki d)] at j
    simp only [qk];rw [Qf this,Qf q0]
theorem qmw (l : List qi) : q28 l = some (mkR l):=by
  unfold q28 mkR;by_cases b : 400 < l.length
  · rw [Qf (by omega : (l.length : Int) > 400),Q2,qr b]
  rw [Qj (by omega : ¬ (l.length : Int) > 400),Q3,qq b,qxf l q0,qk];by_cases a : ∀ r∈l,vR r
  · rw [Qj (fun h=>h a),Q3,qlg l q0 a,qr a];rfl
  · rw [Qf a,Q2,qq a]
theorem qxc (p q : List qi) : q9v p q = some (if Yj p≠0 then Yj p else Yj q):=by
  unfold q9v;simp only [qx6,qk];by_cases h : Yj p = 0
  · simp [h]
  · have : (Yj p != 0) = true:=by simpa using h
    simp [h,this]
theorem rj1 : qcz = J9:=rfl
theorem rj2 : qd0 = J9:=rfl
theorem rj4 : qd1 = Uu:=rfl
theorem rj5 : qd2 = Uu:=rfl
theorem qit {p : List qi} (h : Yj p = 0) (x : Int) : Yp (covS p x) = 0∧Good (covS p x):=by
  obtain ⟨d,c,b⟩:=q8v.1 h;have a : Good (covS p x):=⟨qji c x,(b.cov x).2⟩
  have:=q11 p x;refine ⟨?_,a⟩;unfold Yp;rw [qq q0,qr a]
theorem qm7 (kind : Int) {p q : List qi} (hp : Yj p = 0) (a : Yj q = 0) (x : Int) : opS kind (covS p x) (covS q x) = if 400 < (secJ kind p q x).length then ([],4) else (secJ kind p q x,0):=by
  unfold opS;rw [qq (by simp [(qit hp x).1]),qq (by simp [(qit a x).1])];rfl
theorem qmy (kind : Int) (f : List qj→List qj→Option (List qj × Int)) (hf : ∀ a b,f a b = some (opS kind a b)) (p q : List qi) : q70 p q f = some (jR kind p q):=by
  unfold q70 jR;rw [qxc,qk];by_cases hp : ¬ Yj p = 0
  · rw [qr hp,qr hp];have : (Yj p != 0) = true:=by simpa using hp
    rw [this,Q2]
  replace hp:=Classical.not_not.1 hp;by_cases n : ¬ Yj q = 0
  · rw [qq (by simp [hp]),qq (by simp [hp]),qr n];have : (Yj q != 0) = true:=by simpa using n
    rw [this,Q2]
  replace n:=Classical.not_not.1 n;rw [qq (by simp [hp]),qq (by simp [hp]),qq (by simp [n]),n];obtain ⟨lp,vp,cp⟩:=q8v.1 hp;obtain ⟨lq,vq,cq⟩:=q8v.1 n;have am:=Ug p;have ao:=Ug q;rw [show ((0 : Int) != 0) = false from rfl,Q3];simp only [show idx [p,q] 0 = some p from rfl,show idx [p,q] 1 = some q from rfl,qk,rj1,rj2,qpn p [] lp qd,List.nil_append,qpn q (xsOf p) lq q0];rw [qhf _ (by simp;omega)];simp only [qk];obtain ⟨_,ad,g⟩:=U6 (l:=xsOf p ++ xsOf q) (by simp;omega);have g : (Qw (xsOf p ++ xsOf q)).length≤1600:=by simp at g;omega
  have o : ∀ x,(secJ kind p q x).length≤(mrgR kind p q).length:=fun x=>qz5 kind q0 x;have af : mrgR kind p q = (Qz putR Qy (Yt (Qw (xsOf p ++ xsOf q)) (secJ kind p q))).flat putR:=rfl;rw [af] at o ⊢;generalize Qw (xsOf p ++ xsOf q) = xs at ad g o ⊢;generalize z : Yt xs (secJ kind p q) = steps at o ⊢;have an : steps.length = xs.length - 1:=by rw [← z];exact q8l _ _
  have w : ∀ k (m : k < steps.length),steps[k] = (xs[k]'(q0),xs[k + 1]'(q0),secJ kind p q (xs[k]'(q0))):=fun k m=>by subst z;exact q8k m q0
  have ab : ∀ k,k≤steps.length→(∀ j,j < k→∀ t,steps[j]? = some t→t.2.2.length≤400)→((Qz putR Qy (steps.take k)).flat putR).length≤1600 * 400:=fun k m s=>by
    have h1:=qc1 putR (s0:=Qy) (M:=400) (steps:=steps.take k) (fun t v=>by
      obtain ⟨i,hi,rfl⟩:=List.getElem_of_mem v;rw [List.length_take] at hi;rw [List.getElem_take]
      exact s i q0 _ (List.getElem?_eq_getElem q0))
    have y : (steps.take k).length≤1600:=by rw [List.length_take];omega
    have h3 : (Qy.flat putR : List qi).length = 0:=rfl;have h4 : (steps.take k).length * 400≤1600 * 400:=Nat.mul_le_mul_right _ y;omega
  have r : ∀ x,loop (Uu p x) (0,[]) = some (covS p x):=fun x=>qg0 p lp x;have u : ∀ x,loop (Uu q x) (0,[]) = some (covS q x):=fun x=>qg0 q lq x
  have main:=qcc (f:=q4m xs p q f) (fun k=>(((k + 1 : Nat) : Int),(Qz putR Qy (steps.take k)).sec,((Qz putR Qy (steps.take k)).done.length : Int),(Qz putR Qy (steps.take k)).hi,(Qz putR Qy (steps.take k)).flat putR))
    steps.length (fun j=>∀ t,steps[j]? = some t→t.2.2.length≤400) (.inl ((Qz putR Qy steps).sec,((Qz putR Qy steps).done.length : Int),(Qz putR Qy steps).hi,(Qz putR Qy steps).flat putR)) (.inr ([],4))
    (fun k m s=>by
      have c : k + 1 < xs.length:=by omega
      have ag : k < xs.length:=by omega
      have i1 : idx xs (w64 (((k + 1 : Nat) : Int) - 1)) = some xs[k]:=by rw [Qb q0];exact Jh q0 q0
      have hc:=s k (Nat.le_refl _) _ (List.getElem?_eq_getElem m);have hm:=ab k q0 fun j au=>s j q0;rw [q3y putR m,w k m] at *;simp only at hc;have hb:=qij (Qz putR Qy (steps.take k)) xs[k] xs[k + 1] (secJ kind p q xs[k]) q0;have ho : f (covS p xs[k]) (covS q xs[k]) = some (secJ kind p q xs[k],0):=by rw [hf,qm7 kind hp n,qq q0]
      simp only [q4m,dlt c,Q2,i1,Qx c,qk,show idx [p,q] 0 = some p from rfl,show idx [p,q] 1 = some q from rfl,rj4,rj5,r,u,ho,show ((0 : Int) != 0) = false from rfl,Q3,hb]
      rw [w64s c q0])
    (fun k m s d=>by
      have c : k + 1 < xs.length:=by omega
      have ag : k < xs.length:=by omega
      have i1 : idx xs (w64 (((k + 1 : Nat) : Int) - 1)) = some xs[k]:=by rw [Qb q0];exact Jh q0 q0
      have hc : 400 < (secJ kind p q xs[k]).length:=by
        refine Nat.lt_of_not_le fun h=>d fun t v=>?_;rw [List.getElem?_eq_getElem m,w k m] at v;cases v;exact h
      have ho : f (covS p xs[k]) (covS q xs[k]) = some ([],4):=by rw [hf,qm7 kind hp n,qr hc]
      simp only [q4m,dlt c,Q2,i1,Qx c,qk,show idx [p,q] 0 = some p from rfl,show idx [p,q] 1 = some q from rfl,rj4,rj5,r,u,ho,show ((4 : Int) != 0) = true from rfl,Q2])
    (fun _=>by
      have : decide (((steps.length + 1 : Nat) : Int) < (xs.length : Int)) = false:=Qj q0
      simp only [List.take_length,q4m,this,Q3])
  have ai : ((((0 + 1 : Nat) : Int),(Qz putR Qy (steps.take 0)).sec,((Qz putR Qy (steps.take 0)).done.length : Int),(Qz putR Qy (steps.take 0)).hi,(Qz putR Qy (steps.take 0)).flat putR) : Int × List qj × Int × Int × List qi) = (1,[],0,0,[]):=rfl;rw [ai] at main;rcases main with ⟨_,y⟩ | ⟨j,s,d,y⟩
  · rw [y];simp only [qk];by_cases h4 : 400 < ((Qz putR Qy steps).flat putR).length
    · rw [Qf (by omega : (((Qz putR Qy steps).flat putR).length : Int) > 400),qr h4];rfl
    · rw [Qj (by omega : ¬ (((Qz putR Qy steps).flat putR).length : Int) > 400),qq h4];rfl
  · rw [y];have ar : j < xs.length:=by omega
    have h5 : 400 < (secJ kind p q xs[j]).length:=by
      refine Nat.lt_of_not_le fun h=>d fun t v=>?_;rw [List.getElem?_eq_getElem s,w j s] at v;cases v;exact h
    have h6:=o xs[j];have h4 : 400 < ((Qz putR Qy steps).flat putR).length:=Nat.lt_of_lt_of_le h5 h6;rw [qr h4];rfl
theorem qxa (p q : List qi) : q6w p q = some (jR 2 p q):=by
  unfold q6w;rw [qmy 2 _ (fun a b=>q13k a b)];rfl
theorem qx8 (p q : List qi) : q6v p q = some (jR 1 p q):=by
  unfold q6v;rw [qmy 1 _ (fun a b=>qu9 a b)];rfl
end Go.Sh
namespace Go.Sh
open Go Go.Am
theorem q12f (v : Q6) : q8b v = some (decide ((-1000000≤v.X∧-1000000≤v.Y∧-1000000≤v.Z)∧v.X≤1000000∧v.Y≤1000000∧v.Z≤1000000)):=by
  unfold q8b;by_cases a : min (min v.X v.Y) v.Z ≥ -1000000
  · by_cases b : max (max v.X v.Y) v.Z≤1000000
    · rw [Qf a,Qf b,Q2,qk];congr 1;exact (Qf q0).symm
    · rw [Qf a,Qj b,Q2,qk];congr 1;exact (Qj q0).symm
  · rw [Qj a,Q3,qk];congr 1;exact (Qj q0).symm
theorem qoe (b : qe) : q8e b = some (decide (vB b)):=by
  unfold q8e vB;simp only [q12f,qk];by_cases a : b.Lo.X < b.Hi.X
  · by_cases c : b.Lo.Y < b.Hi.Y
    · by_cases d : b.Lo.Z < b.Hi.Z
      · simp only [a,c,d,decide_true,Q2,qk,true_and];by_cases f : (-1000000≤b.Lo.X∧-1000000≤b.Lo.Y∧-1000000≤b.Lo.Z)∧b.Lo.X≤1000000∧b.Lo.Y≤1000000∧b.Lo.Z≤1000000
        · rw [Qf f];simp only [Q2,qk];congr 1;exact decide_eq_decide.2 q0
        · rw [Qj f];simp only [Q3,qk];congr 1;exact (Qj q0).symm
      · simp [a,c,d]
    · simp [a,c]
  · simp [a]
theorem qwr (v : Q6) (n : Int) : q6p v n = some (decide ((n≤v.X∧n≤v.Y∧n≤v.Z)∧v.X≤1000000∧v.Y≤1000000∧v.Z≤1000000)):=by
  unfold q6p
  by_cases f : v.X ≥ n <;> by_cases b : v.Y ≥ n <;> by_cases a : v.Z ≥ n <;> by_cases c : v.X≤1000000 <;> by_cases g : v.Y≤1000000 <;> by_cases d : v.Z≤1000000 <;>
    simp [f,b,a,c,g,d] <;> omega
theorem qx0 (b : qe) : q9u b = some (decide (vB b)):=by
  unfold q9u vB;simp only [qwr,qk];by_cases a : (-1000000≤b.Lo.X∧-1000000≤b.Lo.Y∧-1000000≤b.Lo.Z)∧b.Lo.X≤1000000∧b.Lo.Y≤1000000∧b.Lo.Z≤1000000
  · rw [Qf a];simp only [Q2,qk];by_cases c : (-1000000≤b.Hi.X∧-1000000≤b.Hi.Y∧-1000000≤b.Hi.Z)∧b.Hi.X≤1000000∧b.Hi.Y≤1000000∧b.Hi.Z≤1000000
    · rw [Qf c];by_cases g : b.Lo.X < b.Hi.X <;> by_cases f : b.Lo.Y < b.Hi.Y <;> by_cases d : b.Lo.Z < b.Hi.Z <;> simp [g,f,d] <;> omega
    · rw [Qj c];simp only [Q3,qk];congr 1;exact (Qj q0).symm
  · rw [Qj a];simp only [Q3,qk];congr 1;exact (Qj q0).symm
theorem q12e (l : List qe) (m : l.length≤1000000) : qa2 l (fun a=>q3k a) = some (decide (¬ ∀ r∈l,vB r)):=by
  have hs : ∀ (k : Nat) (h : k < l.length),q4o l (fun a=>q3k a) (k : Int) = some (if (fun r=>!decide (vB r)) l[k] = true then .inr (.inr (k : Int)) else .inl ((k + 1 : Nat) : Int)):=by
    intro k h;simp only [q4o,dlt h,Q2,Qx h,qk,w64s h m,q3k,qoe];by_cases g : vB l[k] <;> simp [g]
  have hd : q4o l (fun a=>q3k a) (l.length : Int) = some (.inr (.inl ())):=by simp only [q4o,dnl,Q3]
  unfold qa2 qda;rcases q2u l (fun r=>!decide (vB r)) (fun k _=>(k : Int)) () _ hs hd with ⟨f,b⟩ | ⟨k,d,j,_,b⟩
  · rw [b];have : ∀ r∈l,vB r:=fun r c=>by simpa using f r c
    simp [];omega
  · rw [b];have : ¬ ∀ r∈l,vB r:=fun h=>by simp [h _ (Ki d)] at j
    simp only [qk];rw [Qf this,Qf q0]
theorem q12d (l : List qe) (m : l.length≤1000000) : q4n l (fun a=>q3j a) = some (decide (¬ ∀ r∈l,vB r)):=by
  have hs : ∀ (k : Nat) (h : k < l.length),q1h l (fun a=>q3j a) (k : Int) = some (if (fun r=>!decide (vB r)) l[k] = true then .inr (.inr (k : Int)) else .inl ((k + 1 : Nat) : Int)):=by
    intro k h;simp only [q1h,dlt h,Q2,Qx h,qk,w64s h m,q3j,qoe];by_cases g : vB l[k] <;> simp [g]
  have hd : q1h l (fun a=>q3j a) (l.length : Int) = some (.inr (.inl ())):=by simp only [q1h,dnl,Q3]
  unfold q4n qa7;rcases q2u l (fun r=>!decide (vB r)) (fun k _=>(k : Int)) () _ hs hd with ⟨f,b⟩ | ⟨k,d,j,_,b⟩
  · rw [b];have : ∀ r∈l,vB r:=fun r c=>by simpa using f r c
    simp [];omega
  · rw [b];have : ¬ ∀ r∈l,vB r:=fun h=>by simp [h _ (Ki d)] at j
    simp only [qk];rw [Qf this,Qf q0]
theorem qo7 (s : Mg qi qe) (a b : Int) (c : List qi) (hl : (s.flat putB).length + c.length≤1000000) :
    q88 (s.flat putB) s.sec (s.done.length : Int) s.hi a b c = some ((addM putB s a b c).sec,((addM putB s a b c).done.length : Int),(addM putB s a b c).hi,(addM putB s a b c).flat putB):=by
  have t : (s.flat putB).length = s.done.length + s.sec.length:=by simp [Mg.flat]
  have d : s.sec.length≤1000000:=by omega
  unfold q88;rcases q1m putB s a b c with ⟨q,r,y,n⟩ | ⟨q,n⟩
  · have hb : decide ((c.length : Int) > 0) = true:=Qf (by have:=List.length_pos_iff.2 q;omega);have u : (s.hi == a) = true:=by simpa using y
    rw [r] at hb;rw [n,r];simp only [hb,Q2,u,qk,qf7 _ _ d,decide_true]
    have:=qc0 (fun v : qe=>({Lo:=v.Lo,Hi:=({X:=v.Hi.X,Y:=v.Hi.Y,Z:=b} : Q6)} : qe)) s.done (s.sec.map (putB s.lo s.hi)) (by simp;omega) (q89 b) (fun k o f w=>by
      have l : (s.done ++ s.sec.map (putB s.lo s.hi)).length = (s.flat putB).length:=rfl
      simp only [q89,dlt f,Q2,Qx f,qk,w64s f q0,Int.toNat_natCast]) (fun o=>by simp only [q89,dnl,Q3])
    rw [show s.flat putB = s.done ++ s.sec.map (putB s.lo s.hi) from rfl,this];simp only [qk,Mg.flat,List.map_map];rfl
  · rw [n]
    have z : ((cond (decide ((c.length : Int) > 0)) (some (s.hi == a)) (some false)).bind fun j=>(cond j ((q76 s.sec c).bind fun g=>some g) (some false))) = some false:=by
      by_cases l : c = []
      · subst l;simp
      · have hb : decide ((c.length : Int) > 0) = true:=Qf (by have:=List.length_pos_iff.2 l;omega);simp only [hb,Q2,qk,qf7 _ _ d];by_cases p : s.hi = a
        · have x : s.sec≠c:=fun h=>q ⟨l,h.symm,p⟩;simp [p,x]
        · have : (s.hi == a) = false:=by simpa using p
          simp [this]
    have m:=q9e c (putB a b) (s.flat putB) (fun o=>(c,((s.flat putB).length : Int),b,o)) (q8a c a b (s.flat putB)) (fun k f o w=>by
      simp only [q8a,dlt f,Q2,Qx f,qk,w64s f q0];rw [Y4 (by simp;omega)]
      rfl) (fun o=>by simp only [q8a,dnl,Q3])
    rw [← Option.bind_assoc,z];simp only [qk,Q3,m];simp [Mg.flat]
theorem qhw (l : List qe) (o : List Int) (d : l.length≤400) (g : o.length≤10000) : loop (q2g l) (0,o) = some (o ++ zsOf l):=
  U1 l q0 (fun r=>[r.Lo.Z,r.Hi.Z]) o (fun o=>o) (q2g l) (fun k a c b=>by
    have f : c.length = o.length + 2 * k:=by
      rw [b,List.length_append];have:=J0 (l.take k);rw [List.length_take,Nat.min_eq_left q0] at this;unfold zsOf at this;omega
    simp only [q2g,dlt a,Q2,Qx a,qk,w64s a q0]
    rw [Y4 (by simp;omega)]
    rfl) (fun o=>by simp only [q2g,dnl,Q3])
theorem q5j (l : List qe) (f : l.length≤400) (x : Int) : loop (q2h l x) (0,[]) = some (atB l x):=by
  have:=U1 l q0 (fun r=>if covB x r = true then [Jr r] else []) [] (fun o=>o) (q2h l x) (fun k a o d=>by
    have g : o.length≤k:=by rw [d,List.nil_append];have:=Uh (l.take k) x;rw [List.length_take,Nat.min_eq_left q0] at this;exact this
    simp only [q2h,dlt a,Q2,Qx a,qk,w64s a q0];by_cases b : l[k].Lo.Z≤x
    · by_cases c : x < l[k].Hi.Z
      · simp only [b,c,decide_true,Q2,qk,covB,Bool.and_self,if_true];rw [Y4 (by simp;omega)];rfl
      · simp only [b,c,decide_true,decide_false,Q2,Q3,qk,covB,Bool.and_false,if_false,Bool.false_eq_true,List.append_nil]
    · simp only [b,decide_false,Q3,qk,covB,Bool.false_and,if_false,Bool.false_eq_true,List.append_nil]) (fun o=>by simp only [q2h,dnl,Q3])
  rw [List.nil_append] at this;exact this
theorem qno {kind : Int} {p q : List qe} {xs : List Int} (ae : Qw (zsOf p ++ zsOf q) = xs) (h : p.length + q.length≤800) (F : Int × List qi × Int × Int × List qe→Option ((Int × List qi × Int × Int × List qe) ⊕ ((List qi × Int × Int × List qe) ⊕ (List qe × Int))))
    (aa : ∀ (a b : Int) (k : Nat) (s : Mg qi qe),(s.flat putB).length + 400≤1000000→(h1 : k + 1 < xs.length)→a = xs[k]'(q0)→b = xs[k + 1]'h1→(secB kind p q a).length≤400→
      F (((k + 1 : Nat) : Int),s.sec,(s.done.length : Int),s.hi,s.flat putB) = some (.inl (((k + 1 + 1 : Nat) : Int),(addM putB s a b (secB kind p q a)).sec,((addM putB s a b (secB kind p q a)).done.length : Int),(addM putB s a b (secB kind p q a)).hi,(addM putB s a b (secB kind p q a)).flat putB)))
    (w : ∀ (a : Int) (k : Nat) (s : Mg qi qe),(h1 : k + 1 < xs.length)→a = xs[k]'(q0)→400 < (secB kind p q a).length→
      F (((k + 1 : Nat) : Int),s.sec,(s.done.length : Int),s.hi,s.flat putB) = some (.inr (.inr ([],4))))
    (z : ∀ (k : Nat) (s : Mg qi qe),xs.length≤k + 1→F (((k + 1 : Nat) : Int),s.sec,(s.done.length : Int),s.hi,s.flat putB) = some (.inr (.inl (s.sec,(s.done.length : Int),s.hi,s.flat putB)))) :
    (∃ a b c,loop F (1,[],0,0,[]) = some (.inl (a,b,c,mrgB kind p q)))∨(400 < (mrgB kind p q).length∧loop F (1,[],0,0,[]) = some (.inr ([],4))):=by
  have ai:=J0 p;have ak:=J0 q;obtain ⟨_,ad,d⟩:=U6 (l:=zsOf p ++ zsOf q) (by simp;omega);have d : (Qw (zsOf p ++ zsOf q)).length≤1600:=by simp at d;omega
  have m : ∀ x,(secB kind p q x).length≤(mrgB kind p q).length:=fun x=>qni kind q0 x;have af : mrgB kind p q = (Qz putB Qy (Yt (Qw (zsOf p ++ zsOf q)) (secB kind p q))).flat putB:=rfl;rw [af] at m ⊢;rw [ae] at ad d m ⊢;generalize y : Yt xs (secB kind p q) = steps at m ⊢;have aj : steps.length = xs.length - 1:=by rw [← y];exact q8l _ _
  have u : ∀ k (g : k < steps.length),steps[k] = (xs[k]'(q0),xs[k + 1]'(q0),secB kind p q (xs[k]'(q0))):=fun k g=>by subst y;exact q8k g q0
  have ac : ∀ k,k≤steps.length→(∀ j,j < k→∀ t,steps[j]? = some t→t.2.2.length≤400)→((Qz putB Qy (steps.take k)).flat putB).length≤1600 * 400:=fun k g n=>by
    have h1:=qc1 putB (s0:=Qy) (M:=400) (steps:=steps.take k) (fun t r=>by
      obtain ⟨i,hi,rfl⟩:=List.getElem_of_mem r;rw [List.length_take] at hi;rw [List.getElem_take]
      exact n i q0 _ (List.getElem?_eq_getElem q0))
    have v : (steps.take k).length≤1600:=by rw [List.length_take];omega
    have h3 : (Qy.flat putB : List qe).length = 0:=rfl;have h4 : (steps.take k).length * 400≤1600 * 400:=Nat.mul_le_mul_right _ v;omega
  have main:=qcc (f:=F) (fun k=>(((k + 1 : Nat) : Int),(Qz putB Qy (steps.take k)).sec,((Qz putB Qy (steps.take k)).done.length : Int),(Qz putB Qy (steps.take k)).hi,(Qz putB Qy (steps.take k)).flat putB))
    steps.length (fun j=>∀ t,steps[j]? = some t→t.2.2.length≤400) (.inl ((Qz putB Qy steps).sec,((Qz putB Qy steps).done.length : Int),(Qz putB Qy steps).hi,(Qz putB Qy steps).flat putB)) (.inr ([],4))
    (fun k g n=>by
      have o : k + 1 < xs.length:=by omega
      have hc:=n k (Nat.le_refl _) _ (List.getElem?_eq_getElem g);have hm:=ac k q0 fun j ao=>n j q0;rw [q3y putB g,u k g] at *;simp only at hc
      exact aa _ _ k (Qz putB Qy (steps.take k)) q0 o rfl rfl hc)
    (fun k g n hb=>by
      have o : k + 1 < xs.length:=by omega
      have am : k < xs.length:=by omega
      refine w _ k (Qz putB Qy (steps.take k)) o rfl ?_;refine Nat.lt_of_not_le fun h=>hb fun t r=>?_;rw [List.getElem?_eq_getElem g,u k g] at r
      cases r;exact h)
    (fun _=>by
      rw [List.take_length]
      exact z steps.length _ q0)
  have ag : ((((0 + 1 : Nat) : Int),(Qz putB Qy (steps.take 0)).sec,((Qz putB Qy (steps.take 0)).done.length : Int),(Qz putB Qy (steps.take 0)).hi,(Qz putB Qy (steps.take 0)).flat putB) : Int × List qi × Int × Int × List qe) = (1,[],0,0,[]):=rfl;rw [ag] at main;rcases main with ⟨_,v⟩ | ⟨j,n,hb,v⟩
  · exact .inl ⟨_,_,_,v⟩
  · refine .inr ⟨?_,v⟩;have an : j < xs.length:=by omega
    have h5 : 400 < (secB kind p q xs[j]).length:=by
      refine Nat.lt_of_not_le fun h=>hb fun t r=>?_;rw [List.getElem?_eq_getElem n,u j n] at r;cases r;exact h
    exact Nat.lt_of_lt_of_le h5 (m xs[j])
theorem qna (l : List qe) (r : l.length≤400) (w : ∀ b∈l,vB b) : q8f l = some (if 400 < (mrgB 2 l []).length then ([],4) else (mrgB 2 l [],0)):=by
  unfold q8f;have x:=J0 l;simp only [show idx [l] 0 = some l from rfl,qk,qhw l [] r qd,List.nil_append];rw [qhf _ q0];simp only [qk];have o : zsOf l = zsOf l ++ zsOf []:=by simp [zsOf]
  obtain ⟨_,y,d⟩:=U6 (l:=zsOf l ++ zsOf []) (by rw [← o];omega);have d : (Qw (zsOf l ++ zsOf [])).length≤800:=by rw [← o] at d ⊢;omega
  have h : ∀ z,q28 (atB l z) = some (if 400 < (secB 2 l [] z).length then ([],4) else (secB 2 l [] z,0)):=fun z=>by
    have:=Uh l z;rw [qmw,mkR,qq q0,qr (qpc w z)];rfl
  rw [o]
  have:=qno (kind:=2) (p:=l) (q:=[]) rfl (by simp;omega) (q5b (Qw (zsOf l ++ zsOf [])) l)
    (fun a b k s hs f n hb u=>by
      have h0 : k < (Qw (zsOf l ++ zsOf [])).length:=by omega
      have t : idx (Qw (zsOf l ++ zsOf [])) (w64 (((k + 1 : Nat) : Int) - 1)) = some a:=by rw [Qb q0,n];exact Jh q0 q0
      have v : idx (Qw (zsOf l ++ zsOf [])) ((k + 1 : Nat) : Int) = some b:=by rw [hb];exact Qx f
      have g:=h a;rw [qq q0] at g;simp only [q5b,dlt f,Q2,t,v,qk,show idx [l] 0 = some l from rfl,q5j l r,g,show ((0 : Int) != 0) = false from rfl,Q3,qo7 s a b (secB 2 l [] a) q0]
      rw [w64s f q0])
    (fun a k s f n u=>by
      have t : idx (Qw (zsOf l ++ zsOf [])) (w64 (((k + 1 : Nat) : Int) - 1)) = some a:=by rw [Qb q0,n];exact Jh q0 q0
      have g:=h a;rw [qr u] at g
      simp only [q5b,dlt f,Q2,t,Qx f,qk,show idx [l] 0 = some l from rfl,q5j l r,g,show ((4 : Int) != 0) = true from rfl])
    (fun k s f=>by
      have : decide (((k + 1 : Nat) : Int) < ((Qw (zsOf l ++ zsOf [])).length : Int)) = false:=Qj q0
      simp only [q5b,this,Q3])
  rcases this with ⟨a,b,c,m⟩ | ⟨j,m⟩
  · rw [m];simp only [qk];by_cases j : 400 < (mrgB 2 l []).length
    · rw [Qf (by omega : ((mrgB 2 l []).length : Int) > 400),qr j];rfl
    · rw [Qj (by omega : ¬ ((mrgB 2 l []).length : Int) > 400),qq j];rfl
  · rw [m,qr j];rfl
theorem qdg (l : List qe) : Uw l = some (mkB l):=by
  unfold Uw mkB;by_cases b : 400 < l.length
  · rw [Qf (by omega : (l.length : Int) > 400),Q2,qr b]
  rw [Qj (by omega : ¬ (l.length : Int) > 400),Q3,qq b,q12e l q0,qk];by_cases a : ∀ r∈l,vB r
  · rw [Qj (fun h=>h a),Q3,qna l q0 a,qr a];rfl
  · rw [Qf a,Q2,qq a]
theorem qs9 (p q : List qe) (a : p.length≤1000000) : qd8 p q = some (decide (p = q)):=sameBox p q a
theorem q4z (l : List qe) : Jt l = some (Qu l):=by
  unfold Jt Qu;by_cases d : 400 < l.length
  · rw [Qf (by omega : (l.length : Int) > 400),Q2,qr d]
  rw [Qj (by omega : ¬ (l.length : Int) > 400),Q3,qq d,q12d l q0,qk];by_cases a : ∀ r∈l,vB r
  · rw [Qj (fun h=>h a),Q3,qna l q0 a,qr a,qk];by_cases b : 400 < (mrgB 2 l []).length
    · have c : mrgB 2 l []≠l:=fun h=>by rw [h] at b;exact d b
      rw [qr b,qq c];rfl
    · rw [qq b];simp only [qs9 (mrgB 2 l []) l q0];by_cases f : mrgB 2 l [] = l <;> simp [f]
  · rw [Qf a,Q2,qq a]
end Go.Sh
namespace Go.Sh
open Go Go.Am
theorem sj1 : qdj = q2g:=rfl
theorem sj2 : qdk = q2g:=rfl
theorem sj4 : qdl = q2h:=rfl
theorem sj5 : qdm = q2h:=rfl
theorem qes {p : List qe} (h : Qu p = 0) (z : Int) : Yj (atB p z) = 0:=by
  obtain ⟨c,b,a⟩:=Kp.1 h;have:=Uh p z;exact q8v.2 ⟨q0,qpc b z,a.at z⟩
theorem qci {p : List qe} (h : Qu p = 0) (z : Int) : q28 (atB p z) = some (atB p z,0):=by
  obtain ⟨c,b,a⟩:=q8v.1 (qes h z);rw [qmw,mkR,qq q0,qr b,qlw q0 a,qq q0]
theorem qxy (kind : Int) (g : List qi→List qi→Option (List qi × Int)) (hg : ∀ a b,g a b = some (jR kind a b)) (p q : List qe) (hp : Qu p = 0) (m : Qu q = 0) :
    qb1 g p q = some (if 400 < (mrgB kind p q).length then ([],4) else (mrgB kind p q,0)):=by
  obtain ⟨r,vp,cp⟩:=Kp.1 hp;obtain ⟨u,vq,cq⟩:=Kp.1 m;unfold qb1;have y:=J0 p;have aa:=J0 q;simp only [show idx [p,q] 0 = some p from rfl,show idx [p,q] 1 = some q from rfl,qk,sj1,sj2,qhw p [] r qd,List.nil_append,qhw q (zsOf p) u q0];rw [qhf _ (by simp;omega)];simp only [qk];obtain ⟨_,ac,d⟩:=U6 (l:=zsOf p ++ zsOf q) (by simp;omega);have d : (Qw (zsOf p ++ zsOf q)).length≤1600:=by simp at d;omega
  have v : ∀ z,g (atB p z) (atB q z) = some (if 400 < (secB kind p q z).length then ([],4) else (secB kind p q z,0)):=fun z=>by
    rw [hg,jR,qq (by simp [qes hp z]),qq (by simp [qes m z])];rfl
  have:=qno (kind:=kind) (p:=p) (q:=q) rfl q0 (q5a (Qw (zsOf p ++ zsOf q)) p q g)
    (fun a b k s hs f n hb w=>by
      have h0 : k < (Qw (zsOf p ++ zsOf q)).length:=by omega
      have t : idx (Qw (zsOf p ++ zsOf q)) (w64 (((k + 1 : Nat) : Int) - 1)) = some a:=by rw [Qb q0,n];exact Jh q0 q0
      have x : idx (Qw (zsOf p ++ zsOf q)) ((k + 1 : Nat) : Int) = some b:=by rw [hb];exact Qx f
      have h:=v a;rw [qq q0] at h;simp only [q5a,dlt f,Q2,t,x,qk,show idx [p,q] 0 = some p from rfl,show idx [p,q] 1 = some q from rfl,sj4,sj5,q5j p r,q5j q u,qci hp,qci m,show ((0 : Int) == 0) = true from rfl,h,show ((0 : Int) != 0) = false from rfl,Q3,qo7 s a b (secB kind p q a) q0]
      rw [w64s f q0])
    (fun a k s f n w=>by
      have t : idx (Qw (zsOf p ++ zsOf q)) (w64 (((k + 1 : Nat) : Int) - 1)) = some a:=by rw [Qb q0,n];exact Jh q0 q0
      have h:=v a;rw [qr w] at h
      simp only [q5a,dlt f,Q2,t,Qx f,qk,show idx [p,q] 0 = some p from rfl,show idx [p,q] 1 = some q from rfl,sj4,sj5,q5j p r,q5j q u,qci hp,qci m,show ((0 : Int) == 0) = true from rfl,h,show ((4 : Int) != 0) = true from rfl])
    (fun k s f=>by
      have : decide (((k + 1 : Nat) : Int) < ((Qw (zsOf p ++ zsOf q)).length : Int)) = false:=Qj q0
      simp only [q5a,this,Q3])
  rcases this with ⟨a,b,c,o⟩ | ⟨j,o⟩
  · rw [o];simp only [qk];by_cases j : 400 < (mrgB kind p q).length
    · rw [Qf (by omega : ((mrgB kind p q).length : Int) > 400),qr j];rfl
    · rw [Qj (by omega : ¬ ((mrgB kind p q).length : Int) > 400),qq j];rfl
  · rw [o,qr j];rfl
theorem ql2 (kind : Int) (g : List qi→List qi→Option (List qi × Int)) (d : ∀ a b,g a b = some (jR kind a b)) (p q : List qe) : q8c p q g = some (jB kind p q):=by
  unfold q8c jB;simp only [q4z,qk];by_cases hp : ¬ Qu p = 0
  · rw [qr hp];have : (Qu p != 0) = true:=by simpa using hp
    rw [this,Q2]
  replace hp:=Classical.not_not.1 hp;by_cases c : ¬ Qu q = 0
  · rw [qq (by simp [hp]),qr c,hp];have : (Qu q != 0) = true:=by simpa using c
    rw [this];rfl
  replace c:=Classical.not_not.1 c;rw [qq (by simp [hp]),qq (by simp [c]),qxy kind g d p q hp c,hp,c];rfl
theorem qo3 (p q : List qe) : q85 p q = some (jB 2 p q):=by
  unfold q85;rw [ql2 2 _ (fun a b=>qxa a b)];rfl
theorem qo1 (p q : List qe) : q84 p q = some (jB 1 p q):=by
  unfold q84;rw [ql2 1 _ (fun a b=>qx8 a b)];rfl
def q5g (kind : Int) (p q : List qe) (z : Int) : Prop:=400 < (secB kind p q z).length∨400 < (secB 2 p [] z).length∨400 < (secB 2 q [] z).length
theorem qto (kind : Int) {p q : List qe} (h : p.length + q.length≤800) (s : ∀ z,(atB p z).length + (atB q z).length≤490) {xs : List Int} (m : xs.length≤1000000) {i : Nat} (hi : i + 1 < xs.length) (hb : q5g kind p q (xs[i]'(q0))) (a : Int) (c : List qi) (o : List qe) :
    q27 xs p q kind (c,a,(i : Int),o) = some (.inr (.inr ([],false))):=by
  have b : i < xs.length:=by omega
  have r : w64 ((i : Int) + 1) = ((i + 1 : Nat) : Int):=w64s b m;have y:=Uh p xs[i];have x:=Uh q xs[i];have v:=s xs[i];have u : Uc p xs[i] = some (atB p xs[i]):=qcu p q0 _;have aq : Uc q xs[i] = some (atB q xs[i]):=qcu q q0 _;have k : Jq kind (atB p xs[i]) (atB q xs[i]) = some (secB kind p q xs[i]):=q6n kind q0;have l : Jq 2 (atB p xs[i]) [] = some (secB 2 p [] xs[i]):=q6n 2 (by simp;omega);have t : Jq 2 (atB q xs[i]) [] = some (secB 2 q [] xs[i]):=q6n 2 (by simp;omega);unfold q27;simp only [r,dlt hi,Q2,Qx b,u,aq,k,l,t,qk];by_cases j : 400 < (secB kind p q xs[i]).length
  · have d : decide (((secB kind p q xs[i]).length : Int) > 400) = true:=Qf q0;simp only [d,Q2,qk]
  have d : decide (((secB kind p q xs[i]).length : Int) > 400) = false:=Qj q0;by_cases g : 400 < (secB 2 p [] xs[i]).length
  · have f : decide (((secB 2 p [] xs[i]).length : Int) > 400) = true:=Qf q0;simp only [d,f,Q2,Q3,qk]
  have f : decide (((secB 2 p [] xs[i]).length : Int) > 400) = false:=Qj q0;have w : 400 < (secB 2 q [] xs[i]).length:=by rcases hb with h | h | h <;> first | exact absurd h j | exact absurd h g | exact h
  have n : decide (((secB 2 q [] xs[i]).length : Int) > 400) = true:=Qf q0;simp only [d,f,n,Q2,Q3,qk]
theorem qwz (kind : Int) {p q : List qe} (h : p.length + q.length≤800) (hz : ∀ z,(atB p z).length + (atB q z).length≤490) :
    q4j kind p q = some (mrgB kind p q,decide (((mrgB kind p q).length : Int)≤400))∨(q4j kind p q = some ([],false)∧∃ z,q5g kind p q z):=by
  unfold q4j;rw [qwv q0];simp only [qk];have ad:=J0 p;have ag:=J0 q;obtain ⟨_,ah,o⟩:=U6 (l:=zsOf p ++ zsOf q) (by simp;omega);have x : (Qw (zsOf p ++ zsOf q)).length≤1600:=by simp at o;omega
  unfold mrgB;generalize Qw (zsOf p ++ zsOf q) = xs at x ⊢;generalize r : Yt xs (secB kind p q) = steps;have ae : steps.length = xs.length - 1:=by rw [← r];exact q8l _ _
  have a : ∀ k (b : k < steps.length),steps[k] = (xs[k]'(q0),xs[k + 1]'(q0),secB kind p q (xs[k]'(q0))):=fun k b=>by subst r;exact q8k b q0
  have v : ∀ k,k≤steps.length→(∀ j,j < k→∀ t,steps[j]? = some t→¬ q5g kind p q t.1)→((Qz putB Qy (steps.take k)).flat putB).length≤1600 * 400:=fun k b d=>by
    have h1:=qc1 putB (s0:=Qy) (M:=400) (steps:=steps.take k) (fun t g=>by
      obtain ⟨i,hi,rfl⟩:=List.getElem_of_mem g;rw [List.length_take] at hi;rw [List.getElem_take];have:=d i q0 _ (List.getElem?_eq_getElem q0);rw [a i q0] at this ⊢
      exact Nat.le_of_not_lt fun h=>this (.inl h))
    have n : (steps.take k).length≤1600:=by rw [List.length_take];omega
    have h3 : (Qy.flat putB : List qe).length = 0:=rfl;have h4 : (steps.take k).length * 400≤1600 * 400:=Nat.mul_le_mul_right _ n;omega
  have main:=qcc (f:=q27 xs p q kind) (fun k=>((Qz putB Qy (steps.take k)).sec,((Qz putB Qy (steps.take k)).done.length : Int),(k : Int),(Qz putB Qy (steps.take k)).flat putB))
    steps.length (fun j=>∀ t,steps[j]? = some t→¬ q5g kind p q t.1) (.inl ((Qz putB Qy steps).flat putB)) (.inr ([],false)) (fun k b d=>by
      have c : k + 1 < xs.length:=by omega
      have u:=d k (Nat.le_refl _) _ (List.getElem?_eq_getElem b);have hm:=v k q0 fun j ak=>d j q0;rw [a k b] at u
      have s : qhy kind p q xs[k]:=by
        refine ⟨hz _,?_,?_,?_⟩
        · exact Nat.le_of_not_lt fun h=>u (.inl h)
        · exact Nat.le_of_not_lt fun h=>u (.inr (.inl h))
        · exact Nat.le_of_not_lt fun h=>u (.inr (.inr h))
      have:=qtp kind q0 (xs:=xs) q0 c s (Qz putB Qy (steps.take k)) q0 (fun h0=>by subst h0;rfl) (fun ab=>by
        obtain ⟨m,rfl⟩ : ∃ m,k = m + 1:=⟨k - 1,q0⟩
        rw [q3y putB q0,qhz,a m q0])
      rw [this,q3y putB b,a k b])
    (fun k b _ hb=>by
      have c : k + 1 < xs.length:=by omega
      have ai : k < xs.length:=by omega
      refine qto kind h hz q0 c ?_ _ _ _;refine Classical.byContradiction fun w=>hb fun t g=>?_;rw [List.getElem?_eq_getElem b,a k b] at g
      cases g;exact w)
    (fun _=>by
      rw [List.take_length]
      have hb : decide (w64 ((steps.length : Int) + 1) < (xs.length : Int)) = false:=by
        rw [Qb q0];exact Qj q0
      unfold q27
      simp only [hb,Q3])
  have y : (((Qz putB Qy (steps.take 0)).sec,((Qz putB Qy (steps.take 0)).done.length : Int),((0 : Nat) : Int),(Qz putB Qy (steps.take 0)).flat putB) : List qi × Int × Int × List qe) = ([],0,0,[]):=rfl;rw [y] at main;rcases main with ⟨h1,n⟩ | ⟨j,d,hb,n⟩
  · exact .inl (by rw [n];rfl)
  · refine .inr ⟨by rw [n];rfl,?_⟩;have aj : j < xs.length:=by omega
    refine ⟨xs[j],?_⟩;refine Classical.byContradiction fun w=>hb fun t g=>?_;rw [List.getElem?_eq_getElem d,a j d] at g;cases g;exact w
theorem qq0 {p q : List qe} (h : p.length + q.length≤490) (z : Int) : (atB p z).length + (atB q z).length≤490:=by
  have b:=Uh p z;have a:=Uh q z;omega
theorem qz3 (kind : Int) (z : Int) : secB kind [] [] z = []:=qgd kind
theorem qwx (kind : Int) {p q : List qe} (h : p.length + q.length≤800) (b : ∀ z,(atB p z).length + (atB q z).length≤490) (hs : ∀ z,q5g kind p q z→400 < (mrgB kind p q).length) :
    ∃ o,q4j kind p q = some (o,decide ((mrgB kind p q).length≤400))∧((mrgB kind p q).length≤400→o = mrgB kind p q):=by
  rcases qwz kind h b with a | ⟨a,z,b⟩
  · refine ⟨_,?_,fun _=>rfl⟩;rw [a];have : decide (((mrgB kind p q).length : Int)≤400) = decide ((mrgB kind p q).length≤400):=decide_eq_decide.2 q0;rw [this]
  · have:=hs z b;refine ⟨[],?_,fun h=>absurd h q0⟩;rw [a,Qj q0]
theorem qz7 {l : List qe} (h : l.length≤100000) : ∀ z,q5g 2 l [] z→400 < (mrgB 2 l []).length:=by
  intro z a;have b:=qni 2 (p:=l) (q:=[]) (by simpa using h) z;rcases a with a | a | a
  · omega
  · omega
  · rw [qz3] at a;simp at a
theorem qx2 (l : List qe) (n : l.length≤1000000) {γ : Type} (f : Int→Option (Int ⊕ (Unit ⊕ γ))) (e : γ) (c : ∀ k (h : k < l.length),f (k : Int) = some (if (fun r=>!decide (vB r)) l[k] = true then .inr (.inr e) else .inl ((k + 1 : Nat) : Int))) (hd : f (l.length : Int) = some (.inr (.inl ()))) :
    loop f 0 = some (if ∀ b∈l,vB b then .inl () else .inr e):=by
  rcases q2u l (fun r=>!decide (vB r)) (fun k _=>e) () f c hd with ⟨j,a⟩ | ⟨k,g,m,_,a⟩
  · have : ∀ r∈l,vB r:=fun r d=>by simpa using j r d
    rw [qr this];exact a
  · have : ¬ ∀ r∈l,vB r:=fun h=>by simp [h _ (Ki g)] at m
    rw [qq this];exact a
theorem qwu (l : List qe) : q4g l = some (Qu l):=by
  unfold q4g Qu;by_cases c : 400 < l.length
  · rw [Qf (by omega : (l.length : Int) > 400),Q2,qr c]
  rw [Qj (by omega : ¬ (l.length : Int) > 400),Q3,qq c]
  rw [qx2 l q0 (q6r l) 8 (fun k d=>by
    simp only [q6r,dlt d,Q2,Qx d,qk,qx0,w64s d q0]
    by_cases a : vB l[k] <;> simp [a]) (by simp only [q6r,dnl,Q3])]
  by_cases a : ∀ r∈l,vB r
  · rw [qr a,qr a];obtain ⟨o,j,g⟩:=qwx 2 (p:=l) (q:=[]) (by simp;omega) (qq0 (by simp;omega)) (qz7 q0);simp only [qk,j];by_cases f : 400 < (mrgB 2 l []).length
    · have b : mrgB 2 l []≠l:=fun h=>by rw [h] at f;exact c f
      rw [Qj q0,qq b];rfl
    · rw [Qf q0,g q0,sameBox _ l q0];by_cases m : mrgB 2 l [] = l <;> simp [m]
  · rw [qq a,qq a];rfl
theorem qws (p q : List qe) : q9s p q = some (if Qu p≠0 then Qu p else Qu q):=by
  unfold q9s;simp only [qwu,qk];by_cases h : Qu p = 0
  · simp [h]
  · have : (Qu p != 0) = true:=by simpa using h
    simp [h,this]
end Go.Sh
namespace Go.Sh
open Go Go.Am
def sumN : Nat→(Int→Int)→Int
  | 0,_=>0
  | n + 1,f=>sumN n f + f n
theorem qoz {f g : Int→Int} : ∀ {n : Nat},(∀ k : Nat,k < n→f k = g k)→sumN n f = sumN n g
  | 0,_=>rfl
  | n + 1,h=>by rw [sumN,sumN,qoz (n:=n) fun k a=>h k q0,h n q0]
theorem qoy {f g : Int→Int} : ∀ {n : Nat},sumN n (fun x=>f x + g x) = sumN n f + sumN n g
  | 0=>rfl
  | n + 1=>by rw [sumN,sumN,sumN,qoy (n:=n)];omega
theorem qp3 {f g : Int→Int} : ∀ {n : Nat},sumN n (fun x=>f x - g x) = sumN n f - sumN n g
  | 0=>rfl
  | n + 1=>by rw [sumN,sumN,sumN,qp3 (n:=n)];omega
theorem qp2 {c : Int} {f : Int→Int} : ∀ {n : Nat},sumN n (fun x=>c * f x) = c * sumN n f
  | 0=>by simp [sumN]
  | n + 1=>by rw [sumN,sumN,qp2 (n:=n),Int.mul_add]
theorem qp4 : ∀ {n : Nat},sumN n (fun _=>0) = 0
  | 0=>rfl
  | n + 1=>by rw [sumN,qp4 (n:=n)];rfl
theorem qp1 {f g : Int→Int} : ∀ {n : Nat},(∀ k : Nat,k < n→f k≤g k)→sumN n f≤sumN n g
  | 0,_=>Int.le_refl _
  | n + 1,h=>by have:=qp1 (n:=n) fun k a=>h k q0;have:=h n q0;rw [sumN,sumN];omega
noncomputable def ind (p : Prop) : Int:=by classical exact if p then 1 else 0
theorem q63 {p : Prop} (h : p) : ind p = 1:=by unfold ind;simp [h]
theorem Ji {p : Prop} (h : ¬ p) : ind p = 0:=by unfold ind;simp [h]
theorem q22 {p q : Prop} (h : p↔q) : ind p = ind q:=by rw [propext h]
theorem q61 {p q : Prop} : ind (p∧q) = ind p * ind q:=by
  by_cases hp : p <;> by_cases a : q
  · rw [q63 ⟨hp,a⟩,q63 hp,q63 a];rfl
  · rw [Ji (fun h=>a h.2),Ji a];simp
  · rw [Ji (fun h=>hp h.1),Ji hp];simp
  · rw [Ji (fun h=>hp h.1),Ji hp];simp
theorem qkz {p q : Prop} : ind (p∨q) = ind p + ind q - ind (p∧q):=by
  by_cases hp : p <;> by_cases a : q <;> simp [ind,hp,a]
theorem qtf {p : Prop} : ind (¬ p) = 1 - ind p:=by by_cases hp : p <;> simp [ind,hp]
theorem q62 {p : Prop} : 0≤ind p∧ind p≤1:=by by_cases hp : p <;> simp [ind,hp]
theorem qp0 (a b : Int) : ∀ {n : Nat},sumN n (fun x=>ind (a≤x∧x < b)) = max 0 (min b n - max a 0)
  | 0=>by rw [sumN];omega
  | n + 1=>by
    rw [sumN,qp0 a b (n:=n)]
    by_cases h : a≤(n : Int)∧(n : Int) < b
    · rw [q63 h];omega
    · rw [Ji h];omega
def sumZ (N : Nat) (f : Int→Int) : Int:=sumN (2 * N) fun k=>f (k - N)
theorem qhl {N : Nat} {f g : Int→Int} (h : ∀ x : Int,-(N : Int)≤x→x < N→f x = g x) : sumZ N f = sumZ N g:=
  qoz fun k a=>h _ q0 q0
theorem q5f {N : Nat} {f g : Int→Int} : sumZ N (fun x=>f x + g x) = sumZ N f + sumZ N g:=qoy
theorem q137 {N : Nat} {f g : Int→Int} : sumZ N (fun x=>f x - g x) = sumZ N f - sumZ N g:=qp3
theorem q2l {N : Nat} {c : Int} {f : Int→Int} : sumZ N (fun x=>c * f x) = c * sumZ N f:=qp2
theorem qdv {N : Nat} : sumZ N (fun _=>0) = 0:=qp4
theorem qdu {N : Nat} {f g : Int→Int} (h : ∀ x : Int,-(N : Int)≤x→x < N→f x≤g x) : sumZ N f≤sumZ N g:=
  qp1 fun k a=>h _ q0 q0
theorem qdt {N : Nat} {a b : Int} (f : -N≤a) (d : a≤b) (c : b≤N) : sumZ N (fun x=>ind (a≤x∧x < b)) = b - a:=by
  unfold sumZ
  have : (fun k : Int=>ind (a≤k - N∧k - N < b)) = fun k=>ind (a + N≤k∧k < b + N):=by
    funext k;exact q22 ⟨fun h=>q0,fun h=>q0⟩
  simp only [this];rw [qp0];omega
theorem qhn {N : Nat} {f : Int→Int} (h : ∀ x : Int,-(N : Int)≤x→x < N→0≤f x) : 0≤sumZ N f:=by
  rw [← qdv (N:=N)];exact qdu h
theorem qhm {N : Nat} {c : Int} : sumZ N (fun _=>c) = 2 * N * c:=by
  have : ∀ n : Nat,sumN n (fun _=>c) = n * c:=by
    intro n
    induction n with
    | zero=>simp [sumN]
    | succ n ih=>rw [sumN,ih,Int.natCast_succ,Int.add_mul,Int.one_mul]
  unfold sumZ;rw [this];simp
noncomputable def cnt3 (N : Nat) (P : Int→Int→Int→Prop) : Int:=sumZ N fun x=>sumZ N fun y=>sumZ N fun z=>ind (P x y z)
theorem qri {N : Nat} {P Q : Int→Int→Int→Prop} (h : ∀ x y z : Int,-(N : Int)≤x∧x < N→-(N : Int)≤y∧y < N→-(N : Int)≤z∧z < N→(P x y z↔Q x y z)) : cnt3 N P = cnt3 N Q:=
  qhl fun x f b=>qhl fun y a c=>qhl fun z g d=>q22 (h x y z ⟨f,b⟩ ⟨a,c⟩ ⟨g,d⟩)
def sumL {α : Type} (f : α→Int) : List α→Int
  | []=>0
  | a::r=>f a + sumL f r
theorem qba {α : Type} (f : α→Int) (a b : List α) : sumL f (a ++ b) = sumL f a + sumL f b:=by
  induction a with
  | nil=>simp [sumL]
  | cons x a ih=>rw [List.cons_append,sumL,sumL,ih];omega
theorem q2k {α : Type} {f g : α→Int} {l : List α} (h : ∀ a∈l,f a = g a) : sumL f l = sumL g l:=by
  induction l with
  | nil=>rfl
  | cons a l ih=>rw [sumL,sumL,h a qd,ih fun b hb=>h b (by simp [hb])]
theorem qdr {α : Type} (c : Int) (f : α→Int) (l : List α) : sumL (fun a=>c * f a) l = c * sumL f l:=by
  induction l with
  | nil=>simp [sumL]
  | cons a l ih=>rw [sumL,sumL,ih,Int.mul_add]
theorem qhk {α : Type} (f g : α→Int) (l : List α) : sumL (fun a=>f a + g a) l = sumL f l + sumL g l:=by
  induction l with
  | nil=>rfl
  | cons a l ih=>rw [sumL,sumL,sumL,ih];omega
theorem qow {α : Type} (f g : α→Int) (l : List α) : sumL (fun a=>f a - g a) l = sumL f l - sumL g l:=by
  induction l with
  | nil=>rfl
  | cons a l ih=>rw [sumL,sumL,sumL,ih];omega
theorem qox {α : Type} (l : List α) : sumL (fun _ : α=>0) l = 0:=by
  induction l with
  | nil=>rfl
  | cons a l ih=>rw [sumL,ih];rfl
theorem qds {α : Type} {N : Nat} (f : α→Int→Int) (l : List α) : sumL (fun a=>sumZ N (f a)) l = sumZ N fun x=>sumL (fun a=>f a x) l:=by
  induction l with
  | nil=>exact qdv.symm
  | cons a l ih=>
    have : (fun x=>sumL (fun a=>f a x) (a::l)) = fun x=>f a x + (fun x=>sumL (fun a=>f a x) l) x:=rfl;rw [sumL,ih,this,q5f]
def inB (b : qe) (x y z : Int) : Prop:=(b.Lo.X≤x∧x < b.Hi.X)∧(b.Lo.Y≤y∧y < b.Hi.Y)∧(b.Lo.Z≤z∧z < b.Hi.Z)
def inR (r : qi) (x y : Int) : Prop:=(r.X0≤x∧x < r.X1)∧(r.Y0≤y∧y < r.Y1)
def inS (t : qj) (x : Int) : Prop:=t.Lo≤x∧x < t.Hi
def volB (b : qe) : Int:=(b.Hi.X - b.Lo.X) * (b.Hi.Y - b.Lo.Y) * (b.Hi.Z - b.Lo.Z)
theorem q13q {N : Nat} {b : qe} (h : (b.Lo.X≤b.Hi.X∧b.Lo.Y≤b.Hi.Y∧b.Lo.Z≤b.Hi.Z)∧(-(N : Int)≤b.Lo.X∧-(N : Int)≤b.Lo.Y∧-(N : Int)≤b.Lo.Z)∧b.Hi.X≤N∧b.Hi.Y≤N∧b.Hi.Z≤N) :
    volB b = cnt3 N (inB b):=by
  obtain ⟨⟨j,c,a⟩,⟨d,k,f⟩,n,m,g⟩:=h;unfold cnt3
  have e : ∀ x y,(sumZ N fun z=>ind (inB b x y z)) = ind (b.Lo.X≤x∧x < b.Hi.X) * (ind (b.Lo.Y≤y∧y < b.Hi.Y) * (b.Hi.Z - b.Lo.Z)):=fun x y=>by
    have : (fun z=>ind (inB b x y z)) = fun z=>ind (b.Lo.X≤x∧x < b.Hi.X) * (ind (b.Lo.Y≤y∧y < b.Hi.Y) * ind (b.Lo.Z≤z∧z < b.Hi.Z)):=by
      funext z;unfold inB;rw [q61 (p:=_∧_) (q:=(_∧_)∧_),q61 (p:=_∧_) (q:=_∧_)]
    rw [this,q2l,q2l,qdt f a g]
  have l : ∀ x,(sumZ N fun y=>sumZ N fun z=>ind (inB b x y z)) = ind (b.Lo.X≤x∧x < b.Hi.X) * ((b.Hi.Y - b.Lo.Y) * (b.Hi.Z - b.Lo.Z)):=fun x=>by
    have : (fun y=>sumZ N fun z=>ind (inB b x y z)) = fun y=>ind (b.Lo.X≤x∧x < b.Hi.X) * ((b.Hi.Z - b.Lo.Z) * ind (b.Lo.Y≤y∧y < b.Hi.Y)):=by
      funext y;rw [e,Int.mul_comm (b.Hi.Z - b.Lo.Z)]
    rw [this,q2l,q2l,qdt k c m,Int.mul_comm (b.Hi.Z - b.Lo.Z)]
  have : (fun x=>sumZ N fun y=>sumZ N fun z=>ind (inB b x y z)) = fun x=>((b.Hi.Y - b.Lo.Y) * (b.Hi.Z - b.Lo.Z)) * ind (b.Lo.X≤x∧x < b.Hi.X):=by
    funext x;rw [l,Int.mul_comm]
  rw [this,q2l,qdt d j n,volB];simp only [Int.mul_assoc,Int.mul_left_comm,Int.mul_comm]
noncomputable def cntS (s : List qj) (y : Int) : Int:=sumL (fun t=>ind (inS t y)) s
noncomputable def cntR (l : List qi) (x y : Int) : Int:=sumL (fun t=>ind (inR t x y)) l
noncomputable def cntB (l : List qe) (x y z : Int) : Int:=sumL (fun t=>ind (inB t x y z)) l
theorem qj1 : ∀ {s : List qj},Can s→∀ y,cntS s y = ind (has s y)
  | [],_,y=>by rw [Ji (q21 y)];rfl
  | a::s,h,y=>by
    have b:=qj1 h.tail y
    unfold cntS at b ⊢
    rw [sumL,b,q22 (Zx (a:=a) (s:=s) (x:=y)),qkz]
    have : ¬ ((a.Lo≤y∧y < a.Hi)∧has s y):=fun ⟨c,h2⟩=>by have:=h.tail_gt h2;omega
    rw [Ji this];unfold inS;omega
theorem qrl (l : List qi) (x y : Int) : cntR l x y = cntS (covS l x) y:=by
  unfold cntR cntS
  induction l with
  | nil=>rfl
  | cons r l ih=>
    have e : covS (r::l) x = (if covR x r = true then [ysp r] else []) ++ covS l x:=rfl;rw [sumL,ih,e,qba];congr 1;by_cases a : covR x r = true
    · rw [qr a];have:=q5r.1 a;simp only [sumL,Int.add_zero];exact q22 ⟨fun h=>h.2,fun h=>⟨this,h⟩⟩
    · rw [qq a];rw [q5r] at a;exact Ji fun h=>a h.1
theorem qrk (l : List qe) (x y z : Int) : cntB l x y z = cntR (atB l z) x y:=by
  unfold cntB cntR
  induction l with
  | nil=>rfl
  | cons r l ih=>
    have e : atB (r::l) z = (if covB z r = true then [Jr r] else []) ++ atB l z:=rfl;rw [sumL,ih,e,qba];congr 1;by_cases a : covB z r = true
    · rw [qr a];have:=q2t.1 a;simp only [sumL,Int.add_zero];exact q22 ⟨fun h=>⟨h.1,h.2.1⟩,fun h=>⟨h.1,h.2,this⟩⟩
    · rw [qq a];rw [q2t] at a;exact Ji fun h=>a h.2.2
theorem CanR.cnt {l : List qi} (h : CanR l) (x y : Int) : cntR l x y = ind (hasR l x y):=by
  rw [qrl,qj1 (h.cov x),q22 U8]
theorem CanB.cnt {l : List qe} (h : CanB l) (x y z : Int) : cntB l x y z = ind (hasB l x y z):=by
  rw [qrk,(h.at z).cnt,q22 q20]
def volL (l : List qe) : Int:=sumL volB l
theorem qpf {N : Nat} {l : List qe} (a : ∀ x y z,cntB l x y z = ind (hasB l x y z)) (h : ∀ b∈l,(b.Lo.X≤b.Hi.X∧b.Lo.Y≤b.Hi.Y∧b.Lo.Z≤b.Hi.Z)∧(-(N : Int)≤b.Lo.X∧-(N : Int)≤b.Lo.Y∧-(N : Int)≤b.Lo.Z)∧b.Hi.X≤N∧b.Hi.Y≤N∧b.Hi.Z≤N) :
    volL l = cnt3 N (hasB l):=by
  unfold volL;rw [q2k fun b hb=>q13q (h b hb)];unfold cnt3;rw [qds];congr 1;funext x;rw [qds];congr 1;funext y;rw [qds];congr 1;funext z;exact a x y z
theorem q13s {l : List qe} (a : CanB l) (h : ∀ b∈l,vB b) : volL l = cnt3 1000000 (hasB l):=
  qpf a.cnt fun b hb=>by have:=h b hb;unfold vB at this;omega
theorem qrj {N : Nat} (P Q : Int→Int→Int→Prop) : cnt3 N (fun x y z=>P x y z∨Q x y z) + cnt3 N (fun x y z=>P x y z∧Q x y z) = cnt3 N P + cnt3 N Q:=by
  unfold cnt3;rw [← q5f,← q5f];congr 1;funext x;rw [← q5f,← q5f];congr 1;funext y;rw [← q5f,← q5f];congr 1;funext z;show ind (P x y z∨Q x y z) + ind (P x y z∧Q x y z) = ind (P x y z) + ind (Q x y z);rw [qkz];omega
end Go.Sh
namespace Go.Sh
open Go Go.Am
theorem qk6 {α β γ : Type} (l : List α) (b : l.length≤1000000) (g : γ→α→γ) (fin : γ→β) (f : γ × Int→Option ((γ × Int) ⊕ β))
    (hs : ∀ k (h : k < l.length) (s : γ),f (s,(k : Int)) = some (.inl (g s l[k],((k + 1 : Nat) : Int)))) (hd : ∀ s,f (s,(l.length : Int)) = some (.inr (fin s))) (s : γ) :
    loop f (s,0) = some (fin (l.foldl g s)):=by
  have key:=Zv (f:=f) (fun k=>((l.take k).foldl g s,(k : Int))) l.length (fin (l.foldl g s)) (fun k a=>by
    rw [hs k a,List.take_succ_eq_append_getElem a,List.foldl_append];rfl) (by rw [List.take_length,hd]) (Nat.zero_le _)
  exact key
theorem qhq (x : Int) : w64 x = if 9223372036854775808≤x % 18446744073709551616 then x % 18446744073709551616 - 18446744073709551616 else x % 18446744073709551616:=by
  unfold w64 IntKind.wrap;simp [IntKind.bits,IntKind.signed]
theorem qph (x y : Int) (h : x % 18446744073709551616 = y % 18446744073709551616) : w64 x = w64 y:=by rw [qhq,qhq,h]
theorem qpi (x : Int) : w64 x % 18446744073709551616 = x % 18446744073709551616:=by rw [qhq];split <;> omega
theorem qpg (a b : Int) : w64 (w64 a + b) = w64 (a + b):=qph _ _ (by have:=qpi a;omega)
theorem q13w (a b : Int) : w64 (a - w64 b) = w64 (a - b):=qph _ _ (by have:=qpi b;omega)
theorem qcn {x y z : Int} (c : 0≤x∧x≤2000000) (a : 0≤y∧y≤2000000) (b : 0≤z∧z≤2000000) : (0≤x * y∧x * y≤4000000000000)∧0≤x * y * z∧x * y * z≤8000000000000000000:=by
  have d : 0≤x * y:=Int.mul_nonneg c.1 a.1;have g : x * y≤2000000 * 2000000:=Int.mul_le_mul c.2 a.2 a.1 q0;have f : 0≤x * y * z:=Int.mul_nonneg d b.1;have h : x * y * z≤4000000000000 * 2000000:=Int.mul_le_mul q0 b.2 b.1 q0;omega
theorem q13u {b : qe} (h : vB b) : w64 ((w64 ((w64 (b.Hi.X - b.Lo.X)) * (w64 (b.Hi.Y - b.Lo.Y)))) * (w64 (b.Hi.Z - b.Lo.Z))) = volB b:=by
  unfold vB at h;rw [Qb (x:=b.Hi.X - b.Lo.X) q0,Qb (x:=b.Hi.Y - b.Lo.Y) q0,Qb (x:=b.Hi.Z - b.Lo.Z) q0];have:=qcn (x:=b.Hi.X - b.Lo.X) (y:=b.Hi.Y - b.Lo.Y) (z:=b.Hi.Z - b.Lo.Z) q0 q0 q0;rw [Qb (x:=(b.Hi.X - b.Lo.X) * (b.Hi.Y - b.Lo.Y)) q0,Qb q0];rfl
theorem qfe {α : Type} (f : α→Int) : ∀ (l : List α) (n m : Int),n = w64 m→l.foldl (fun n b=>w64 (n + f b)) n = w64 (m + sumL f l)
  | [],n,m,h=>by simp [sumL,h]
  | b::l,n,m,h=>by
    rw [List.foldl_cons,qfe f l _ (m + f b) (by rw [h,qpg]),sumL,Int.add_assoc]
theorem qka {α γ : Type} {f g : γ→α→γ} : ∀ {l : List α} {s : γ},(∀ b∈l,∀ s,f s b = g s b)→l.foldl f s = l.foldl g s
  | [],_,_=>rfl
  | b::l,s,h=>by rw [List.foldl_cons,List.foldl_cons,h b qd,qka fun c a=>h c (by simp [a])]
theorem qj0 (N : Nat) (P : Int→Int→Int→Prop) : 0≤cnt3 N P∧cnt3 N P≤2 * N * (2 * N * (2 * N * 1)):=by
  constructor
  · exact qhn fun x _ _=>qhn fun y _ _=>qhn fun z _ _=>q62.1
  · rw [← qhm (N:=N) (c:=1),← qhm,← qhm];exact qdu fun x _ _=>qdu fun y _ _=>qdu fun z _ _=>q62.2
theorem q13r {l : List qe} (h : Qu l = 0) : 0≤volL l∧volL l≤8000000000000000000:=by
  obtain ⟨c,b,a⟩:=Kp.1 h;rw [q13s a b];have:=qj0 1000000 (hasB l);omega
noncomputable def volume (l : List qe) : Int × Int:=if Qu l≠0 then (0,Qu l) else (volL l,0)
theorem q13t {l : List qe} (h : Qu l = 0) : l.foldl (fun n b=>w64 (n + w64 ((w64 ((w64 (b.Hi.X - b.Lo.X)) * (w64 (b.Hi.Y - b.Lo.Y)))) * (w64 (b.Hi.Z - b.Lo.Z))))) 0 = volL l:=by
  obtain ⟨d,a,c⟩:=Kp.1 h;rw [qka (g:=fun n b=>w64 (n + volB b)) fun b hb s=>by rw [q13u (a b hb)]];rw [qfe volB l 0 0 (by rw [Qb q0])];have:=q13r h;rw [Qb (by unfold volL at this;omega),Int.zero_add];rfl
theorem qo5 (l : List qe) : q86 l = some (volume l):=by
  unfold q86 volume;rw [q4z,qk];by_cases h : Qu l = 0
  · rw [qq (by simp [h]),h,show ((0 : Int) != 0) = false from rfl,Q3];have c:=(Kp.1 h).1
    rw [qk6 l q0 (fun n b=>w64 (n + w64 ((w64 ((w64 (b.Hi.X - b.Lo.X)) * (w64 (b.Hi.Y - b.Lo.Y)))) * (w64 (b.Hi.Z - b.Lo.Z))))) (fun n=>n) (q87 l) (fun k a s=>by
      simp only [q87,dlt a,Q2,Qx a,qk,q8d,w64s a q0]) (fun s=>by simp only [q87,dnl,Q3]) 0,q13t h]
    rfl
  · have : (Qu l != 0) = true:=by simpa using h
    rw [qr h,this,Q2]
theorem qc5 {b : qe} {l : List qe} {x y z : Int} : hasB (b::l) x y z↔inB b x y z∨hasB l x y z:=by
  constructor
  · rintro ⟨c,a,h⟩;rcases List.mem_cons.1 a with rfl | a
    · exact .inl h
    · exact .inr ⟨c,a,h⟩
  · rintro (h | ⟨c,a,h⟩)
    · exact ⟨b,qd,h⟩
    · exact ⟨c,by simp [a],h⟩
instance (b : qe) (x y z : Int) : Decidable (inB b x y z):=by unfold inB;infer_instance
instance qs0 : (l : List qe)→(x y z : Int)→Decidable (hasB l x y z)
  | [],x,y,z=>isFalse (q1c x y z)
  | b::l,x,y,z=>by
    have:=qs0 l x y z
    exact decidable_of_iff _ qc5.symm
theorem q127 (b : qe) (v : Q6) : q50 b v = some (decide (inB b v.X v.Y v.Z)):=by
  unfold q50 inB;by_cases g : b.Lo.X≤v.X <;> by_cases c : v.X < b.Hi.X <;> by_cases a : b.Lo.Y≤v.Y <;> by_cases d : v.Y < b.Hi.Y <;> by_cases h : b.Lo.Z≤v.Z <;> by_cases f : v.Z < b.Hi.Z <;> simp [g,c,a,d,h,f]
theorem q129 (l : List qe) (v : Q6) (c : l.length≤1000000) : q83 l v = some (decide (hasB l v.X v.Y v.Z)):=by
  unfold q83 q4n qa7
  rcases q2u l (fun b=>decide (inB b v.X v.Y v.Z)) (fun k _=>(k : Int)) () (q1h l (fun f=>q50 f v)) (fun k a=>by
    simp only [q1h,dlt a,Q2,Qx a,qk,q127,w64s a c]
    by_cases d : inB l[k] v.X v.Y v.Z <;> simp [d]) (by simp only [q1h,dnl,Q3]) with ⟨h1,h2⟩ | ⟨k,a,hc,_,h2⟩
  · rw [h2];simp only [qk];congr 1;rw [show decide ((-1 : Int) ≥ 0) = false from rfl];refine (Qj ?_).symm;rintro ⟨b,hb,h⟩;have:=h1 b hb;simp at this;exact this h
  · rw [h2];simp only [qk];congr 1;rw [Qf (by omega : (k : Int) ≥ 0)];refine (Qf ?_).symm;exact ⟨l[k],Ki a,of_decide_eq_true hc⟩
end Go.Sh
namespace Go.Sh
open Go Go.Am
def J8 {α : Type} (f : α→α→Int) (l : List α) : Nat→Int
  | 0=>0
  | n + 1=>J8 f l n + (match l[n]? with
    | some b=>sumL (fun c=>f b c) (l.take n)
    | none=>0)
theorem qmf {α : Type} (f : α→α→Int) (hs : ∀ a b,f a b = f b a) (l : List α) : ∀ n,n≤l.length→
    sumL (fun b=>sumL (fun c=>f b c) (l.take n)) (l.take n) = sumL (fun b=>f b b) (l.take n) + 2 * J8 f l n
  | 0,_=>by simp [sumL,J8]
  | n + 1,h=>by
    have d:=qmf f hs l n q0
    rw [List.take_succ_eq_append_getElem q0]
    simp only [qba,sumL,Int.add_zero,J8,List.getElem?_eq_getElem (show n < l.length by omega),qhk]
    have : sumL (fun b=>f b l[n]) (l.take n) = sumL (fun c=>f l[n] c) (l.take n):=q2k fun b _=>hs b _
    rw [this]
    omega
theorem qov {α : Type} (f g : α→α→Int) {l : List α} (hp : l.Pairwise fun a b=>f a b = g a b∧f b a = g b a) : ∀ n,n≤l.length→
    sumL (fun b=>sumL (fun c=>f b c - g b c) (l.take n)) (l.take n) = sumL (fun b=>f b b - g b b) (l.take n)
  | 0,_=>by simp [sumL]
  | n + 1,h=>by
    have k:=qov f g hp n q0
    have j:=List.pairwise_iff_getElem.1 hp
    rw [List.take_succ_eq_append_getElem q0]
    simp only [qba,sumL,Int.add_zero,qhk,k]
    have d : ∀ b∈l.take n,f b l[n] = g b l[n]∧f l[n] b = g l[n] b:=fun b hb=>by
      obtain ⟨i,hi,rfl⟩:=List.getElem_of_mem hb
      rw [List.length_take] at hi
      rw [List.getElem_take]
      exact j i n q0 q0 q0
    have o : sumL (fun b=>f b l[n] - g b l[n]) (l.take n) = 0:=(q2k (g:=fun _=>0) fun b hb=>by have:=d b hb;omega).trans (qox _)
    have m : sumL (fun c=>f l[n] c - g l[n] c) (l.take n) = 0:=(q2k (g:=fun _=>0) fun b hb=>by have:=d b hb;omega).trans (qox _)
    omega
theorem qky {a b c : Prop} : ind (a∧b∧c) = ind a * (ind b * ind c):=by rw [q61,q61]
def ov (a0 a1 b0 b1 : Int) : Int:=max 0 (min a1 b1 - max a0 b0)
theorem qho {N : Nat} {b a c b1 : Int} (f : -N≤b) (d : a≤N) : sumZ N (fun x=>ind (b≤x∧x < a) * ind (c≤x∧x < b1)) = ov b a c b1:=by
  have : (fun x : Int=>ind (b≤x∧x < a) * ind (c≤x∧x < b1)) = fun x=>ind (max b c≤x∧x < min a b1):=by
    funext x;rw [← q61];exact q22 ⟨fun h=>q0,fun h=>q0⟩
  rw [this];unfold ov;by_cases h : max b c≤min a b1
  · by_cases hb : c≤a∧b≤b1
    · rw [qdt q0 h q0];omega
    · omega
  · have : (fun x : Int=>ind (max b c≤x∧x < min a b1)) = fun _=>0:=by
      funext x;exact Ji q0
    rw [this,qdv];omega
theorem qrm {N : Nat} {b : qe} {c d g j a f : Int} (h : (-(N : Int)≤b.Lo.X∧-(N : Int)≤b.Lo.Y∧-(N : Int)≤b.Lo.Z)∧b.Hi.X≤N∧b.Hi.Y≤N∧b.Hi.Z≤N) :
    (sumZ N fun x=>sumZ N fun y=>sumZ N fun z=>ind (inB b x y z) * ind ((c≤x∧x < d)∧(g≤y∧y < j)∧(a≤z∧z < f))) = ov b.Lo.X b.Hi.X c d * (ov b.Lo.Y b.Hi.Y g j * ov b.Lo.Z b.Hi.Z a f):=by
  obtain ⟨⟨o,p,l⟩,n,m,k⟩:=h
  have e : ∀ x y,(sumZ N fun z=>ind (inB b x y z) * ind ((c≤x∧x < d)∧(g≤y∧y < j)∧(a≤z∧z < f))) = (ind (b.Lo.X≤x∧x < b.Hi.X) * ind (c≤x∧x < d)) * ((ind (b.Lo.Y≤y∧y < b.Hi.Y) * ind (g≤y∧y < j)) * ov b.Lo.Z b.Hi.Z a f):=fun x y=>by
    have : (fun z=>ind (inB b x y z) * ind ((c≤x∧x < d)∧(g≤y∧y < j)∧(a≤z∧z < f))) = fun z=>(ind (b.Lo.X≤x∧x < b.Hi.X) * ind (c≤x∧x < d)) * ((ind (b.Lo.Y≤y∧y < b.Hi.Y) * ind (g≤y∧y < j)) * (ind (b.Lo.Z≤z∧z < b.Hi.Z) * ind (a≤z∧z < f))):=by
      funext z;unfold inB;rw [qky,qky];simp only [Int.mul_assoc,Int.mul_left_comm,Int.mul_comm]
    rw [this,q2l,q2l,qho l k]
  have q : ∀ x,(sumZ N fun y=>sumZ N fun z=>ind (inB b x y z) * ind ((c≤x∧x < d)∧(g≤y∧y < j)∧(a≤z∧z < f))) = (ov b.Lo.Y b.Hi.Y g j * ov b.Lo.Z b.Hi.Z a f) * (ind (b.Lo.X≤x∧x < b.Hi.X) * ind (c≤x∧x < d)):=fun x=>by
    have : (fun y=>sumZ N fun z=>ind (inB b x y z) * ind ((c≤x∧x < d)∧(g≤y∧y < j)∧(a≤z∧z < f))) = fun y=>((ind (b.Lo.X≤x∧x < b.Hi.X) * ind (c≤x∧x < d)) * ov b.Lo.Z b.Hi.Z a f) * (ind (b.Lo.Y≤y∧y < b.Hi.Y) * ind (g≤y∧y < j)):=by
      funext y;rw [e];simp only [Int.mul_assoc,Int.mul_left_comm,Int.mul_comm]
    rw [this,q2l,qho p m];simp only [Int.mul_assoc,Int.mul_left_comm,Int.mul_comm]
  simp only [q];rw [q2l,qho o n,Int.mul_comm]
def Ux (b c : qe) : Int:=
  ov b.Lo.X b.Hi.X (c.Lo.X - 1) (c.Hi.X - 1) * (ov b.Lo.Y b.Hi.Y c.Lo.Y c.Hi.Y * ov b.Lo.Z b.Hi.Z c.Lo.Z c.Hi.Z) + ov b.Lo.X b.Hi.X (c.Lo.X + 1) (c.Hi.X + 1) * (ov b.Lo.Y b.Hi.Y c.Lo.Y c.Hi.Y * ov b.Lo.Z b.Hi.Z c.Lo.Z c.Hi.Z) +
  (ov b.Lo.X b.Hi.X c.Lo.X c.Hi.X * (ov b.Lo.Y b.Hi.Y (c.Lo.Y - 1) (c.Hi.Y - 1) * ov b.Lo.Z b.Hi.Z c.Lo.Z c.Hi.Z) + ov b.Lo.X b.Hi.X c.Lo.X c.Hi.X * (ov b.Lo.Y b.Hi.Y (c.Lo.Y + 1) (c.Hi.Y + 1) * ov b.Lo.Z b.Hi.Z c.Lo.Z c.Hi.Z)) +
  (ov b.Lo.X b.Hi.X c.Lo.X c.Hi.X * (ov b.Lo.Y b.Hi.Y c.Lo.Y c.Hi.Y * ov b.Lo.Z b.Hi.Z (c.Lo.Z - 1) (c.Hi.Z - 1)) + ov b.Lo.X b.Hi.X c.Lo.X c.Hi.X * (ov b.Lo.Y b.Hi.Y c.Lo.Y c.Hi.Y * ov b.Lo.Z b.Hi.Z (c.Lo.Z + 1) (c.Hi.Z + 1)))
def Kj (a b : qe) : Int:=
  let x:=min a.Hi.X b.Hi.X - max a.Lo.X b.Lo.X
  let y:=min a.Hi.Y b.Hi.Y - max a.Lo.Y b.Lo.Y
  let z:=min a.Hi.Z b.Hi.Z - max a.Lo.Z b.Lo.Z
  if x = 0∧y > 0∧z > 0 then y * z else if x > 0∧y = 0∧z > 0 then x * z else if x > 0∧y > 0∧z = 0 then x * y else 0
theorem qja (a b : qe) : Kj a b = Kj b a:=by
  unfold Kj;simp only [Int.min_comm b.Hi.X,Int.max_comm b.Lo.X,Int.min_comm b.Hi.Y,Int.max_comm b.Lo.Y,Int.min_comm b.Hi.Z,Int.max_comm b.Lo.Z]
def ltB (b : qe) : Prop:=b.Lo.X < b.Hi.X∧b.Lo.Y < b.Hi.Y∧b.Lo.Z < b.Hi.Z
theorem ov3 {b a c b1 : Int} (d : b < a) (hb : c < b1) :
    (min a b1 - max b c < 0∧ov b a c b1 = 0∧ov b a (c - 1) (b1 - 1) + ov b a (c + 1) (b1 + 1) = 0∧ov b a (c - 1) (b1 - 1) = 0∧ov b a (c + 1) (b1 + 1) = 0)∨
    (min a b1 - max b c = 0∧ov b a c b1 = 0∧ov b a (c - 1) (b1 - 1) + ov b a (c + 1) (b1 + 1) = 1)∨
    (min a b1 - max b c > 0∧ov b a c b1 = min a b1 - max b c):=by
  unfold ov;omega
theorem qor {b c : qe} (hb : ltB b) (m : ltB c) (hd : ∀ x y z,¬ (inB b x y z∧inB c x y z)) : Ux b c = Kj b c:=by
  obtain ⟨b1,l,k⟩:=hb;obtain ⟨c1,c2,c3⟩:=m
  have a : ¬ (min b.Hi.X c.Hi.X - max b.Lo.X c.Lo.X > 0∧min b.Hi.Y c.Hi.Y - max b.Lo.Y c.Lo.Y > 0∧min b.Hi.Z c.Hi.Z - max b.Lo.Z c.Lo.Z > 0):=fun ⟨o,h2,h3⟩=>
    hd (max b.Lo.X c.Lo.X) (max b.Lo.Y c.Lo.Y) (max b.Lo.Z c.Lo.Z) (by unfold inB;omega)
  have key : ∀ {X0 X1 Y0 Y1 Z0 d x y z : Int},((x < 0∧X0 = 0∧X1 = 0)∨(x = 0∧X0 = 0∧X1 = 1)∨(x > 0∧X0 = x))→((y < 0∧Y0 = 0∧Y1 = 0)∨(y = 0∧Y0 = 0∧Y1 = 1)∨(y > 0∧Y0 = y))→
      ((z < 0∧Z0 = 0∧d = 0)∨(z = 0∧Z0 = 0∧d = 1)∨(z > 0∧Z0 = z))→¬ (x > 0∧y > 0∧z > 0)→
      X1 * (Y0 * Z0) + X0 * (Y1 * Z0) + X0 * (Y0 * d) = if x = 0∧y > 0∧z > 0 then y * z else if x > 0∧y = 0∧z > 0 then x * z else if x > 0∧y > 0∧z = 0 then x * y else 0:=by
    intro X0 X1 Y0 Y1 Z0 d x y z j g f n
    rcases j with ⟨j,rfl,rfl⟩ | ⟨rfl,rfl,rfl⟩ | ⟨j,rfl⟩ <;> rcases g with ⟨g,rfl,rfl⟩ | ⟨rfl,rfl,rfl⟩ | ⟨g,rfl⟩ <;> rcases f with ⟨f,rfl,rfl⟩ | ⟨rfl,rfl,rfl⟩ | ⟨f,rfl⟩ <;>
      first
        | (exfalso;omega)
        | (simp only [Int.zero_mul,Int.mul_zero,Int.add_zero,Int.zero_add,Int.one_mul,Int.mul_one];clear hd a b1 l k c1 c2 c3;(repeat' split) <;> first | omega | (simp_all;done) | (simp_all;omega))
  have e : Ux b c = (ov b.Lo.X b.Hi.X (c.Lo.X - 1) (c.Hi.X - 1) + ov b.Lo.X b.Hi.X (c.Lo.X + 1) (c.Hi.X + 1)) * (ov b.Lo.Y b.Hi.Y c.Lo.Y c.Hi.Y * ov b.Lo.Z b.Hi.Z c.Lo.Z c.Hi.Z) +
      ov b.Lo.X b.Hi.X c.Lo.X c.Hi.X * ((ov b.Lo.Y b.Hi.Y (c.Lo.Y - 1) (c.Hi.Y - 1) + ov b.Lo.Y b.Hi.Y (c.Lo.Y + 1) (c.Hi.Y + 1)) * ov b.Lo.Z b.Hi.Z c.Lo.Z c.Hi.Z) +
      ov b.Lo.X b.Hi.X c.Lo.X c.Hi.X * (ov b.Lo.Y b.Hi.Y c.Lo.Y c.Hi.Y * (ov b.Lo.Z b.Hi.Z (c.Lo.Z - 1) (c.Hi.Z - 1) + ov b.Lo.Z b.Hi.Z (c.Lo.Z + 1) (c.Hi.Z + 1))):=by
    unfold Ux;simp only [Int.add_mul,Int.mul_add]
  rw [e];unfold Kj;refine key ?_ ?_ ?_ a
  · rcases ov3 b1 c1 with h | h | h
    · exact .inl ⟨h.1,h.2.1,h.2.2.1⟩
    · exact .inr (.inl h)
    · exact .inr (.inr h)
  · rcases ov3 l c2 with h | h | h
    · exact .inl ⟨h.1,h.2.1,h.2.2.1⟩
    · exact .inr (.inl h)
    · exact .inr (.inr h)
  · rcases ov3 k c3 with h | h | h
    · exact .inl ⟨h.1,h.2.1,h.2.2.1⟩
    · exact .inr (.inl h)
    · exact .inr (.inr h)
def Zs (b : qe) : Int:=2 * ((b.Hi.X - b.Lo.X) * (b.Hi.Y - b.Lo.Y) + (b.Hi.X - b.Lo.X) * (b.Hi.Z - b.Lo.Z) + (b.Hi.Y - b.Lo.Y) * (b.Hi.Z - b.Lo.Z))
theorem q12w {b : qe} (hb : ltB b) : 6 * volB b - Ux b b = Zs b:=by
  obtain ⟨b1,q,g⟩:=hb;have o : ∀ {a c : Int},a < c→ov a c a c = c - a∧ov a c (a - 1) (c - 1) = c - a - 1∧ov a c (a + 1) (c + 1) = c - a - 1:=fun h=>by unfold ov;omega
  obtain ⟨k,n,p⟩:=o b1;obtain ⟨l,d,f⟩:=o q;obtain ⟨m,r,j⟩:=o g;unfold Ux volB Zs;rw [k,n,p,l,d,f,m,r,j];generalize b.Hi.X - b.Lo.X = x;generalize b.Hi.Y - b.Lo.Y = y;generalize b.Hi.Z - b.Lo.Z = z;simp only [Int.sub_mul,Int.mul_sub,Int.one_mul,Int.mul_one,Int.mul_assoc];omega
noncomputable def q2m (N : Nat) (P : Int→Int→Int→Prop) : Int:=
  (cnt3 N (fun x y z=>P x y z∧¬ P (x + 1) y z) + cnt3 N (fun x y z=>P x y z∧¬ P (x - 1) y z)) +
  (cnt3 N (fun x y z=>P x y z∧¬ P x (y + 1) z) + cnt3 N (fun x y z=>P x y z∧¬ P x (y - 1) z)) +
  (cnt3 N (fun x y z=>P x y z∧¬ P x y (z + 1)) + cnt3 N (fun x y z=>P x y z∧¬ P x y (z - 1)))
def Yw (l : List qe) : Int:=sumL Zs l - 2 * J8 Kj l l.length
def vBN (N : Nat) (b : qe) : Prop:=ltB b∧(-(N : Int)≤b.Lo.X∧-(N : Int)≤b.Lo.Y∧-(N : Int)≤b.Lo.Z)∧b.Hi.X≤N∧b.Hi.Y≤N∧b.Hi.Z≤N
theorem q5q {N : Nat} {l : List qe} (g : ∀ x y z,cntB l x y z = ind (hasB l x y z)) (h : ∀ b∈l,vBN N b) (d f a : Int) :
    cnt3 N (fun x y z=>hasB l x y z∧¬ hasB l (x + d) (y + f) (z + a)) = volL l - sumL (fun b=>sumL (fun c=>ov b.Lo.X b.Hi.X (c.Lo.X - d) (c.Hi.X - d) * (ov b.Lo.Y b.Hi.Y (c.Lo.Y - f) (c.Hi.Y - f) * ov b.Lo.Z b.Hi.Z (c.Lo.Z - a) (c.Hi.Z - a))) l) l:=by
  have o : ∀ x y z,ind (hasB l x y z∧¬ hasB l (x + d) (y + f) (z + a)) = ind (hasB l x y z) - sumL (fun b=>sumL (fun c=>ind (inB b x y z) * ind ((c.Lo.X - d≤x∧x < c.Hi.X - d)∧(c.Lo.Y - f≤y∧y < c.Hi.Y - f)∧(c.Lo.Z - a≤z∧z < c.Hi.Z - a))) l) l:=fun x y z=>by
    have n : sumL (fun b=>sumL (fun c=>ind (inB b x y z) * ind ((c.Lo.X - d≤x∧x < c.Hi.X - d)∧(c.Lo.Y - f≤y∧y < c.Hi.Y - f)∧(c.Lo.Z - a≤z∧z < c.Hi.Z - a))) l) l = ind (hasB l x y z) * ind (hasB l (x + d) (y + f) (z + a)):=by
      rw [← g,← g]
      have j : ∀ b : qe,sumL (fun c : qe=>ind (inB b x y z) * ind ((c.Lo.X - d≤x∧x < c.Hi.X - d)∧(c.Lo.Y - f≤y∧y < c.Hi.Y - f)∧(c.Lo.Z - a≤z∧z < c.Hi.Z - a))) l = cntB l (x + d) (y + f) (z + a) * ind (inB b x y z):=fun b=>by
        rw [qdr,Int.mul_comm];unfold cntB;rw [q2k fun c _=>q22 (q:=inB c (x + d) (y + f) (z + a)) ⟨fun h=>by unfold inB;omega,fun h=>by unfold inB at h;omega⟩]
      simp only [j];rw [qdr,Int.mul_comm];rfl
    rw [n,q61,qtf,Int.mul_sub,Int.mul_one]
  unfold cnt3;simp only [o,q137];have m : (sumZ N fun x=>sumZ N fun y=>sumZ N fun z=>ind (hasB l x y z)) = volL l:=(qpf g fun b hb=>by have:=h b hb;unfold vBN ltB at this;omega).symm;rw [m];congr 1;simp only [← qds];refine q2k fun b hb=>q2k fun c k=>?_;have:=h b hb;unfold vBN at this;exact qrm this.2
theorem qj6 {l : List qe} (f : ∀ x y z,cntB l x y z = ind (hasB l x y z)) : l.Pairwise fun b c=>∀ x y z,¬ (inB b x y z∧inB c x y z):=by
  have key : ∀ l : List qe,(∀ x y z,cntB l x y z≤1)→l.Pairwise fun b c=>∀ x y z,¬ (inB b x y z∧inB c x y z):=by
    intro l
    induction l with
    | nil=>intro _;exact .nil
    | cons b l ih=>
      intro h
      have m : ∀ (l : List qe) x y z,0≤cntB l x y z:=fun l x y z=>by
        unfold cntB;induction l with
        | nil=>exact Int.le_refl _
        | cons c l ih=>have:=(q62 (p:=inB c x y z)).1;rw [sumL];omega
      have g : ∀ x y z,ind (inB b x y z) + cntB l x y z≤1:=h;refine List.pairwise_cons.2 ⟨fun c f x y z ⟨k,h2⟩=>?_,ih fun x y z=>by have:=g x y z;have:=(q62 (p:=inB b x y z)).1;omega⟩;have j:=g x y z;rw [q63 k] at j
      have n : ∀ l : List qe,c∈l→1≤cntB l x y z:=by
        intro l
        induction l with
        | nil=>intro h;cases h
        | cons d l ih2=>
          intro a;have e : cntB (d::l) x y z = ind (inB d x y z) + cntB l x y z:=rfl;rcases List.mem_cons.1 a with rfl | a
          · have:=m l x y z;rw [e,q63 h2];omega
          · have:=ih2 a;have:=(q62 (p:=inB d x y z)).1;rw [e];omega
      have:=n l f;omega
  exact key l fun x y z=>by rw [f];exact q62.2
theorem q138 {N : Nat} {l : List qe} (d : ∀ x y z,cntB l x y z = ind (hasB l x y z)) (h : ∀ b∈l,vBN N b) : Yw l = q2m N (hasB l):=by
  have hd:=qj6 d;have r:=q5q d h 1 0 0;have q:=q5q d h (-1) 0 0;have m:=q5q d h 0 1 0;have j:=q5q d h 0 (-1) 0;have p:=q5q d h 0 0 1;have k:=q5q d h 0 0 (-1);simp only [Int.add_zero,Int.sub_zero,Int.sub_neg,← Int.sub_eq_add_neg] at r q m j p k;unfold q2m;rw [r,q,m,j,p,k]
  have o : sumL (fun b=>sumL (fun c=>Ux b c) l) l = 6 * volL l - sumL Zs l + 2 * J8 Kj l l.length:=by
    have g:=qov Ux Kj (l:=l) (List.Pairwise.imp_of_mem (fun {b c} hb f a=>⟨qor (h b hb).1 (h c f).1 a,qor (h c f).1 (h b hb).1 fun x y z n=>a x y z ⟨n.2,n.1⟩⟩) hd) l.length (Nat.le_refl _);have t:=qmf Kj qja l l.length (Nat.le_refl _);rw [List.take_length] at g t;simp only [qow] at g;have s : sumL (fun b=>6 * volB b - Ux b b) l = sumL Zs l:=q2k fun b hb=>q12w (h b hb).1;rw [qow,qdr] at s;unfold volL;have u : sumL (fun b=>sumL (fun c=>Ux b c) l) l - sumL (fun b=>sumL (fun c=>Kj b c) l) l = sumL (fun b=>Ux b b) l - sumL (fun b=>Kj b b) l:=g;omega
  unfold Yw;unfold Ux at o;simp only [qhk] at o;omega
theorem q13o {b : qe} (h : vB b) : vBN 1000000 b:=by unfold vB at h;unfold vBN ltB;omega
theorem qdw {l : List qe} (a : CanB l) (h : ∀ b∈l,vB b) : Yw l = q2m 1000000 (hasB l):=q138 a.cnt fun b hb=>q13o (h b hb)
end Go.Sh
namespace Go.Sh
open Go Go.Am
abbrev V3:=Q6 × Q6 × Q6
def zeroV : Q6:=⟨0,0,0⟩
noncomputable def axT (t : Nat) : V3:=match q97 (t : Int) with
  | some m=>m
  | none=>(zeroV,zeroV,zeroV)
theorem qsu : ∀ t : Nat,t < 24→q97 (t : Int) = some (axT t):=by decide +kernel
def J2 (v : Q6) : Prop:=-1≤v.X∧v.X≤1∧-1≤v.Y∧v.Y≤1∧-1≤v.Z∧v.Z≤1
instance (v : Q6) : Decidable (J2 v):=by unfold J2;infer_instance
theorem qq2 : ∀ t : Nat,t < 24→J2 (axT t).1∧J2 (axT t).2.1∧J2 (axT t).2.2:=by decide +kernel
theorem qq3 : axT 0 = (⟨1,0,0⟩,⟨0,1,0⟩,⟨0,0,1⟩):=by decide +kernel
def mulV (m : V3) (v : Q6) : Q6:=⟨v.X * m.1.X + v.Y * m.2.1.X + v.Z * m.2.2.X,v.X * m.1.Y + v.Y * m.2.1.Y + v.Z * m.2.2.Y,v.X * m.1.Z + v.Y * m.2.1.Z + v.Z * m.2.2.Z⟩
def addV (a b : Q6) : Q6:=⟨a.X + b.X,a.Y + b.Y,a.Z + b.Z⟩
def Jc (v : Q6) (n : Int) : Prop:=-n≤v.X∧v.X≤n∧-n≤v.Y∧v.Y≤n∧-n≤v.Z∧v.Z≤n
theorem qug {a b : Int} {n : Int} (c : -n≤a∧a≤n) (hb : -1≤b∧b≤1) : -n≤a * b∧a * b≤n:=by
  have : b = -1∨b = 0∨b = 1:=by omega
  rcases this with rfl | rfl | rfl <;> simp <;> omega
theorem qly {m : V3} {v : Q6} {n : Int} (c : J2 m.1∧J2 m.2.1∧J2 m.2.2) (d : Jc v n) :
    (∀ a∈[v.X * m.1.X,v.Y * m.2.1.X,v.Z * m.2.2.X,v.X * m.1.Y,v.Y * m.2.1.Y,v.Z * m.2.2.Y,v.X * m.1.Z,v.Y * m.2.1.Z,v.Z * m.2.2.Z],-n≤a∧a≤n):=by
  obtain ⟨⟨h,u,z,t,r,x⟩,⟨b1,w,p,j,y,o⟩,⟨c1,c2,c3,c4,c5,l⟩⟩:=c;obtain ⟨v1,q,s,f,g,k⟩:=d;intro a b;simp only [List.mem_cons,List.not_mem_nil,or_false] at b;rcases b with rfl | rfl | rfl | rfl | rfl | rfl | rfl | rfl | rfl <;> exact qug ⟨by assumption,by assumption⟩ ⟨by assumption,by assumption⟩
theorem quf {m : V3} {v : Q6} {n : Int} (a : J2 m.1∧J2 m.2.1∧J2 m.2.2) (c : Jc v n) : Jc (mulV m v) (3 * n):=by
  have b:=qly a c;simp only [List.mem_cons,List.not_mem_nil,or_false,forall_eq_or_imp,forall_eq] at b;unfold Jc mulV;simp only;omega
theorem qsz {m : V3} {v : Q6} (a : J2 m.1∧J2 m.2.1∧J2 m.2.2) (c : Jc v 1000000000000) : q99 m v = some (mulV m v):=by
  have b:=qly a c;simp only [List.mem_cons,List.not_mem_nil,or_false,forall_eq_or_imp,forall_eq] at b;unfold q99 mulV;congr 2
  · rw [Qb (x:=v.X * m.1.X) q0,Qb (x:=v.Y * m.2.1.X) q0,Qb (x:=v.Z * m.2.2.X) q0,Qb (x:=v.X * m.1.X + _) q0,Qb q0]
  · rw [Qb (x:=v.X * m.1.Y) q0,Qb (x:=v.Y * m.2.1.Y) q0,Qb (x:=v.Z * m.2.2.Y) q0,Qb (x:=v.X * m.1.Y + _) q0,Qb q0]
  · rw [Qb (x:=v.X * m.1.Z) q0,Qb (x:=v.Y * m.2.1.Z) q0,Qb (x:=v.Z * m.2.2.Z) q0,Qb (x:=v.X * m.1.Z + _) q0,Qb q0]
noncomputable def Yy (t : Nat) (at_ v : Q6) : Q6:=addV (mulV (axT t) v) at_
theorem qsx {f : Y2} {t : Nat} {v : Q6} (g : f.Turn = t) (h : t < 24) (d : Jc f.At 1000000000000) (c : Jc v 1000000000000) : q98 f v = some (Yy t f.At v):=by
  have a:=qq2 t h;unfold q98;rw [g,qsu t h];simp only [qk,qsz a c];have b:=quf a c;unfold Jc at b d;unfold Yy addV;rw [Qb q0,Qb q0,Qb q0]
def InV (v : Q6) (lo : Int) : Prop:=lo≤v.X∧v.X≤1000000∧lo≤v.Y∧v.Y≤1000000∧lo≤v.Z∧v.Z≤1000000
instance (v : Q6) (lo : Int) : Decidable (InV v lo):=by unfold InV;infer_instance
theorem qk0 (v : Q6) (lo : Int) : q3z v lo = some (decide (InV v lo)):=by
  unfold q3z;by_cases a : min (min v.X v.Y) v.Z ≥ lo
  · by_cases b : max (max v.X v.Y) v.Z≤1000000
    · have : InV v lo:=by unfold InV;omega
      simp only [Qf a,Qf b,Qf this,Q2,qk]
    · have : ¬ InV v lo:=by unfold InV;omega
      simp only [Qf a,Qj b,Qj this,Q2,qk]
  · have : ¬ InV v lo:=by unfold InV;omega
    simp only [Qj a,Qj this,Q3,qk]
def FOk (f : Y2) : Prop:=f.Turn < 24∧InV f.At (-1000000)
instance (f : Y2) : Decidable (FOk f):=by unfold FOk;infer_instance
def SOk (s : qia) : Prop:=FOk s.Frame∧InV s.Size 0
instance (s : qia) : Decidable (SOk s):=by unfold SOk;infer_instance
theorem qrb {P Q : Prop} [Decidable P] [Decidable Q] {R : Prop} [Decidable R] (h : R↔P∧Q) : ((cond (decide (¬ P)) (some true) ((some (decide Q)).bind fun a=>some (!a))).bind fun c3=>cond c3 (some (8 : Int)) (some 0)) = some (if R then 0 else 8):=by
  by_cases p : P <;> by_cases q : Q <;> simp [p,q,h]
theorem qkd (f : Y2) : q5x f = some (if FOk f then 0 else 8):=by
  unfold q5x;rw [qk0];have e : decide (f.Turn ≥ 24) = decide (¬ f.Turn < 24):=by rw [decide_eq_decide];omega
  rw [e];exact qrb Iff.rfl
theorem qkx {v : Q6} {lo : Int} (h : InV v lo) (a : -1000000≤lo) : Jc v 1000000000000:=by unfold InV at h;unfold Jc;omega
end Go.Sh
namespace Go.Sh
open Go Go.Am
def q2q : qe:={Lo:=({X:=0,Y:=0,Z:=0} : Q6),Hi:=({X:=0,Y:=0,Z:=0} : Q6)}
def Yc (h b : qe) : qe:={Lo:=({X:=min h.Lo.X b.Lo.X,Y:=min h.Lo.Y b.Lo.Y,Z:=min h.Lo.Z b.Lo.Z} : Q6),Hi:=({X:=max h.Hi.X b.Hi.X,Y:=max h.Hi.Y b.Hi.Y,Z:=max h.Hi.Z b.Hi.Z} : Q6)}
def qtd : List qe→qe
  | []=>q2q
  | b::l=>(b::l).foldl Yc b
noncomputable def hull (l : List qe) : qe × Int:=if Qu l≠0 then (q2q,Qu l) else if l = [] then (q2q,6) else (qtd l,0)
theorem qte (l : List qe) (b : l.length≤1000000) (f : Int × Int × Int × Int × Int × Int × Int→Option ((Int × Int × Int × Int × Int × Int × Int) ⊕ (Int × Int × Int × Int × Int × Int)))
    (hs : ∀ k (h : k < l.length) (s : qe),f ((k : Int),s.Lo.X,s.Lo.Y,s.Lo.Z,s.Hi.X,s.Hi.Y,s.Hi.Z) = some (.inl (((k + 1 : Nat) : Int),(Yc s l[k]).Lo.X,(Yc s l[k]).Lo.Y,(Yc s l[k]).Lo.Z,(Yc s l[k]).Hi.X,(Yc s l[k]).Hi.Y,(Yc s l[k]).Hi.Z)))
    (hd : ∀ s : qe,f ((l.length : Int),s.Lo.X,s.Lo.Y,s.Lo.Z,s.Hi.X,s.Hi.Y,s.Hi.Z) = some (.inr (s.Lo.X,s.Lo.Y,s.Lo.Z,s.Hi.X,s.Hi.Y,s.Hi.Z))) (s : qe) (k : Nat) (a : k≤l.length) :
    loop f ((k : Int),((l.take k).foldl Yc s).Lo.X,((l.take k).foldl Yc s).Lo.Y,((l.take k).foldl Yc s).Lo.Z,((l.take k).foldl Yc s).Hi.X,((l.take k).foldl Yc s).Hi.Y,((l.take k).foldl Yc s).Hi.Z) =
      some ((l.foldl Yc s).Lo.X,(l.foldl Yc s).Lo.Y,(l.foldl Yc s).Lo.Z,(l.foldl Yc s).Hi.X,(l.foldl Yc s).Hi.Y,(l.foldl Yc s).Hi.Z):=
  Zv (f:=f) (fun k=>((k : Int),((l.take k).foldl Yc s).Lo.X,((l.take k).foldl Yc s).Lo.Y,((l.take k).foldl Yc s).Lo.Z,((l.take k).foldl Yc s).Hi.X,((l.take k).foldl Yc s).Hi.Y,((l.take k).foldl Yc s).Hi.Z)) l.length _ (fun k a=>by
    rw [hs k a,List.take_succ_eq_append_getElem a,List.foldl_append];rfl) (by rw [List.take_length,hd]) a
theorem q12a (l : List qe) : qb0 l = some (hull l):=by
  unfold qb0 hull;rw [q4z,qk];by_cases h : ¬ Qu l = 0
  · have : (Qu l != 0) = true:=by simpa using h
    rw [qr h,this,Q2];rfl
  replace h:=Classical.not_not.1 h;have d:=(Kp.1 h).1;rw [qq (by simp [h]),h,show ((0 : Int) != 0) = false from rfl,Q3]
  cases l with
  | nil=>rfl
  | cons b l=>
    have c : ((((b::l).length : Int)) == 0) = false:=by simp;omega
    have key:=qte (b::l) q0 (q51 (b::l)) (fun k a s=>by
      simp only [q51,dlt a,Q2,Qx a,qk,w64s a q0];rfl) (fun s=>by simp only [q51,dnl,Q3]) b 0 (Nat.zero_le _)
    have key : loop (q51 (b::l)) (0,b.Lo.X,b.Lo.Y,b.Lo.Z,b.Hi.X,b.Hi.Y,b.Hi.Z) = _:=key;rw [c,Q3,show idx (b::l) 0 = some b from rfl,qk,key,qq qd];rfl
def rowOk (a b c : Int) : Prop:=(a = 1∧b = 0∧c = 0)∨(a = -1∧b = 0∧c = 0)∨(a = 0∧b = 1∧c = 0)∨(a = 0∧b = -1∧c = 0)∨(a = 0∧b = 0∧c = 1)∨(a = 0∧b = 0∧c = -1)
instance (a b c : Int) : Decidable (rowOk a b c):=by unfold rowOk;infer_instance
theorem qq1 : ∀ t : Nat,t < 24→rowOk (axT t).1.X (axT t).2.1.X (axT t).2.2.X∧rowOk (axT t).1.Y (axT t).2.1.Y (axT t).2.2.Y∧rowOk (axT t).1.Z (axT t).2.1.Z (axT t).2.2.Z:=by decide +kernel
theorem qgz {a b c x y z u v w : Int} (h : rowOk a b c) (d : x < u) (f : y < v) (g : z < w) : x * a + y * b + z * c≠u * a + v * b + w * c:=by
  rcases h with ⟨rfl,rfl,rfl⟩ | ⟨rfl,rfl,rfl⟩ | ⟨rfl,rfl,rfl⟩ | ⟨rfl,rfl,rfl⟩ | ⟨rfl,rfl,rfl⟩ | ⟨rfl,rfl,rfl⟩ <;> omega
def qol (p q : Q6) : qe:={Lo:=({X:=min p.X q.X,Y:=min p.Y q.Y,Z:=min p.Z q.Z} : Q6),Hi:=({X:=max p.X q.X,Y:=max p.Y q.Y,Z:=max p.Z q.Z} : Q6)}
noncomputable def Zl (t : Nat) (at_ : Q6) (b : qe) : qe:=qol (Yy t at_ b.Lo) (Yy t at_ b.Hi)
theorem qwd {t : Nat} (h : t < 24) (at_ : Q6) {b : qe} (hb : ltB b) : (Yy t at_ b.Lo).X≠(Yy t at_ b.Hi).X∧(Yy t at_ b.Lo).Y≠(Yy t at_ b.Hi).Y∧(Yy t at_ b.Lo).Z≠(Yy t at_ b.Hi).Z:=by
  obtain ⟨d,c,a⟩:=qq1 t h;unfold Yy addV mulV;have j:=qgz d hb.1 hb.2.1 hb.2.2;have g:=qgz c hb.1 hb.2.1 hb.2.2;have f:=qgz a hb.1 hb.2.1 hb.2.2;simp only;omega
theorem qpa {t : Nat} (h : t < 24) (at_ : Q6) {b : qe} (hb : ltB b) : vB (Zl t at_ b)↔InV (Yy t at_ b.Lo) (-1000000)∧InV (Yy t at_ b.Hi) (-1000000):=by
  obtain ⟨d,c,a⟩:=qwd h at_ hb;unfold Zl qol vB InV;simp only;omega
noncomputable def place (l : List qe) (f : Y2) : List qe × Int:=
  if Qu l≠0 then ([],Qu l) else if ¬ FOk f then ([],8) else if ∀ b∈l,vB (Zl f.Turn.toNat f.At b) then mkB (l.map (Zl f.Turn.toNat f.At)) else ([],16)
theorem qpb {b : qe} (h : vB b) : Jc b.Lo 1000000000000∧Jc b.Hi 1000000000000∧InV b.Lo (-1000000)∧InV b.Hi (-1000000)∧ltB b:=by
  unfold vB at h;unfold Jc InV ltB;omega
theorem qbl {f : Y2} {t : Nat} (d : f.Turn = t) (a : t < 24) (b : FOk f) {v : Q6} (c : InV v (-1000000)) : q5w f v = some (if InV (Yy t f.At v) (-1000000) then (Yy t f.At v,0) else (zeroV,16)):=by
  unfold q5w;simp only [qkd,qk0,qk,qr b,show ((0 : Int) != 0) = false from rfl,Q3,Qf c,Bool.not_true];rw [qsx d a (qkx b.2 q0) (qkx c q0)];simp only [qk];by_cases hi : InV (Yy t f.At v) (-1000000)
  · rw [qr hi];simp [hi]
  · rw [qq hi];simp [hi];rfl
theorem qwc {l : List qe} (q : l.length≤400) (P : qe→Prop) [DecidablePred P] (pl : qe→qe) (e : List qe × Int) (f : Int × List qe→Option ((Int × List qe) ⊕ ((List qe) ⊕ (List qe × Int))))
    (d : ∀ k (h : k < l.length) (o : List qe),o.length = k→P l[k]→f ((k : Int),o) = some (.inl (((k + 1 : Nat) : Int),o ++ [pl l[k]])))
    (c : ∀ k (h : k < l.length) (o : List qe),o.length = k→¬ P l[k]→f ((k : Int),o) = some (.inr (.inr e)))
    (hd : ∀ o,f ((l.length : Int),o) = some (.inr (.inl o))) : loop f (0,[]) = some (if ∀ b∈l,P b then .inl (l.map pl) else .inr e):=by
  have main:=qcc (f:=f) (fun k=>((k : Int),(l.take k).map pl)) l.length (fun j=>∀ b,l[j]? = some b→P b) (.inl (l.map pl)) (.inr e)
    (fun k a n=>by
      rw [d k a _ (by simp;omega) (n k (Nat.le_refl _) _ (List.getElem?_eq_getElem a)),List.take_succ_eq_append_getElem a,List.map_append];rfl)
    (fun k a _ hb=>c k a _ (by simp;omega) fun h=>hb fun b hb=>by rw [List.getElem?_eq_getElem a] at hb;cases hb;exact h)
    (fun _=>by rw [List.take_length,hd])
  have m : ((((0 : Nat) : Int),(l.take 0).map pl) : Int × List qe) = (0,[]):=rfl;rw [m] at main;rcases main with ⟨p,g⟩ | ⟨j,n,hb,g⟩
  · rw [g,qr];intro b hb;obtain ⟨i,hi,rfl⟩:=List.getElem_of_mem hb;exact p i hi _ (List.getElem?_eq_getElem hi)
  · rw [g,qq];intro h;exact hb fun b hb=>h b (List.mem_of_getElem? hb)
theorem qhd (l : List qe) (f : Y2) (w : 0≤f.Turn) : q55 l f = some (place l f):=by
  unfold q55 place;rw [q4z,qk];by_cases h : ¬ Qu l = 0
  · have : (Qu l != 0) = true:=by simpa using h
    rw [qr h,this,Q2]
  replace h:=Classical.not_not.1 h;obtain ⟨t,r,x⟩:=Kp.1 h;rw [qq (by simp [h]),h,show ((0 : Int) != 0) = false from rfl,Q3,qkd,qk];by_cases c : ¬ FOk f
  · rw [qq c,qr c];rfl
  replace c:=Classical.not_not.1 c;rw [qr c,qq (by simp [c]),show ((0 : Int) != 0) = false from rfl,Q3];have m : f.Turn = (f.Turn.toNat : Int):=by omega
  have a : f.Turn.toNat < 24:=by have:=c.1;omega
  rw [qwc t (fun b=>vB (Zl f.Turn.toNat f.At b)) (Zl f.Turn.toNat f.At) ([],16) (q56 l f) (fun k g o u d=>by
      obtain ⟨s,v,q,n,p⟩:=qpb (r _ (Ki g));obtain ⟨j,p2⟩:=(qpa a f.At p).1 d;simp only [q56,dlt g,Q2,Qx g,qk,qbl m a c q,qbl m a c n,qr j,qr p2,show ((0 : Int) != 0) = false from rfl,Q3,w64s g q0]
      rw [Y4 (by simp;omega)];rfl) (fun k g o u d=>by
      obtain ⟨s,v,q,n,p⟩:=qpb (r _ (Ki g));rw [qpa a f.At p] at d;simp only [q56,dlt g,Q2,Qx g,qk,qbl m a c q,qbl m a c n];by_cases j : InV (Yy f.Turn.toNat f.At l[k].Lo) (-1000000)
      · have p2 : ¬ InV (Yy f.Turn.toNat f.At l[k].Hi) (-1000000):=fun p2=>d ⟨j,p2⟩;rw [qr j,qq p2];rfl
      · rw [qq j];rfl) (fun o=>by simp only [q56,dnl,Q3])]
  rw [qk];by_cases d : ∀ b∈l,vB (Zl f.Turn.toNat f.At b)
  · rw [qr d,qr d];simp only [qdg,qk]
  · rw [qq d,qq d]
end Go.Sh
