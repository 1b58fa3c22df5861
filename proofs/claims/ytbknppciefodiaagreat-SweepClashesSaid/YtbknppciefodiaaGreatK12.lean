/- Rs1 Rs2 Rs3 Qb1 Rs4 Qb2 Pf3 Rs5 Rs6 Rs7 Sw1 Sw2 Sw3 Sw4 Sw5 -/
import Derived.Test.YtbknppciefodiaaGreatK11
namespace Go.Sh
open Go Go.Am
theorem qbx {α β : Type} {f : α→Option (α ⊕ β)} (st : Nat→α) (n : Nat) (ok : Nat→Prop) (b e : β)
    (step : ∀ k,k < n→(∀ j,j≤k→ok j)→f (st k) = some (.inl (st (k + 1))))
    (bad : ∀ k,k < n→(∀ j,j < k→ok j)→¬ ok k→f (st k) = some (.inr e))
    (done : (∀ j,j < n→ok j)→f (st n) = some (.inr b)) :
    ((∀ j,j < n→ok j)∧loop f (st 0) = some b)∨(∃ j,j < n∧¬ ok j∧loop f (st 0) = some e):=by
  by_cases h : ∀ j,j < n→ok j
  · exact .inl ⟨h,Zh st n b (fun k c=>step k c fun j d=>h j q0) (done h) (Nat.zero_le _)⟩
  · refine .inr ?_
    have g : ∃ k,(k < n∧¬ ok k)∧∀ j,j < k→ok j:=by
      have : ∃ k,k < n∧¬ ok k:=by
        refine Classical.byContradiction fun o=>h fun k c=>?_
        exact Classical.byContradiction fun h=>o ⟨k,c,h⟩
      obtain ⟨k,c⟩:=this
      induction k using Nat.strongRecOn with
      | _ k ih=>
        by_cases d : ∃ j,j < k∧(j < n∧¬ ok j)
        · obtain ⟨j,l,g⟩:=d;exact ih j l g
        · exact ⟨k,c,fun j l=>Classical.byContradiction fun h=>d ⟨j,l,q0,h⟩⟩
    obtain ⟨K,⟨m,hb⟩,a⟩:=g
    exact ⟨K,m,hb,Zh st K e (fun k c=>step k q0 fun j d=>a j q0) (bad K m a hb) (Nat.zero_le _)⟩
theorem qgi (xs : List Int) (h : xs.length≤1000000) :
    ((Jt xs).bind fun c=>(Qu c.length xs.length).bind fun g=>(Ur c).bind fun b=>(Qu b.2.length c.length).bind fun m=>(Uv b.2.length b.1).bind fun k=>some ((b.2.drop b.1.1).take b.1.2)) = some (Qp xs):=by
  obtain ⟨ys,o,j,n⟩:=qnb xs h
  have f : ys.length = xs.length:=j.length_eq
  obtain ⟨w,a,c1,c2,c3,c4⟩:=qid n q0
  obtain ⟨_,p,_⟩:=Jm h
  have d : a.take w = Qp xs:=by
    refine qnc (l:=xs) ⟨c4.1,fun x=>?_⟩ p
    rw [c4.2 x];exact j.mem_iff
  simp only [Option.bind_some,o,Qu,f,if_true,c1,c2,Uv]
  rw [if_pos q0]
  simp only [Option.bind_some,List.drop_zero,d]
theorem qof (l : List qi) (o : List Int) (d : l.length≤400) (g : o.length≤10000) : loop (Zu l) (0,o) = some (o ++ xsOf l):=
  Jg l q0 (fun r=>[r.X0,r.X1]) o (fun o=>o) (Zu l) (fun k a c b=>by
    have f : c.length = o.length + 2 * k:=by
      rw [b,List.length_append];have:=Jv (l.take k);rw [List.length_take,Nat.min_eq_left q0] at this
      unfold xsOf at this;omega
    simp only [Zu,dlt a,cond_true,Qi a,Option.bind_some,w64s a q0]
    rw [Ky (by simp;omega)]
    rfl) (fun o=>by simp only [Zu,dnl,cond_false])
theorem qw4 (l : List qi) (c : l.length≤1000000) : q9e l (fun a=>q2m a) = some (decide (¬ ∀ r∈l,vR r)):=by
  have hs : ∀ (k : Nat) (h : k < l.length),q40 l (fun a=>q2m a) (k : Int) = some (if (fun r=>!decide (vR r)) l[k] = true then .inr (.inr (k : Int)) else .inl ((k + 1 : Nat) : Int)):=by
    intro k h
    simp only [q40,dlt h,cond_true,Qi h,Option.bind_some,w64s h c,q2m,qo8]
    by_cases j : vR l[k] <;> simp [j]
  have hd : q40 l (fun a=>q2m a) (l.length : Int) = some (.inr (.inl ())):=by simp only [q40,dnl,cond_false]
  unfold q9e qcu
  rcases Yy l (fun r=>!decide (vR r)) (fun k _=>(k : Int)) () _ hs hd with ⟨m,b⟩ | ⟨k,g,d,_,b⟩
  · rw [b]
    have : ∀ r∈l,vR r:=fun r f=>by simpa using m r f
    simp []
    omega
  · rw [b]
    have : ¬ ∀ r∈l,vR r:=fun h=>by simp [h _ (List.getElem_mem g)] at d
    simp only [Option.bind_some]
    rw [decide_eq_true this,decide_eq_true q0]
theorem qlv (l : List qi) : q1h l = some (mkR l):=by
  unfold q1h mkR
  by_cases b : 400 < l.length
  · rw [decide_eq_true (by omega : (l.length : Int) > 400),cond_true,if_pos b]
  rw [decide_eq_false (by omega : ¬ (l.length : Int) > 400),cond_false,if_neg b,qw4 l q0,Option.bind_some]
  by_cases a : ∀ r∈l,vR r
  · rw [decide_eq_false (fun h=>h a),cond_false,qki l q0 a,if_pos a];rfl
  · rw [decide_eq_true a,cond_true,if_neg a]
theorem qw1 (p q : List qi) : q98 p q = some (if Yb p≠0 then Yb p else Yb q):=by
  unfold q98
  simp only [qvv,Option.bind_some]
  by_cases h : Yb p = 0
  · simp [h]
  · have : (Yb p != 0) = true:=by simpa using h
    simp [h,this]
theorem rj1 : qcf = Zu:=rfl
theorem rj2 : qcg = Zu:=rfl
theorem rj4 : qch = Ua:=rfl
theorem rj5 : qci = Ua:=rfl
theorem qhw {p : List qi} (h : Yb p = 0) (x : Int) : Yi (covS p x) = 0∧Good (covS p x):=by
  obtain ⟨d,b,c⟩:=q87.1 h
  have a : Good (covS p x):=⟨qii b x,(c.cov x).2⟩
  have:=Ud p x
  refine ⟨?_,a⟩
  unfold Yi
  rw [if_neg q0,if_pos a]
theorem ql2 (kind : Int) {p q : List qi} (hp : Yb p = 0) (a : Yb q = 0) (x : Int) : opS kind (covS p x) (covS q x) = if 400 < (secJ kind p q x).length then ([],4) else (secJ kind p q x,0):=by
  unfold opS
  rw [if_neg (by simp [(qhw hp x).1]),if_neg (by simp [(qhw a x).1])]
  rfl
theorem qlx (kind : Int) (f : List qj→List qj→Option (List qj × Int)) (hf : ∀ a b,f a b = some (opS kind a b)) (p q : List qi) : q64 p q f = some (jR kind p q):=by
  unfold q64 jR
  rw [qw1,Option.bind_some]
  by_cases hp : ¬ Yb p = 0
  · rw [if_pos hp,if_pos hp]
    have : (Yb p != 0) = true:=by simpa using hp
    rw [this,cond_true]
  replace hp:=Classical.not_not.1 hp
  by_cases o : ¬ Yb q = 0
  · rw [if_neg (by simp [hp]),if_neg (by simp [hp]),if_pos o]
    have : (Yb q != 0) = true:=by simpa using o
    rw [this,cond_true]
  replace o:=Classical.not_not.1 o
  rw [if_neg (by simp [hp]),if_neg (by simp [hp]),if_neg (by simp [o]),o]
  obtain ⟨lp,vp,cp⟩:=q87.1 hp
  obtain ⟨lq,vq,cq⟩:=q87.1 o
  have aq:=Jv p
  have au:=Jv q
  rw [show ((0 : Int) != 0) = false from rfl,cond_false]
  simp only [show idx [p,q] 0 = some p from rfl,show idx [p,q] 1 = some q from rfl,Option.bind_some,rj1,rj2,qof p [] lp qe,List.nil_append,qof q (xsOf p) lq q0]
  rw [qgi _ (by simp;omega)]
  simp only [Option.bind_some]
  obtain ⟨_,ad,d⟩:=Jm (l:=xsOf p ++ xsOf q) (by simp;omega)
  have d : (Qp (xsOf p ++ xsOf q)).length≤1600:=by simp at d;omega
  have n : ∀ x,(secJ kind p q x).length≤(mrgR kind p q).length:=fun x=>qxv kind q0 x
  have ag : mrgR kind p q = (Qs putR Qq (Yl (Qp (xsOf p ++ xsOf q)) (secJ kind p q))).flat putR:=rfl
  rw [ag] at n ⊢
  generalize Qp (xsOf p ++ xsOf q) = xs at ad d n ⊢
  generalize aa : Yl xs (secJ kind p q) = steps at n ⊢
  have ar : steps.length = xs.length - 1:=by rw [← aa];exact q7p _ _
  have w : ∀ k (m : k < steps.length),steps[k] = (xs[k]'(q0),xs[k + 1]'(q0),secJ kind p q (xs[k]'(q0))):=fun k m=>by subst aa;exact q7o m q0
  have ah : ∀ k,k≤steps.length→(∀ j,j < k→∀ t,steps[j]? = some t→t.2.2.length≤400)→((Qs putR Qq (steps.take k)).flat putR).length≤1600 * 400:=fun k m s=>by
    have h1:=qbp putR (s0:=Qq) (M:=400) (steps:=steps.take k) (fun t v=>by
      obtain ⟨i,hi,rfl⟩:=List.getElem_of_mem v
      rw [List.length_take] at hi
      rw [List.getElem_take]
      exact s i q0 _ (List.getElem?_eq_getElem q0))
    have y : (steps.take k).length≤1600:=by rw [List.length_take];omega
    have h3 : (Qq.flat putR : List qi).length = 0:=rfl
    have z : (steps.take k).length * 400≤1600 * 400:=Nat.mul_le_mul_right _ y
    omega
  have r : ∀ x,loop (Ua p x) (0,[]) = some (covS p x):=fun x=>qf9 p lp x
  have u : ∀ x,loop (Ua q x) (0,[]) = some (covS q x):=fun x=>qf9 q lq x
  have main:=qbx (f:=q3y xs p q f) (fun k=>(((k + 1 : Nat) : Int),(Qs putR Qq (steps.take k)).sec,((Qs putR Qq (steps.take k)).done.length : Int),(Qs putR Qq (steps.take k)).hi,(Qs putR Qq (steps.take k)).flat putR))
    steps.length (fun j=>∀ t,steps[j]? = some t→t.2.2.length≤400) (.inl ((Qs putR Qq steps).sec,((Qs putR Qq steps).done.length : Int),(Qs putR Qq steps).hi,(Qs putR Qq steps).flat putR)) (.inr ([],4))
    (fun k m s=>by
      have c : k + 1 < xs.length:=by omega
      have ab : k < xs.length:=by omega
      have i1 : idx xs (w64 (((k + 1 : Nat) : Int) - 1)) = some xs[k]:=by rw [Qe q0];exact Zr q0 q0
      have hc:=s k (Nat.le_refl _) _ (List.getElem?_eq_getElem m)
      have hm:=ah k q0 fun j ao=>s j q0
      rw [q37 putR m,w k m] at *
      simp only at hc
      have hb:=qhk (Qs putR Qq (steps.take k)) xs[k] xs[k + 1] (secJ kind p q xs[k]) q0
      have ho : f (covS p xs[k]) (covS q xs[k]) = some (secJ kind p q xs[k],0):=by rw [hf,ql2 kind hp o,if_neg q0]
      simp only [q3y,dlt c,cond_true,i1,Qi c,Option.bind_some,show idx [p,q] 0 = some p from rfl,show idx [p,q] 1 = some q from rfl,rj4,rj5,r,u,ho,show ((0 : Int) != 0) = false from rfl,cond_false,hb]
      rw [w64s c q0])
    (fun k m s g=>by
      have c : k + 1 < xs.length:=by omega
      have ab : k < xs.length:=by omega
      have i1 : idx xs (w64 (((k + 1 : Nat) : Int) - 1)) = some xs[k]:=by rw [Qe q0];exact Zr q0 q0
      have hc : 400 < (secJ kind p q xs[k]).length:=by
        refine Nat.lt_of_not_le fun h=>g fun t v=>?_
        rw [List.getElem?_eq_getElem m,w k m] at v
        cases v;exact h
      have ho : f (covS p xs[k]) (covS q xs[k]) = some ([],4):=by rw [hf,ql2 kind hp o,if_pos hc]
      simp only [q3y,dlt c,cond_true,i1,Qi c,Option.bind_some,show idx [p,q] 0 = some p from rfl,show idx [p,q] 1 = some q from rfl,rj4,rj5,r,u,ho,show ((4 : Int) != 0) = true from rfl,cond_true])
    (fun _=>by
      have : decide (((steps.length + 1 : Nat) : Int) < (xs.length : Int)) = false:=decide_eq_false q0
      simp only [List.take_length,q3y,this,cond_false])
  have af : ((((0 + 1 : Nat) : Int),(Qs putR Qq (steps.take 0)).sec,((Qs putR Qq (steps.take 0)).done.length : Int),(Qs putR Qq (steps.take 0)).hi,(Qs putR Qq (steps.take 0)).flat putR) : Int × List qj × Int × Int × List qi) = (1,[],0,0,[]):=rfl
  rw [af] at main
  rcases main with ⟨_,y⟩ | ⟨j,s,g,y⟩
  · rw [y]
    simp only [Option.bind_some]
    by_cases z : 400 < ((Qs putR Qq steps).flat putR).length
    · rw [decide_eq_true (by omega : (((Qs putR Qq steps).flat putR).length : Int) > 400),if_pos z];rfl
    · rw [decide_eq_false (by omega : ¬ (((Qs putR Qq steps).flat putR).length : Int) > 400),if_neg z];rfl
  · rw [y]
    have am : j < xs.length:=by omega
    have h5 : 400 < (secJ kind p q xs[j]).length:=by
      refine Nat.lt_of_not_le fun h=>g fun t v=>?_
      rw [List.getElem?_eq_getElem s,w j s] at v
      cases v;exact h
    have h6:=n xs[j]
    have z : 400 < ((Qs putR Qq steps).flat putR).length:=Nat.lt_of_lt_of_le h5 h6
    rw [if_pos z];rfl
theorem qvz (p q : List qi) : q60 p q = some (jR 2 p q):=by
  unfold q60;rw [qlx 2 _ (fun a b=>q12t a b)];rfl
theorem qvx (p q : List qi) : q5z p q = some (jR 1 p q):=by
  unfold q5z;rw [qlx 1 _ (fun a b=>qss a b)];rfl
end Go.Sh
namespace Go.Sh
open Go Go.Am
theorem q11b (v : Qb) : q7g v = some (decide ((-1000000≤v.X∧-1000000≤v.Y∧-1000000≤v.Z)∧v.X≤1000000∧v.Y≤1000000∧v.Z≤1000000)):=by
  unfold q7g
  by_cases a : min (min v.X v.Y) v.Z ≥ -1000000
  · by_cases b : max (max v.X v.Y) v.Z≤1000000
    · rw [decide_eq_true a,decide_eq_true b,cond_true,Option.bind_some];congr 1;exact (decide_eq_true q0).symm
    · rw [decide_eq_true a,decide_eq_false b,cond_true,Option.bind_some];congr 1;exact (decide_eq_false q0).symm
  · rw [decide_eq_false a,cond_false,Option.bind_some];congr 1;exact (decide_eq_false q0).symm
theorem qn6 (b : qg) : q7i b = some (decide (vB b)):=by
  unfold q7i vB
  simp only [q11b,Option.bind_some]
  by_cases a : b.Lo.X < b.Hi.X
  · by_cases c : b.Lo.Y < b.Hi.Y
    · by_cases f : b.Lo.Z < b.Hi.Z
      · simp only [a,c,f,decide_true,cond_true,Option.bind_some,true_and]
        by_cases d : (-1000000≤b.Lo.X∧-1000000≤b.Lo.Y∧-1000000≤b.Lo.Z)∧b.Lo.X≤1000000∧b.Lo.Y≤1000000∧b.Lo.Z≤1000000
        · rw [decide_eq_true d]
          simp only [cond_true,Option.bind_some]
          congr 1
          exact decide_eq_decide.2 q0
        · rw [decide_eq_false d]
          simp only [cond_false,Option.bind_some]
          congr 1
          exact (decide_eq_false q0).symm
      · simp [a,c,f]
    · simp [a,c]
  · simp [a]
theorem qve (v : Qb) (n : Int) : Zt v n = some (decide ((n≤v.X∧n≤v.Y∧n≤v.Z)∧v.X≤1000000∧v.Y≤1000000∧v.Z≤1000000)):=by
  unfold Zt
  by_cases f : v.X ≥ n <;> by_cases c : v.Y ≥ n <;> by_cases d : v.Z ≥ n <;> by_cases a : v.X≤1000000 <;> by_cases g : v.Y≤1000000 <;> by_cases b : v.Z≤1000000 <;>
    simp [f,c,d,a,g,b] <;> omega
theorem qvo (b : qg) : q96 b = some (decide (vB b)):=by
  unfold q96 vB
  simp only [qve,Option.bind_some]
  by_cases a : (-1000000≤b.Lo.X∧-1000000≤b.Lo.Y∧-1000000≤b.Lo.Z)∧b.Lo.X≤1000000∧b.Lo.Y≤1000000∧b.Lo.Z≤1000000
  · rw [decide_eq_true a]
    simp only [cond_true,Option.bind_some]
    by_cases c : (-1000000≤b.Hi.X∧-1000000≤b.Hi.Y∧-1000000≤b.Hi.Z)∧b.Hi.X≤1000000∧b.Hi.Y≤1000000∧b.Hi.Z≤1000000
    · rw [decide_eq_true c]
      by_cases g : b.Lo.X < b.Hi.X <;> by_cases d : b.Lo.Y < b.Hi.Y <;> by_cases f : b.Lo.Z < b.Hi.Z <;> simp [g,d,f] <;> omega
    · rw [decide_eq_false c]
      simp only [cond_false,Option.bind_some]
      congr 1
      exact (decide_eq_false q0).symm
  · rw [decide_eq_false a]
    simp only [cond_false,Option.bind_some]
    congr 1
    exact (decide_eq_false q0).symm
theorem q11a (l : List qg) (c : l.length≤1000000) : q9c l (fun a=>q2w a) = some (decide (¬ ∀ r∈l,vB r)):=by
  have hs : ∀ (k : Nat) (h : k < l.length),q3z l (fun a=>q2w a) (k : Int) = some (if (fun r=>!decide (vB r)) l[k] = true then .inr (.inr (k : Int)) else .inl ((k + 1 : Nat) : Int)):=by
    intro k h
    simp only [q3z,dlt h,cond_true,Qi h,Option.bind_some,w64s h c,q2w,qn6]
    by_cases j : vB l[k] <;> simp [j]
  have hd : q3z l (fun a=>q2w a) (l.length : Int) = some (.inr (.inl ())):=by simp only [q3z,dnl,cond_false]
  unfold q9c qcr
  rcases Yy l (fun r=>!decide (vB r)) (fun k _=>(k : Int)) () _ hs hd with ⟨m,b⟩ | ⟨k,g,d,_,b⟩
  · rw [b]
    have : ∀ r∈l,vB r:=fun r f=>by simpa using m r f
    simp []
    omega
  · rw [b]
    have : ¬ ∀ r∈l,vB r:=fun h=>by simp [h _ (List.getElem_mem g)] at d
    simp only [Option.bind_some]
    rw [decide_eq_true this,decide_eq_true q0]
theorem q119 (l : List qg) (c : l.length≤1000000) : q1k l (fun a=>q2v a) = some (decide (¬ ∀ r∈l,vB r)):=by
  have hs : ∀ (k : Nat) (h : k < l.length),Us l (fun a=>q2v a) (k : Int) = some (if (fun r=>!decide (vB r)) l[k] = true then .inr (.inr (k : Int)) else .inl ((k + 1 : Nat) : Int)):=by
    intro k h
    simp only [Us,dlt h,cond_true,Qi h,Option.bind_some,w64s h c,q2v,qn6]
    by_cases j : vB l[k] <;> simp [j]
  have hd : Us l (fun a=>q2v a) (l.length : Int) = some (.inr (.inl ())):=by simp only [Us,dnl,cond_false]
  unfold q1k q9i
  rcases Yy l (fun r=>!decide (vB r)) (fun k _=>(k : Int)) () _ hs hd with ⟨m,b⟩ | ⟨k,g,d,_,b⟩
  · rw [b]
    have : ∀ r∈l,vB r:=fun r f=>by simpa using m r f
    simp []
    omega
  · rw [b]
    have : ¬ ∀ r∈l,vB r:=fun h=>by simp [h _ (List.getElem_mem g)] at d
    simp only [Option.bind_some]
    rw [decide_eq_true this,decide_eq_true q0]
theorem qn2 (s : Mg qi qg) (a b : Int) (c : List qi) (hl : (s.flat putB).length + c.length≤1000000) :
    q7d (s.flat putB) s.sec (s.done.length : Int) s.hi a b c = some ((addM putB s a b c).sec,((addM putB s a b c).done.length : Int),(addM putB s a b c).hi,(addM putB s a b c).flat putB):=by
  have t : (s.flat putB).length = s.done.length + s.sec.length:=by simp [Mg.flat]
  have d : s.sec.length≤1000000:=by omega
  unfold q7d
  rcases Ux putB s a b c with ⟨m,r,u,p⟩ | ⟨m,p⟩
  · have hb : decide ((c.length : Int) > 0) = true:=decide_eq_true (by have:=List.length_pos_iff.2 m;omega)
    have w : (s.hi == a) = true:=by simpa using u
    rw [r] at hb
    rw [p,r]
    simp only [hb,cond_true,w,Option.bind_some,qei _ _ d,decide_true]
    have:=qbo (fun v : qg=>({Lo:=v.Lo,Hi:=({X:=v.Hi.X,Y:=v.Hi.Y,Z:=b} : Qb)} : qg)) s.done (s.sec.map (putB s.lo s.hi)) (by simp;omega) (q7e b) (fun k o f z=>by
      have l : (s.done ++ s.sec.map (putB s.lo s.hi)).length = (s.flat putB).length:=rfl
      simp only [q7e,dlt f,cond_true,Qi f,Option.bind_some,w64s f q0,Int.toNat_natCast]) (fun o=>by simp only [q7e,dnl,cond_false])
    rw [show s.flat putB = s.done ++ s.sec.map (putB s.lo s.hi) from rfl,this]
    simp only [Option.bind_some,Mg.flat,List.map_map]
    rfl
  · rw [p]
    have y : ((cond (decide ((c.length : Int) > 0)) (some (s.hi == a)) (some false)).bind fun j=>(cond j ((q6d s.sec c).bind fun g=>some g) (some false))) = some false:=by
      by_cases l : c = []
      · subst l;simp
      · have hb : decide ((c.length : Int) > 0) = true:=decide_eq_true (by have:=List.length_pos_iff.2 l;omega)
        simp only [hb,cond_true,Option.bind_some,qei _ _ d]
        by_cases q : s.hi = a
        · have x : s.sec≠c:=fun h=>m ⟨l,h.symm,q⟩
          simp [q,x]
        · have : (s.hi == a) = false:=by simpa using q
          simp [this]
    have n:=q8q c (putB a b) (s.flat putB) (fun o=>(c,((s.flat putB).length : Int),b,o)) (q7f c a b (s.flat putB)) (fun k f o z=>by
      simp only [q7f,dlt f,cond_true,Qi f,Option.bind_some,w64s f q0]
      rw [Ky (by simp;omega)]
      rfl) (fun o=>by simp only [q7f,dnl,cond_false])
    rw [← Option.bind_assoc,y]
    simp only [Option.bind_some,cond_false,n]
    simp [Mg.flat]
theorem qgz (l : List qg) (o : List Int) (d : l.length≤400) (g : o.length≤10000) : loop (q1o l) (0,o) = some (o ++ zsOf l):=
  Jg l q0 (fun r=>[r.Lo.Z,r.Hi.Z]) o (fun o=>o) (q1o l) (fun k a c b=>by
    have f : c.length = o.length + 2 * k:=by
      rw [b,List.length_append];have:=Zi (l.take k);rw [List.length_take,Nat.min_eq_left q0] at this
      unfold zsOf at this;omega
    simp only [q1o,dlt a,cond_true,Qi a,Option.bind_some,w64s a q0]
    rw [Ky (by simp;omega)]
    rfl) (fun o=>by simp only [q1o,dnl,cond_false])
theorem q4r (l : List qg) (f : l.length≤400) (x : Int) : loop (q1p l x) (0,[]) = some (atB l x):=by
  have:=Jg l q0 (fun r=>if covB x r = true then [J6 r] else []) [] (fun o=>o) (q1p l x) (fun k a o d=>by
    have g : o.length≤k:=by rw [d,List.nil_append];have:=Jw (l.take k) x;rw [List.length_take,Nat.min_eq_left q0] at this;exact this
    simp only [q1p,dlt a,cond_true,Qi a,Option.bind_some,w64s a q0]
    by_cases b : l[k].Lo.Z≤x
    · by_cases c : x < l[k].Hi.Z
      · simp only [b,c,decide_true,cond_true,Option.bind_some,covB,Bool.and_self,if_true]
        rw [Ky (by simp;omega)]
        rfl
      · simp only [b,c,decide_true,decide_false,cond_true,cond_false,Option.bind_some,covB,Bool.and_false,if_false,Bool.false_eq_true,List.append_nil]
    · simp only [b,decide_false,cond_false,Option.bind_some,covB,Bool.false_and,if_false,Bool.false_eq_true,List.append_nil]) (fun o=>by simp only [q1p,dnl,cond_false])
  rw [List.nil_append] at this
  exact this
theorem qmq {kind : Int} {p q : List qg} {xs : List Int} (ag : Qp (zsOf p ++ zsOf q) = xs) (h : p.length + q.length≤800) (F : Int × List qi × Int × Int × List qg→Option ((Int × List qi × Int × Int × List qg) ⊕ ((List qi × Int × Int × List qg) ⊕ (List qg × Int))))
    (ab : ∀ (a b : Int) (k : Nat) (s : Mg qi qg),(s.flat putB).length + 400≤1000000→(h1 : k + 1 < xs.length)→a = xs[k]'(q0)→b = xs[k + 1]'h1→(secB kind p q a).length≤400→
      F (((k + 1 : Nat) : Int),s.sec,(s.done.length : Int),s.hi,s.flat putB) = some (.inl (((k + 1 + 1 : Nat) : Int),(addM putB s a b (secB kind p q a)).sec,((addM putB s a b (secB kind p q a)).done.length : Int),(addM putB s a b (secB kind p q a)).hi,(addM putB s a b (secB kind p q a)).flat putB)))
    (z : ∀ (a : Int) (k : Nat) (s : Mg qi qg),(h1 : k + 1 < xs.length)→a = xs[k]'(q0)→400 < (secB kind p q a).length→
      F (((k + 1 : Nat) : Int),s.sec,(s.done.length : Int),s.hi,s.flat putB) = some (.inr (.inr ([],4))))
    (w : ∀ (k : Nat) (s : Mg qi qg),xs.length≤k + 1→F (((k + 1 : Nat) : Int),s.sec,(s.done.length : Int),s.hi,s.flat putB) = some (.inr (.inl (s.sec,(s.done.length : Int),s.hi,s.flat putB)))) :
    (∃ a b c,loop F (1,[],0,0,[]) = some (.inl (a,b,c,mrgB kind p q)))∨(400 < (mrgB kind p q).length∧loop F (1,[],0,0,[]) = some (.inr ([],4))):=by
  have am:=Zi p
  have ao:=Zi q
  obtain ⟨_,aa,d⟩:=Jm (l:=zsOf p ++ zsOf q) (by simp;omega)
  have d : (Qp (zsOf p ++ zsOf q)).length≤1600:=by simp at d;omega
  have m : ∀ x,(secB kind p q x).length≤(mrgB kind p q).length:=fun x=>qmj kind q0 x
  have ae : mrgB kind p q = (Qs putB Qq (Yl (Qp (zsOf p ++ zsOf q)) (secB kind p q))).flat putB:=rfl
  rw [ae] at m ⊢
  rw [ag] at aa d m ⊢
  generalize y : Yl xs (secB kind p q) = steps at m ⊢
  have an : steps.length = xs.length - 1:=by rw [← y];exact q7p _ _
  have u : ∀ k (g : k < steps.length),steps[k] = (xs[k]'(q0),xs[k + 1]'(q0),secB kind p q (xs[k]'(q0))):=fun k g=>by subst y;exact q7o g q0
  have af : ∀ k,k≤steps.length→(∀ j,j < k→∀ t,steps[j]? = some t→t.2.2.length≤400)→((Qs putB Qq (steps.take k)).flat putB).length≤1600 * 400:=fun k g n=>by
    have h1:=qbp putB (s0:=Qq) (M:=400) (steps:=steps.take k) (fun t o=>by
      obtain ⟨i,hi,rfl⟩:=List.getElem_of_mem o
      rw [List.length_take] at hi
      rw [List.getElem_take]
      exact n i q0 _ (List.getElem?_eq_getElem q0))
    have v : (steps.take k).length≤1600:=by rw [List.length_take];omega
    have h3 : (Qq.flat putB : List qg).length = 0:=rfl
    have h4 : (steps.take k).length * 400≤1600 * 400:=Nat.mul_le_mul_right _ v
    omega
  have main:=qbx (f:=F) (fun k=>(((k + 1 : Nat) : Int),(Qs putB Qq (steps.take k)).sec,((Qs putB Qq (steps.take k)).done.length : Int),(Qs putB Qq (steps.take k)).hi,(Qs putB Qq (steps.take k)).flat putB))
    steps.length (fun j=>∀ t,steps[j]? = some t→t.2.2.length≤400) (.inl ((Qs putB Qq steps).sec,((Qs putB Qq steps).done.length : Int),(Qs putB Qq steps).hi,(Qs putB Qq steps).flat putB)) (.inr ([],4))
    (fun k g n=>by
      have r : k + 1 < xs.length:=by omega
      have hc:=n k (Nat.le_refl _) _ (List.getElem?_eq_getElem g)
      have hm:=af k q0 fun j al=>n j q0
      rw [q37 putB g,u k g] at *
      simp only at hc
      exact ab _ _ k (Qs putB Qq (steps.take k)) q0 r rfl rfl hc)
    (fun k g n hb=>by
      have r : k + 1 < xs.length:=by omega
      have aj : k < xs.length:=by omega
      refine z _ k (Qs putB Qq (steps.take k)) r rfl ?_
      refine Nat.lt_of_not_le fun h=>hb fun t o=>?_
      rw [List.getElem?_eq_getElem g,u k g] at o
      cases o;exact h)
    (fun _=>by
      rw [List.take_length]
      exact w steps.length _ q0)
  have ac : ((((0 + 1 : Nat) : Int),(Qs putB Qq (steps.take 0)).sec,((Qs putB Qq (steps.take 0)).done.length : Int),(Qs putB Qq (steps.take 0)).hi,(Qs putB Qq (steps.take 0)).flat putB) : Int × List qi × Int × Int × List qg) = (1,[],0,0,[]):=rfl
  rw [ac] at main
  rcases main with ⟨_,v⟩ | ⟨j,n,hb,v⟩
  · exact .inl ⟨_,_,_,v⟩
  · refine .inr ⟨?_,v⟩
    have ai : j < xs.length:=by omega
    have h5 : 400 < (secB kind p q xs[j]).length:=by
      refine Nat.lt_of_not_le fun h=>hb fun t o=>?_
      rw [List.getElem?_eq_getElem n,u j n] at o
      cases o;exact h
    exact Nat.lt_of_lt_of_le h5 (m xs[j])
theorem qmb (l : List qg) (m : l.length≤400) (y : ∀ b∈l,vB b) : q7j l = some (if 400 < (mrgB 2 l []).length then ([],4) else (mrgB 2 l [],0)):=by
  unfold q7j
  have x:=Zi l
  simp only [show idx [l] 0 = some l from rfl,Option.bind_some,qgz l [] m qe,List.nil_append]
  rw [qgi _ q0]
  simp only [Option.bind_some]
  have o : zsOf l = zsOf l ++ zsOf []:=by simp [zsOf]
  obtain ⟨_,w,d⟩:=Jm (l:=zsOf l ++ zsOf []) (by rw [← o];omega)
  have d : (Qp (zsOf l ++ zsOf [])).length≤800:=by rw [← o] at d ⊢;omega
  have h : ∀ z,q1h (atB l z) = some (if 400 < (secB 2 l [] z).length then ([],4) else (secB 2 l [] z,0)):=fun z=>by
    have:=Jw l z
    rw [qlv,mkR,if_neg q0,if_pos (qo7 y z)];rfl
  rw [o]
  have:=qmq (kind:=2) (p:=l) (q:=[]) rfl (by simp;omega) (q4b (Qp (zsOf l ++ zsOf [])) l)
    (fun a b k s hs f r hb u=>by
      have h0 : k < (Qp (zsOf l ++ zsOf [])).length:=by omega
      have t : idx (Qp (zsOf l ++ zsOf [])) (w64 (((k + 1 : Nat) : Int) - 1)) = some a:=by rw [Qe q0,r];exact Zr q0 q0
      have v : idx (Qp (zsOf l ++ zsOf [])) ((k + 1 : Nat) : Int) = some b:=by rw [hb];exact Qi f
      have g:=h a
      rw [if_neg q0] at g
      simp only [q4b,dlt f,cond_true,t,v,Option.bind_some,show idx [l] 0 = some l from rfl,q4r l m,g,show ((0 : Int) != 0) = false from rfl,cond_false,qn2 s a b (secB 2 l [] a) q0]
      rw [w64s f q0])
    (fun a k s f r u=>by
      have t : idx (Qp (zsOf l ++ zsOf [])) (w64 (((k + 1 : Nat) : Int) - 1)) = some a:=by rw [Qe q0,r];exact Zr q0 q0
      have g:=h a
      rw [if_pos u] at g
      simp only [q4b,dlt f,cond_true,t,Qi f,Option.bind_some,show idx [l] 0 = some l from rfl,q4r l m,g,show ((4 : Int) != 0) = true from rfl])
    (fun k s f=>by
      have : decide (((k + 1 : Nat) : Int) < ((Qp (zsOf l ++ zsOf [])).length : Int)) = false:=decide_eq_false q0
      simp only [q4b,this,cond_false])
  rcases this with ⟨a,b,c,n⟩ | ⟨j,n⟩
  · rw [n]
    simp only [Option.bind_some]
    by_cases j : 400 < (mrgB 2 l []).length
    · rw [decide_eq_true (by omega : ((mrgB 2 l []).length : Int) > 400),if_pos j];rfl
    · rw [decide_eq_false (by omega : ¬ ((mrgB 2 l []).length : Int) > 400),if_neg j];rfl
  · rw [n,if_pos j];rfl
theorem q111 (l : List qg) : qac l = some (mkB l):=by
  unfold qac mkB
  by_cases b : 400 < l.length
  · rw [decide_eq_true (by omega : (l.length : Int) > 400),cond_true,if_pos b]
  rw [decide_eq_false (by omega : ¬ (l.length : Int) > 400),cond_false,if_neg b,q11a l q0,Option.bind_some]
  by_cases a : ∀ r∈l,vB r
  · rw [decide_eq_false (fun h=>h a),cond_false,qmb l q0 a,if_pos a];rfl
  · rw [decide_eq_true a,cond_true,if_neg a]
theorem qqw (p q : List qg) (a : p.length≤1000000) : qcp p q = some (decide (p = q)):=sameBox p q a
theorem qcz (l : List qg) : q1n l = some (Qr l):=by
  unfold q1n Qr
  by_cases c : 400 < l.length
  · rw [decide_eq_true (by omega : (l.length : Int) > 400),cond_true,if_pos c]
  rw [decide_eq_false (by omega : ¬ (l.length : Int) > 400),cond_false,if_neg c,q119 l q0,Option.bind_some]
  by_cases a : ∀ r∈l,vB r
  · rw [decide_eq_false (fun h=>h a),cond_false,qmb l q0 a,if_pos a,Option.bind_some]
    by_cases b : 400 < (mrgB 2 l []).length
    · have d : mrgB 2 l []≠l:=fun h=>by rw [h] at b;exact c b
      rw [if_pos b,if_neg d];rfl
    · rw [if_neg b]
      simp only [qqw (mrgB 2 l []) l q0]
      by_cases f : mrgB 2 l [] = l <;> simp [f]
  · rw [decide_eq_true a,cond_true,if_neg a]
end Go.Sh
namespace Go.Sh
open Go Go.Am
theorem sj1 : qd1 = q1o:=rfl
theorem sj2 : qd2 = q1o:=rfl
theorem sj4 : qd3 = q1p:=rfl
theorem sj5 : qd4 = q1p:=rfl
theorem qe4 {p : List qg} (h : Qr p = 0) (z : Int) : Yb (atB p z) = 0:=by
  obtain ⟨c,a,b⟩:=Ya.1 h
  have:=Jw p z
  exact q87.2 ⟨q0,qo7 a z,b.at z⟩
theorem qc1 {p : List qg} (h : Qr p = 0) (z : Int) : q1h (atB p z) = some (atB p z,0):=by
  obtain ⟨c,a,b⟩:=q87.1 (qe4 h z)
  rw [qlv,mkR,if_neg q0,if_pos a,qkv q0 b,if_neg q0]
theorem qwl (kind : Int) (g : List qi→List qi→Option (List qi × Int)) (y : ∀ a b,g a b = some (jR kind a b)) (p q : List qg) (hp : Qr p = 0) (j : Qr q = 0) :
    qag g p q = some (if 400 < (mrgB kind p q).length then ([],4) else (mrgB kind p q,0)):=by
  obtain ⟨r,vp,cp⟩:=Ya.1 hp
  obtain ⟨t,vq,cq⟩:=Ya.1 j
  unfold qag
  have ab:=Zi p
  have ac:=Zi q
  simp only [show idx [p,q] 0 = some p from rfl,show idx [p,q] 1 = some q from rfl,Option.bind_some,sj1,sj2,qgz p [] r qe,List.nil_append,qgz q (zsOf p) t q0]
  rw [qgi _ (by simp;omega)]
  simp only [Option.bind_some]
  obtain ⟨_,aa,d⟩:=Jm (l:=zsOf p ++ zsOf q) (by simp;omega)
  have d : (Qp (zsOf p ++ zsOf q)).length≤1600:=by simp at d;omega
  have v : ∀ z,g (atB p z) (atB q z) = some (if 400 < (secB kind p q z).length then ([],4) else (secB kind p q z,0)):=fun z=>by
    rw [y,jR,if_neg (by simp [qe4 hp z]),if_neg (by simp [qe4 j z])];rfl
  have:=qmq (kind:=kind) (p:=p) (q:=q) rfl q0 (q4a (Qp (zsOf p ++ zsOf q)) p q g)
    (fun a b k s hs f o hb w=>by
      have h0 : k < (Qp (zsOf p ++ zsOf q)).length:=by omega
      have u : idx (Qp (zsOf p ++ zsOf q)) (w64 (((k + 1 : Nat) : Int) - 1)) = some a:=by rw [Qe q0,o];exact Zr q0 q0
      have x : idx (Qp (zsOf p ++ zsOf q)) ((k + 1 : Nat) : Int) = some b:=by rw [hb];exact Qi f
      have h:=v a
      rw [if_neg q0] at h
      simp only [q4a,dlt f,cond_true,u,x,Option.bind_some,show idx [p,q] 0 = some p from rfl,show idx [p,q] 1 = some q from rfl,sj4,sj5,q4r p r,q4r q t,qc1 hp,qc1 j,show ((0 : Int) == 0) = true from rfl,h,show ((0 : Int) != 0) = false from rfl,cond_false,qn2 s a b (secB kind p q a) q0]
      rw [w64s f q0])
    (fun a k s f o w=>by
      have u : idx (Qp (zsOf p ++ zsOf q)) (w64 (((k + 1 : Nat) : Int) - 1)) = some a:=by rw [Qe q0,o];exact Zr q0 q0
      have h:=v a
      rw [if_pos w] at h
      simp only [q4a,dlt f,cond_true,u,Qi f,Option.bind_some,show idx [p,q] 0 = some p from rfl,show idx [p,q] 1 = some q from rfl,sj4,sj5,q4r p r,q4r q t,qc1 hp,qc1 j,show ((0 : Int) == 0) = true from rfl,h,show ((4 : Int) != 0) = true from rfl])
    (fun k s f=>by
      have : decide (((k + 1 : Nat) : Int) < ((Qp (zsOf p ++ zsOf q)).length : Int)) = false:=decide_eq_false q0
      simp only [q4a,this,cond_false])
  rcases this with ⟨a,b,c,n⟩ | ⟨m,n⟩
  · rw [n]
    simp only [Option.bind_some]
    by_cases m : 400 < (mrgB kind p q).length
    · rw [decide_eq_true (by omega : ((mrgB kind p q).length : Int) > 400),if_pos m];rfl
    · rw [decide_eq_false (by omega : ¬ ((mrgB kind p q).length : Int) > 400),if_neg m];rfl
  · rw [n,if_pos m];rfl
theorem qk3 (kind : Int) (g : List qi→List qi→Option (List qi × Int)) (d : ∀ a b,g a b = some (jR kind a b)) (p q : List qg) : q7h p q g = some (jB kind p q):=by
  unfold q7h jB
  simp only [qcz,Option.bind_some]
  by_cases hp : ¬ Qr p = 0
  · rw [if_pos hp]
    have : (Qr p != 0) = true:=by simpa using hp
    rw [this,cond_true]
  replace hp:=Classical.not_not.1 hp
  by_cases c : ¬ Qr q = 0
  · rw [if_neg (by simp [hp]),if_pos c,hp]
    have : (Qr q != 0) = true:=by simpa using c
    rw [this];rfl
  replace c:=Classical.not_not.1 c
  rw [if_neg (by simp [hp]),if_neg (by simp [c]),qwl kind g d p q hp c,hp,c]
  rfl
theorem q115 (p q : List qg) : qae p q = some (jB 2 p q):=by
  unfold qae;rw [qk3 2 _ (fun a b=>qvz a b)];rfl
theorem q113 (p q : List qg) : qad p q = some (jB 1 p q):=by
  unfold qad;rw [qk3 1 _ (fun a b=>qvx a b)];rfl
def q4o (kind : Int) (p q : List qg) (z : Int) : Prop:=400 < (secB kind p q z).length∨400 < (secB 2 p [] z).length∨400 < (secB 2 q [] z).length
theorem qs4 (kind : Int) {p q : List qg} (h : p.length + q.length≤800) (r : ∀ z,(atB p z).length + (atB q z).length≤490) {xs : List Int} (k : xs.length≤1000000) {i : Nat} (hi : i + 1 < xs.length) (hb : q4o kind p q (xs[i]'(q0))) (a : Int) (c : List qi) (o : List qg) :
    q1g xs p q kind (c,a,(i : Int),o) = some (.inr (.inr ([],false))):=by
  have b : i < xs.length:=by omega
  have j : w64 ((i : Int) + 1) = ((i + 1 : Nat) : Int):=w64s b k
  have w:=Jw p xs[i]
  have x:=Jw q xs[i]
  have v:=r xs[i]
  have u : Js p xs[i] = some (atB p xs[i]):=qcb p q0 _
  have aq : Js q xs[i] = some (atB q xs[i]):=qcb q q0 _
  have t : J5 kind (atB p xs[i]) (atB q xs[i]) = some (secB kind p q xs[i]):=q5l kind q0
  have m : J5 2 (atB p xs[i]) [] = some (secB 2 p [] xs[i]):=q5l 2 (by simp;omega)
  have g : J5 2 (atB q xs[i]) [] = some (secB 2 q [] xs[i]):=q5l 2 (by simp;omega)
  unfold q1g
  simp only [j,dlt hi,cond_true,Qi b,u,aq,t,m,g,Option.bind_some]
  by_cases s : 400 < (secB kind p q xs[i]).length
  · have d : decide (((secB kind p q xs[i]).length : Int) > 400) = true:=decide_eq_true q0
    simp only [d,cond_true,Option.bind_some]
  have d : decide (((secB kind p q xs[i]).length : Int) > 400) = false:=decide_eq_false q0
  by_cases l : 400 < (secB 2 p [] xs[i]).length
  · have f : decide (((secB 2 p [] xs[i]).length : Int) > 400) = true:=decide_eq_true q0
    simp only [d,f,cond_true,cond_false,Option.bind_some]
  have f : decide (((secB 2 p [] xs[i]).length : Int) > 400) = false:=decide_eq_false q0
  have y : 400 < (secB 2 q [] xs[i]).length:=by rcases hb with h | h | h <;> first | exact absurd h s | exact absurd h l | exact h
  have n : decide (((secB 2 q [] xs[i]).length : Int) > 400) = true:=decide_eq_true q0
  simp only [d,f,n,cond_true,cond_false,Option.bind_some]
theorem qvn (kind : Int) {p q : List qg} (h : p.length + q.length≤800) (hz : ∀ z,(atB p z).length + (atB q z).length≤490) :
    q3w kind p q = some (mrgB kind p q,decide (((mrgB kind p q).length : Int)≤400))∨(q3w kind p q = some ([],false)∧∃ z,q4o kind p q z):=by
  unfold q3w
  rw [qvj q0]
  simp only [Option.bind_some]
  have ai:=Zi p
  have ak:=Zi q
  obtain ⟨_,af,r⟩:=Jm (l:=zsOf p ++ zsOf q) (by simp;omega)
  have x : (Qp (zsOf p ++ zsOf q)).length≤1600:=by simp at r;omega
  unfold mrgB
  generalize Qp (zsOf p ++ zsOf q) = xs at x ⊢
  generalize o : Yl xs (secB kind p q) = steps
  have aj : steps.length = xs.length - 1:=by rw [← o];exact q7p _ _
  have a : ∀ k (b : k < steps.length),steps[k] = (xs[k]'(q0),xs[k + 1]'(q0),secB kind p q (xs[k]'(q0))):=fun k b=>by subst o;exact q7o b q0
  have y : ∀ k,k≤steps.length→(∀ j,j < k→∀ t,steps[j]? = some t→¬ q4o kind p q t.1)→((Qs putB Qq (steps.take k)).flat putB).length≤1600 * 400:=fun k b g=>by
    have h1:=qbp putB (s0:=Qq) (M:=400) (steps:=steps.take k) (fun t c=>by
      obtain ⟨i,hi,rfl⟩:=List.getElem_of_mem c
      rw [List.length_take] at hi
      rw [List.getElem_take]
      have:=g i q0 _ (List.getElem?_eq_getElem q0)
      rw [a i q0] at this ⊢
      exact Nat.le_of_not_lt fun h=>this (.inl h))
    have n : (steps.take k).length≤1600:=by rw [List.length_take];omega
    have h3 : (Qq.flat putB : List qg).length = 0:=rfl
    have h4 : (steps.take k).length * 400≤1600 * 400:=Nat.mul_le_mul_right _ n
    omega
  have main:=qbx (f:=q1g xs p q kind) (fun k=>((Qs putB Qq (steps.take k)).sec,((Qs putB Qq (steps.take k)).done.length : Int),(k : Int),(Qs putB Qq (steps.take k)).flat putB))
    steps.length (fun j=>∀ t,steps[j]? = some t→¬ q4o kind p q t.1) (.inl ((Qs putB Qq steps).flat putB)) (.inr ([],false)) (fun k b g=>by
      have d : k + 1 < xs.length:=by omega
      have u:=g k (Nat.le_refl _) _ (List.getElem?_eq_getElem b)
      have hm:=y k q0 fun j ae=>g j q0
      rw [a k b] at u
      have s : qh1 kind p q xs[k]:=by
        refine ⟨hz _,?_,?_,?_⟩
        · exact Nat.le_of_not_lt fun h=>u (.inl h)
        · exact Nat.le_of_not_lt fun h=>u (.inr (.inl h))
        · exact Nat.le_of_not_lt fun h=>u (.inr (.inr h))
      have:=qs5 kind q0 (xs:=xs) q0 d s (Qs putB Qq (steps.take k)) q0 (fun h0=>by subst h0;rfl) (fun aa=>by
        obtain ⟨m,rfl⟩ : ∃ m,k = m + 1:=⟨k - 1,q0⟩
        rw [q37 putB q0,qh3,a m q0])
      rw [this,q37 putB b,a k b])
    (fun k b _ hb=>by
      have d : k + 1 < xs.length:=by omega
      have ad : k < xs.length:=by omega
      refine qs4 kind h hz q0 d ?_ _ _ _
      refine Classical.byContradiction fun v=>hb fun t c=>?_
      rw [List.getElem?_eq_getElem b,a k b] at c
      cases c;exact v)
    (fun _=>by
      rw [List.take_length]
      have hb : decide (w64 ((steps.length : Int) + 1) < (xs.length : Int)) = false:=by
        rw [Qe q0];exact decide_eq_false q0
      unfold q1g
      simp only [hb,cond_false])
  have w : (((Qs putB Qq (steps.take 0)).sec,((Qs putB Qq (steps.take 0)).done.length : Int),((0 : Nat) : Int),(Qs putB Qq (steps.take 0)).flat putB) : List qi × Int × Int × List qg) = ([],0,0,[]):=rfl
  rw [w] at main
  rcases main with ⟨h1,n⟩ | ⟨j,g,hb,n⟩
  · exact .inl (by rw [n];rfl)
  · refine .inr ⟨by rw [n];rfl,?_⟩
    have ac : j < xs.length:=by omega
    refine ⟨xs[j],?_⟩
    refine Classical.byContradiction fun v=>hb fun t c=>?_
    rw [List.getElem?_eq_getElem g,a j g] at c
    cases c;exact v
theorem qow {p q : List qg} (h : p.length + q.length≤490) (z : Int) : (atB p z).length + (atB q z).length≤490:=by
  have a:=Jw p z
  have b:=Jw q z
  omega
theorem qxt (kind : Int) (z : Int) : secB kind [] [] z = []:=qfl kind
theorem qvl (kind : Int) {p q : List qg} (h : p.length + q.length≤800) (a : ∀ z,(atB p z).length + (atB q z).length≤490) (hs : ∀ z,q4o kind p q z→400 < (mrgB kind p q).length) :
    ∃ o,q3w kind p q = some (o,decide ((mrgB kind p q).length≤400))∧((mrgB kind p q).length≤400→o = mrgB kind p q):=by
  rcases qvn kind h a with b | ⟨b,z,a⟩
  · refine ⟨_,?_,fun _=>rfl⟩
    rw [b]
    have : decide (((mrgB kind p q).length : Int)≤400) = decide ((mrgB kind p q).length≤400):=decide_eq_decide.2 q0
    rw [this]
  · have:=hs z a
    refine ⟨[],?_,fun h=>absurd h q0⟩
    rw [b,decide_eq_false q0]
theorem qxx {l : List qg} (h : l.length≤100000) : ∀ z,q4o 2 l [] z→400 < (mrgB 2 l []).length:=by
  intro z a
  have b:=qmj 2 (p:=l) (q:=[]) (by simpa using h) z
  rcases a with a | a | a
  · omega
  · omega
  · rw [qxt] at a;simp at a
theorem qvq (l : List qg) (n : l.length≤1000000) {γ : Type} (f : Int→Option (Int ⊕ (Unit ⊕ γ))) (e : γ) (g : ∀ k (h : k < l.length),f (k : Int) = some (if (fun r=>!decide (vB r)) l[k] = true then .inr (.inr e) else .inl ((k + 1 : Nat) : Int))) (hd : f (l.length : Int) = some (.inr (.inl ()))) :
    loop f 0 = some (if ∀ b∈l,vB b then .inl () else .inr e):=by
  rcases Yy l (fun r=>!decide (vB r)) (fun k _=>e) () f g hd with ⟨m,a⟩ | ⟨k,j,c,_,a⟩
  · have : ∀ r∈l,vB r:=fun r d=>by simpa using m r d
    rw [if_pos this];exact a
  · have : ¬ ∀ r∈l,vB r:=fun h=>by simp [h _ (List.getElem_mem j)] at c
    rw [if_neg this];exact a
theorem qvh (l : List qg) : q93 l = some (Qr l):=by
  unfold q93 Qr
  by_cases b : 400 < l.length
  · rw [decide_eq_true (by omega : (l.length : Int) > 400),cond_true,if_pos b]
  rw [decide_eq_false (by omega : ¬ (l.length : Int) > 400),cond_false,if_neg b]
  rw [qvq l q0 (q5r l) 8 (fun k c=>by
    simp only [q5r,dlt c,cond_true,Qi c,Option.bind_some,qvo,w64s c q0]
    by_cases a : vB l[k] <;> simp [a]) (by simp only [q5r,dnl,cond_false])]
  by_cases a : ∀ r∈l,vB r
  · rw [if_pos a,if_pos a]
    obtain ⟨o,j,g⟩:=qvl 2 (p:=l) (q:=[]) (by simp;omega) (qow (by simp;omega)) (qxx q0)
    simp only [Option.bind_some,j]
    by_cases f : 400 < (mrgB 2 l []).length
    · have d : mrgB 2 l []≠l:=fun h=>by rw [h] at f;exact b f
      rw [decide_eq_false q0,if_neg d];rfl
    · rw [decide_eq_true q0,g q0,sameBox _ l q0]
      by_cases m : mrgB 2 l [] = l <;> simp [m]
  · rw [if_neg a,if_neg a];rfl
end Go.Sh
namespace Go.Sh
open Go Go.Am
def sumN : Nat→(Int→Int)→Int
  | 0,_=>0
  | n + 1,f=>sumN n f + f n
theorem qnn {f g : Int→Int} : ∀ {n : Nat},sumN n (fun x=>f x + g x) = sumN n f + sumN n g
  | 0=>rfl
  | n + 1=>by rw [sumN,sumN,sumN,qnn (n:=n)];omega
theorem qnq {c : Int} {f : Int→Int} : ∀ {n : Nat},sumN n (fun x=>c * f x) = c * sumN n f
  | 0=>by simp [sumN]
  | n + 1=>by rw [sumN,sumN,qnq (n:=n),Int.mul_add]
theorem qnr : ∀ {n : Nat},sumN n (fun _=>0) = 0
  | 0=>rfl
  | n + 1=>by rw [sumN,qnr (n:=n)];rfl
theorem qnp {f g : Int→Int} : ∀ {n : Nat},(∀ k : Nat,k < n→f k≤g k)→sumN n f≤sumN n g
  | 0,_=>Int.le_refl _
  | n + 1,h=>by have:=qnp (n:=n) fun k a=>h k q0;have:=h n q0;rw [sumN,sumN];omega
noncomputable def ind (p : Prop) : Int:=by classical exact if p then 1 else 0
theorem qbv {p : Prop} (h : p) : ind p = 1:=by unfold ind;simp [h]
theorem U3 {p : Prop} (h : ¬ p) : ind p = 0:=by unfold ind;simp [h]
theorem q51 {p q : Prop} (h : p↔q) : ind p = ind q:=by rw [propext h]
theorem qjx {p q : Prop} : ind (p∧q) = ind p * ind q:=by
  by_cases hp : p <;> by_cases a : q
  · rw [qbv ⟨hp,a⟩,qbv hp,qbv a];rfl
  · rw [U3 (fun h=>a h.2),U3 a];simp
  · rw [U3 (fun h=>hp h.1),U3 hp];simp
  · rw [U3 (fun h=>hp h.1),U3 hp];simp
theorem qrv {p q : Prop} : ind (p∨q) = ind p + ind q - ind (p∧q):=by
  by_cases hp : p <;> by_cases a : q <;> simp [ind,hp,a]
theorem qjy {p : Prop} : 0≤ind p∧ind p≤1:=by by_cases hp : p <;> simp [ind,hp]
theorem qno (a b : Int) : ∀ {n : Nat},sumN n (fun x=>ind (a≤x∧x < b)) = max 0 (min b n - max a 0)
  | 0=>by rw [sumN];omega
  | n + 1=>by
    rw [sumN,qno a b (n:=n)]
    by_cases h : a≤(n : Int)∧(n : Int) < b
    · rw [qbv h];omega
    · rw [U3 h];omega
def sumZ (N : Nat) (f : Int→Int) : Int:=sumN (2 * N) fun k=>f (k - N)
theorem q124 {N : Nat} {f g : Int→Int} : sumZ N (fun x=>f x + g x) = sumZ N f + sumZ N g:=qnn
theorem qap {N : Nat} {c : Int} {f : Int→Int} : sumZ N (fun x=>c * f x) = c * sumZ N f:=qnq
theorem qns {N : Nat} : sumZ N (fun _=>0) = 0:=qnr
theorem qda {N : Nat} {f g : Int→Int} (h : ∀ x : Int,-(N : Int)≤x→x < N→f x≤g x) : sumZ N f≤sumZ N g:=
  qnp fun k a=>h _ q0 q0
theorem qgn {N : Nat} {a b : Int} (f : -N≤a) (c : a≤b) (d : b≤N) : sumZ N (fun x=>ind (a≤x∧x < b)) = b - a:=by
  unfold sumZ
  have : (fun k : Int=>ind (a≤k - N∧k - N < b)) = fun k=>ind (a + N≤k∧k < b + N):=by
    funext k;exact q51 ⟨fun h=>q0,fun h=>q0⟩
  simp only [this]
  rw [qno];omega
theorem qgo {N : Nat} {f : Int→Int} (h : ∀ x : Int,-(N : Int)≤x→x < N→0≤f x) : 0≤sumZ N f:=by
  rw [← qns (N:=N)];exact qda h
theorem qgm {N : Nat} {c : Int} : sumZ N (fun _=>c) = 2 * N * c:=by
  have : ∀ n : Nat,sumN n (fun _=>c) = n * c:=by
    intro n
    induction n with
    | zero=>simp [sumN]
    | succ n ih=>rw [sumN,ih,Int.natCast_succ,Int.add_mul,Int.one_mul]
  unfold sumZ;rw [this];simp
noncomputable def cnt3 (N : Nat) (P : Int→Int→Int→Prop) : Int:=sumZ N fun x=>sumZ N fun y=>sumZ N fun z=>ind (P x y z)
def sumL {α : Type} (f : α→Int) : List α→Int
  | []=>0
  | a::r=>f a + sumL f r
theorem qnm {α : Type} (f : α→Int) (a b : List α) : sumL f (a ++ b) = sumL f a + sumL f b:=by
  induction a with
  | nil=>simp [sumL]
  | cons x a ih=>rw [List.cons_append,sumL,sumL,ih];omega
theorem q123 {α : Type} {f g : α→Int} {l : List α} (h : ∀ a∈l,f a = g a) : sumL f l = sumL g l:=by
  induction l with
  | nil=>rfl
  | cons a l ih=>rw [sumL,sumL,h a qe,ih fun b hb=>h b (by simp [hb])]
theorem qgl {α : Type} {N : Nat} (f : α→Int→Int) (l : List α) : sumL (fun a=>sumZ N (f a)) l = sumZ N fun x=>sumL (fun a=>f a x) l:=by
  induction l with
  | nil=>exact qns.symm
  | cons a l ih=>
    have : (fun x=>sumL (fun a=>f a x) (a::l)) = fun x=>f a x + (fun x=>sumL (fun a=>f a x) l) x:=rfl
    rw [sumL,ih,this,q124]
def inB (b : qg) (x y z : Int) : Prop:=(b.Lo.X≤x∧x < b.Hi.X)∧(b.Lo.Y≤y∧y < b.Hi.Y)∧(b.Lo.Z≤z∧z < b.Hi.Z)
def inR (r : qi) (x y : Int) : Prop:=(r.X0≤x∧x < r.X1)∧(r.Y0≤y∧y < r.Y1)
def inS (t : qj) (x : Int) : Prop:=t.Lo≤x∧x < t.Hi
def volB (b : qg) : Int:=(b.Hi.X - b.Lo.X) * (b.Hi.Y - b.Lo.Y) * (b.Hi.Z - b.Lo.Z)
theorem q12w {N : Nat} {b : qg} (h : (b.Lo.X≤b.Hi.X∧b.Lo.Y≤b.Hi.Y∧b.Lo.Z≤b.Hi.Z)∧(-(N : Int)≤b.Lo.X∧-(N : Int)≤b.Lo.Y∧-(N : Int)≤b.Lo.Z)∧b.Hi.X≤N∧b.Hi.Y≤N∧b.Hi.Z≤N) :
    volB b = cnt3 N (inB b):=by
  obtain ⟨⟨k,f,j⟩,⟨c,m,d⟩,a,g,n⟩:=h
  unfold cnt3
  have e : ∀ x y,(sumZ N fun z=>ind (inB b x y z)) = ind (b.Lo.X≤x∧x < b.Hi.X) * (ind (b.Lo.Y≤y∧y < b.Hi.Y) * (b.Hi.Z - b.Lo.Z)):=fun x y=>by
    have : (fun z=>ind (inB b x y z)) = fun z=>ind (b.Lo.X≤x∧x < b.Hi.X) * (ind (b.Lo.Y≤y∧y < b.Hi.Y) * ind (b.Lo.Z≤z∧z < b.Hi.Z)):=by
      funext z;unfold inB;rw [qjx (p:=_∧_) (q:=(_∧_)∧_),qjx (p:=_∧_) (q:=_∧_)]
    rw [this,qap,qap,qgn d j n]
  have l : ∀ x,(sumZ N fun y=>sumZ N fun z=>ind (inB b x y z)) = ind (b.Lo.X≤x∧x < b.Hi.X) * ((b.Hi.Y - b.Lo.Y) * (b.Hi.Z - b.Lo.Z)):=fun x=>by
    have : (fun y=>sumZ N fun z=>ind (inB b x y z)) = fun y=>ind (b.Lo.X≤x∧x < b.Hi.X) * ((b.Hi.Z - b.Lo.Z) * ind (b.Lo.Y≤y∧y < b.Hi.Y)):=by
      funext y;rw [e,Int.mul_comm (b.Hi.Z - b.Lo.Z)]
    rw [this,qap,qap,qgn m f g,Int.mul_comm (b.Hi.Z - b.Lo.Z)]
  have : (fun x=>sumZ N fun y=>sumZ N fun z=>ind (inB b x y z)) = fun x=>((b.Hi.Y - b.Lo.Y) * (b.Hi.Z - b.Lo.Z)) * ind (b.Lo.X≤x∧x < b.Hi.X):=by
    funext x;rw [l,Int.mul_comm]
  rw [this,qap,qgn c k a,volB]
  simp only [Int.mul_assoc,Int.mul_left_comm,Int.mul_comm]
noncomputable def cntS (s : List qj) (y : Int) : Int:=sumL (fun t=>ind (inS t y)) s
noncomputable def cntR (l : List qi) (x y : Int) : Int:=sumL (fun t=>ind (inR t x y)) l
noncomputable def cntB (l : List qg) (x y z : Int) : Int:=sumL (fun t=>ind (inB t x y z)) l
theorem qi6 : ∀ {s : List qj},Can s→∀ y,cntS s y = ind (has s y)
  | [],_,y=>by rw [U3 (q1b y)];rfl
  | a::s,h,y=>by
    have b:=qi6 h.tail y
    unfold cntS at b ⊢
    rw [sumL,b,q51 (Zg (a:=a) (s:=s) (x:=y)),qrv]
    have : ¬ ((a.Lo≤y∧y < a.Hi)∧has s y):=fun ⟨c,h2⟩=>by have:=h.tail_gt h2;omega
    rw [U3 this];unfold inS;omega
theorem qqb (l : List qi) (x y : Int) : cntR l x y = cntS (covS l x) y:=by
  unfold cntR cntS
  induction l with
  | nil=>rfl
  | cons r l ih=>
    have e : covS (r::l) x = (if covR x r = true then [ysp r] else []) ++ covS l x:=rfl
    rw [sumL,ih,e,qnm]
    congr 1
    by_cases a : covR x r = true
    · rw [if_pos a]
      have:=q4u.1 a
      simp only [sumL,Int.add_zero]
      exact q51 ⟨fun h=>h.2,fun h=>⟨this,h⟩⟩
    · rw [if_neg a]
      rw [q4u] at a
      exact U3 fun h=>a h.1
theorem qqa (l : List qg) (x y z : Int) : cntB l x y z = cntR (atB l z) x y:=by
  unfold cntB cntR
  induction l with
  | nil=>rfl
  | cons r l ih=>
    have e : atB (r::l) z = (if covB z r = true then [J6 r] else []) ++ atB l z:=rfl
    rw [sumL,ih,e,qnm]
    congr 1
    by_cases a : covB z r = true
    · rw [if_pos a]
      have:=q20.1 a
      simp only [sumL,Int.add_zero]
      exact q51 ⟨fun h=>⟨h.1,h.2.1⟩,fun h=>⟨h.1,h.2,this⟩⟩
    · rw [if_neg a]
      rw [q20] at a
      exact U3 fun h=>a h.2.2
theorem CanR.cnt {l : List qi} (h : CanR l) (x y : Int) : cntR l x y = ind (hasR l x y):=by
  rw [qqb,qi6 (h.cov x),q51 Uo]
theorem CanB.cnt {l : List qg} (h : CanB l) (x y z : Int) : cntB l x y z = ind (hasB l x y z):=by
  rw [qqa,(h.at z).cnt,q51 q3b]
def volL (l : List qg) : Int:=sumL volB l
theorem q12z {N : Nat} {l : List qg} (a : ∀ x y z,cntB l x y z = ind (hasB l x y z)) (h : ∀ b∈l,(b.Lo.X≤b.Hi.X∧b.Lo.Y≤b.Hi.Y∧b.Lo.Z≤b.Hi.Z)∧(-(N : Int)≤b.Lo.X∧-(N : Int)≤b.Lo.Y∧-(N : Int)≤b.Lo.Z)∧b.Hi.X≤N∧b.Hi.Y≤N∧b.Hi.Z≤N) :
    volL l = cnt3 N (hasB l):=by
  unfold volL
  rw [q123 fun b hb=>q12w (h b hb)]
  unfold cnt3
  rw [qgl]
  congr 1;funext x
  rw [qgl]
  congr 1;funext y
  rw [qgl]
  congr 1;funext z
  exact a x y z
theorem q12y {l : List qg} (a : CanB l) (h : ∀ b∈l,vB b) : volL l = cnt3 1000000 (hasB l):=
  q12z a.cnt fun b hb=>by have:=h b hb;unfold vB at this;omega
end Go.Sh
namespace Go.Sh
open Go Go.Am
theorem qj4 {α β γ : Type} (l : List α) (b : l.length≤1000000) (g : γ→α→γ) (fin : γ→β) (f : γ × Int→Option ((γ × Int) ⊕ β))
    (hs : ∀ k (h : k < l.length) (s : γ),f (s,(k : Int)) = some (.inl (g s l[k],((k + 1 : Nat) : Int)))) (hd : ∀ s,f (s,(l.length : Int)) = some (.inr (fin s))) (s : γ) :
    loop f (s,0) = some (fin (l.foldl g s)):=by
  have key:=Zh (f:=f) (fun k=>((l.take k).foldl g s,(k : Int))) l.length (fin (l.foldl g s)) (fun k a=>by
    rw [hs k a,List.take_succ_eq_append_getElem a,List.foldl_append];rfl) (by rw [List.take_length,hd]) (Nat.zero_le _)
  exact key
theorem qgt (x : Int) : w64 x = if 9223372036854775808≤x % 18446744073709551616 then x % 18446744073709551616 - 18446744073709551616 else x % 18446744073709551616:=by
  unfold w64 IntKind.wrap
  simp [IntKind.bits,IntKind.signed]
theorem q133 (x y : Int) (h : x % 18446744073709551616 = y % 18446744073709551616) : w64 x = w64 y:=by rw [qgt,qgt,h]
theorem q134 (x : Int) : w64 x % 18446744073709551616 = x % 18446744073709551616:=by rw [qgt];split <;> omega
theorem q132 (a b : Int) : w64 (w64 a + b) = w64 (a + b):=q133 _ _ (by have:=q134 a;omega)
theorem qv2 {x y z : Int} (c : 0≤x∧x≤2000000) (a : 0≤y∧y≤2000000) (b : 0≤z∧z≤2000000) : (0≤x * y∧x * y≤4000000000000)∧0≤x * y * z∧x * y * z≤8000000000000000000:=by
  have d : 0≤x * y:=Int.mul_nonneg c.1 a.1
  have g : x * y≤2000000 * 2000000:=Int.mul_le_mul c.2 a.2 a.1 q0
  have h : 0≤x * y * z:=Int.mul_nonneg d b.1
  have f : x * y * z≤4000000000000 * 2000000:=Int.mul_le_mul q0 b.2 b.1 q0
  omega
theorem q131 {b : qg} (h : vB b) : w64 ((w64 ((w64 (b.Hi.X - b.Lo.X)) * (w64 (b.Hi.Y - b.Lo.Y)))) * (w64 (b.Hi.Z - b.Lo.Z))) = volB b:=by
  unfold vB at h
  rw [Qe (x:=b.Hi.X - b.Lo.X) q0,Qe (x:=b.Hi.Y - b.Lo.Y) q0,Qe (x:=b.Hi.Z - b.Lo.Z) q0]
  have:=qv2 (x:=b.Hi.X - b.Lo.X) (y:=b.Hi.Y - b.Lo.Y) (z:=b.Hi.Z - b.Lo.Z) q0 q0 q0
  rw [Qe (x:=(b.Hi.X - b.Lo.X) * (b.Hi.Y - b.Lo.Y)) q0,Qe q0];rfl
theorem qj9 {α : Type} (f : α→Int) : ∀ (l : List α) (n m : Int),n = w64 m→l.foldl (fun n b=>w64 (n + f b)) n = w64 (m + sumL f l)
  | [],n,m,h=>by simp [sumL,h]
  | b::l,n,m,h=>by
    rw [List.foldl_cons,qj9 f l _ (m + f b) (by rw [h,q132]),sumL,Int.add_assoc]
theorem qj8 {α γ : Type} {f g : γ→α→γ} : ∀ {l : List α} {s : γ},(∀ b∈l,∀ s,f s b = g s b)→l.foldl f s = l.foldl g s
  | [],_,_=>rfl
  | b::l,s,h=>by rw [List.foldl_cons,List.foldl_cons,h b qe,qj8 fun c a=>h c (by simp [a])]
theorem qq9 (N : Nat) (P : Int→Int→Int→Prop) : 0≤cnt3 N P∧cnt3 N P≤2 * N * (2 * N * (2 * N * 1)):=by
  constructor
  · exact qgo fun x _ _=>qgo fun y _ _=>qgo fun z _ _=>qjy.1
  · rw [← qgm (N:=N) (c:=1),← qgm,← qgm]
    exact qda fun x _ _=>qda fun y _ _=>qda fun z _ _=>qjy.2
theorem q12x {l : List qg} (h : Qr l = 0) : 0≤volL l∧volL l≤8000000000000000000:=by
  obtain ⟨c,a,b⟩:=Ya.1 h
  rw [q12y b a]
  have:=qq9 1000000 (hasB l)
  omega
noncomputable def volume (l : List qg) : Int × Int:=if Qr l≠0 then (0,Qr l) else (volL l,0)
theorem q130 {l : List qg} (h : Qr l = 0) : l.foldl (fun n b=>w64 (n + w64 ((w64 ((w64 (b.Hi.X - b.Lo.X)) * (w64 (b.Hi.Y - b.Lo.Y)))) * (w64 (b.Hi.Z - b.Lo.Z))))) 0 = volL l:=by
  obtain ⟨d,a,c⟩:=Ya.1 h
  rw [qj8 (g:=fun n b=>w64 (n + volB b)) fun b hb s=>by rw [q131 (a b hb)]]
  rw [qj9 volB l 0 0 (by rw [Qe q0])]
  have:=q12x h
  rw [Qe (by unfold volL at this;omega),Int.zero_add];rfl
theorem q117 (l : List qg) : qaf l = some (volume l):=by
  unfold qaf volume
  rw [qcz,Option.bind_some]
  by_cases h : Qr l = 0
  · rw [if_neg (by simp [h]),h,show ((0 : Int) != 0) = false from rfl,cond_false]
    have c:=(Ya.1 h).1
    rw [qj4 l q0 (fun n b=>w64 (n + w64 ((w64 ((w64 (b.Hi.X - b.Lo.X)) * (w64 (b.Hi.Y - b.Lo.Y)))) * (w64 (b.Hi.Z - b.Lo.Z))))) (fun n=>n) (q7c l) (fun k a s=>by
      simp only [q7c,dlt a,cond_true,Qi a,Option.bind_some,qd0,w64s a q0]) (fun s=>by simp only [q7c,dnl,cond_false]) 0,q130 h]
    rfl
  · have : (Qr l != 0) = true:=by simpa using h
    rw [if_pos h,this,cond_true]
theorem qev {b : qg} {l : List qg} {x y z : Int} : hasB (b::l) x y z↔inB b x y z∨hasB l x y z:=by
  constructor
  · rintro ⟨c,a,h⟩
    rcases List.mem_cons.1 a with rfl | a
    · exact .inl h
    · exact .inr ⟨c,a,h⟩
  · rintro (h | ⟨c,a,h⟩)
    · exact ⟨b,qe,h⟩
    · exact ⟨c,by simp [a],h⟩
instance (b : qg) (x y z : Int) : Decidable (inB b x y z):=by unfold inB;infer_instance
instance qqm : (l : List qg)→(x y z : Int)→Decidable (hasB l x y z)
  | [],x,y,z=>isFalse (q3a x y z)
  | b::l,x,y,z=>by
    have:=qqm l x y z
    exact decidable_of_iff _ qev.symm
end Go.Sh
namespace Go.Sh
open Go Go.Am
def ltB (b : qg) : Prop:=b.Lo.X < b.Hi.X∧b.Lo.Y < b.Hi.Y∧b.Lo.Z < b.Hi.Z
end Go.Sh
namespace Go.Sh
open Go Go.Am
abbrev V3:=Qb × Qb × Qb
def zeroV : Qb:=⟨0,0,0⟩
noncomputable def axT (t : Nat) : V3:=match qrg (t : Int) with
  | some m=>m
  | none=>(zeroV,zeroV,zeroV)
def qh2 (v : Qb) : Prop:=-1≤v.X∧v.X≤1∧-1≤v.Y∧v.Y≤1∧-1≤v.Z∧v.Z≤1
instance (v : Qb) : Decidable (qh2 v):=by unfold qh2;infer_instance
def mulV (m : V3) (v : Qb) : Qb:=⟨v.X * m.1.X + v.Y * m.2.1.X + v.Z * m.2.2.X,v.X * m.1.Y + v.Y * m.2.1.Y + v.Z * m.2.2.Y,v.X * m.1.Z + v.Y * m.2.1.Z + v.Z * m.2.2.Z⟩
def addV (a b : Qb) : Qb:=⟨a.X + b.X,a.Y + b.Y,a.Z + b.Z⟩
noncomputable def qjw (t : Nat) (at_ v : Qb) : Qb:=addV (mulV (axT t) v) at_
def InV (v : Qb) (lo : Int) : Prop:=lo≤v.X∧v.X≤1000000∧lo≤v.Y∧v.Y≤1000000∧lo≤v.Z∧v.Z≤1000000
instance (v : Qb) (lo : Int) : Decidable (InV v lo):=by unfold InV;infer_instance
theorem qek (v : Qb) (lo : Int) : q8l v lo = some (decide (InV v lo)):=by
  unfold q8l
  by_cases a : min (min v.X v.Y) v.Z ≥ lo
  · by_cases b : max (max v.X v.Y) v.Z≤1000000
    · have : InV v lo:=by unfold InV;omega
      simp only [decide_eq_true a,decide_eq_true b,decide_eq_true this,cond_true,Option.bind_some]
    · have : ¬ InV v lo:=by unfold InV;omega
      simp only [decide_eq_true a,decide_eq_false b,decide_eq_false this,cond_true,Option.bind_some]
  · have : ¬ InV v lo:=by unfold InV;omega
    simp only [decide_eq_false a,decide_eq_false this,cond_false,Option.bind_some]
theorem qb4 (v : Qb) (lo : Int) : Zt v lo = some (decide (InV v lo)):=by
  unfold Zt InV
  by_cases a : v.X ≥ lo <;> by_cases b : v.Y ≥ lo <;> by_cases c : v.Z ≥ lo <;> by_cases d : v.X≤1000000 <;> by_cases e : v.Y≤1000000 <;> by_cases f : v.Z≤1000000 <;> simp [a,b,c,d,e,f] <;> omega
def FOk (f : Y5) : Prop:=f.Turn < 24∧InV f.At (-1000000)
instance (f : Y5) : Decidable (FOk f):=by unfold FOk;infer_instance
def SOk (s : qhc) : Prop:=FOk s.Frame∧InV s.Size 0
instance (s : qhc) : Decidable (SOk s):=by unfold SOk;infer_instance
theorem qhx {P Q : Prop} [Decidable P] [Decidable Q] {R : Prop} [Decidable R] (h : R↔P∧Q) : ((cond (decide (¬ P)) (some true) ((some (decide Q)).bind fun a=>some (!a))).bind fun c3=>cond c3 (some (8 : Int)) (some 0)) = some (if R then 0 else 8):=by
  by_cases p : P <;> by_cases q : Q <;> simp [p,q,h]
theorem qjb (f : Y5) : q4y f = some (if FOk f then 0 else 8):=by
  unfold q4y
  rw [qek]
  have e : decide (f.Turn ≥ 24) = decide (¬ f.Turn < 24):=by rw [decide_eq_decide];omega
  rw [e]
  exact qhx Iff.rfl
theorem qlq (f : Y5) : q5n f = some (if FOk f then 0 else 8):=by
  unfold q5n
  rw [qb4]
  have e : decide (f.Turn ≥ 24) = decide (¬ f.Turn < 24):=by rw [decide_eq_decide];omega
  rw [e]
  exact qhx Iff.rfl
theorem qfm {P : Prop} [Decidable P] {a : Int} (h : a≠0) : ((if P then (0 : Int) else a) != 0) = decide (¬ P):=by
  by_cases p : P <;> simp [p,h]
end Go.Sh
namespace Go.Sh
open Go Go.Am
def rowOk (a b c : Int) : Prop:=(a = 1∧b = 0∧c = 0)∨(a = -1∧b = 0∧c = 0)∨(a = 0∧b = 1∧c = 0)∨(a = 0∧b = -1∧c = 0)∨(a = 0∧b = 0∧c = 1)∨(a = 0∧b = 0∧c = -1)
instance (a b c : Int) : Decidable (rowOk a b c):=by unfold rowOk;infer_instance
def q11h (p q : Qb) : qg:={Lo:=({X:=min p.X q.X,Y:=min p.Y q.Y,Z:=min p.Z q.Z} : Qb),Hi:=({X:=max p.X q.X,Y:=max p.Y q.Y,Z:=max p.Z q.Z} : Qb)}
noncomputable def qlh (t : Nat) (at_ : Qb) (b : qg) : qg:=q11h (qjw t at_ b.Lo) (qjw t at_ b.Hi)
noncomputable def place (l : List qg) (f : Y5) : List qg × Int:=
  if Qr l≠0 then ([],Qr l) else if ¬ FOk f then ([],8) else if ∀ b∈l,vB (qlh f.Turn.toNat f.At b) then mkB (l.map (qlh f.Turn.toNat f.At)) else ([],16)
theorem quz {l : List qg} (q : l.length≤400) (P : qg→Prop) [DecidablePred P] (pl : qg→qg) (e : List qg × Int) (f : Int × List qg→Option ((Int × List qg) ⊕ ((List qg) ⊕ (List qg × Int))))
    (m : ∀ k (h : k < l.length) (o : List qg),o.length = k→P l[k]→f ((k : Int),o) = some (.inl (((k + 1 : Nat) : Int),o ++ [pl l[k]])))
    (c : ∀ k (h : k < l.length) (o : List qg),o.length = k→¬ P l[k]→f ((k : Int),o) = some (.inr (.inr e)))
    (hd : ∀ o,f ((l.length : Int),o) = some (.inr (.inl o))) : loop f (0,[]) = some (if ∀ b∈l,P b then .inl (l.map pl) else .inr e):=by
  have main:=qbx (f:=f) (fun k=>((k : Int),(l.take k).map pl)) l.length (fun j=>∀ b,l[j]? = some b→P b) (.inl (l.map pl)) (.inr e)
    (fun k a n=>by
      rw [m k a _ (by simp;omega) (n k (Nat.le_refl _) _ (List.getElem?_eq_getElem a)),List.take_succ_eq_append_getElem a,List.map_append];rfl)
    (fun k a _ hb=>c k a _ (by simp;omega) fun h=>hb fun b hb=>by rw [List.getElem?_eq_getElem a] at hb;cases hb;exact h)
    (fun _=>by rw [List.take_length,hd])
  have d : ((((0 : Nat) : Int),(l.take 0).map pl) : Int × List qg) = (0,[]):=rfl
  rw [d] at main
  rcases main with ⟨p,g⟩ | ⟨j,n,hb,g⟩
  · rw [g,if_pos]
    intro b hb
    obtain ⟨i,hi,rfl⟩:=List.getElem_of_mem hb
    exact p i hi _ (List.getElem?_eq_getElem hi)
  · rw [g,if_neg]
    intro h
    exact hb fun b hb=>h b (List.mem_of_getElem? hb)
end Go.Sh
namespace Go.Sh
open Go Go.Am
end Go.Sh
namespace Go.Sh
open Go Go.Am
def grpR : List qi→List (Grp qj)
  | []=>[]
  | r::l=>match grpR l with
    | g::gs=>if g.lo = r.X0∧g.hi = r.X1 then ⟨g.lo,g.hi,ysp r::g.sec⟩::gs else ⟨r.X0,r.X1,[ysp r]⟩::g::gs
    | []=>[⟨r.X0,r.X1,[ysp r]⟩]
def grpB : List qg→List (Grp qi)
  | []=>[]
  | r::l=>match grpB l with
    | g::gs=>if g.lo = r.Lo.Z∧g.hi = r.Hi.Z then ⟨g.lo,g.hi,J6 r::g.sec⟩::gs else ⟨r.Lo.Z,r.Hi.Z,[J6 r]⟩::g::gs
    | []=>[⟨r.Lo.Z,r.Hi.Z,[J6 r]⟩]
theorem qjp : ∀ l : List qi,Ku putR (grpR l) = l
  | []=>rfl
  | r::l=>by
    have a:=qjp l
    unfold grpR
    split
    · rename_i g d h
      rw [h] at a
      split
      · rename_i b
        obtain ⟨b,c⟩:=b
        rw [← a]
        simp only [Ku,List.flatMap_cons,List.map_cons,List.cons_append,b,c]
        congr 1
      · rw [← a];rfl
    · rename_i h
      rw [h] at a
      rw [← a];rfl
theorem qjo : ∀ l : List qg,Ku putB (grpB l) = l
  | []=>rfl
  | r::l=>by
    have a:=qjo l
    unfold grpB
    split
    · rename_i g d h
      rw [h] at a
      split
      · rename_i b
        obtain ⟨b,c⟩:=b
        rw [← a]
        simp only [Ku,List.flatMap_cons,List.map_cons,List.cons_append,b,c]
        congr 1
      · rw [← a];rfl
    · rename_i h
      rw [h] at a
      rw [← a];rfl
instance {σ : Type} [DecidableEq σ] (gs : List (Grp σ)) : Decidable (CanG gs):=by unfold CanG;infer_instance
instance (s : List qj) : Decidable (Can s):=by unfold Can;infer_instance
def isR (l : List qi) : Prop:=CanG (grpR l)∧∀ g∈grpR l,Can g.sec
instance (l : List qi) : Decidable (isR l):=by unfold isR;infer_instance
def isB (l : List qg) : Prop:=CanG (grpB l)∧∀ g∈grpB l,isR g.sec
instance (l : List qg) : Decidable (isB l):=by unfold isB;infer_instance
theorem isR.can {l : List qi} (h : isR l) : CanR l:=⟨grpR l,(qjp l).symm,h.1,h.2⟩
theorem isB.can {l : List qg} (h : isB l) : CanB l:=⟨grpB l,(qjo l).symm,h.1,fun g a=>(h.2 g a).can⟩
theorem q1y {l : List qg} (h : l.length≤400∧(∀ b∈l,vB b)∧isB l) : Qr l = 0:=Ya.2 ⟨h.1,h.2.1,h.2.2.can⟩
theorem qkt {kind : Int} {p q out : List qg} (h : p.length + q.length≤100000) (a : CanB out) (b : ∀ x y z,Ki kind (hasB p x y z) (hasB q x y z)↔hasB out x y z) : mrgB kind p q = out:=
  qhr (q5e kind h) a fun x y z=>by rw [q8m kind h];exact b x y z
theorem qsw {l out : List qg} (h : l.length≤400∧(∀ b∈l,vB b)∧out.length≤400) (a : isB out) (c : ∀ x y z,hasB l x y z↔hasB out x y z) : mkB l = (out,0):=by
  have e : mrgB 2 l [] = out:=qkt (by simp;omega) a.can fun x y z=>by rw [q3c,← c];simp [q3a]
  unfold mkB
  rw [if_neg q0,if_pos h.2.1,e,if_neg q0]
theorem qq1 {kind : Int} {p q : List qg} (hp : Qr p = 0) (f : Qr q = 0) (b : (mrgB kind p q).length≤400) : Qr (mrgB kind p q) = 0:=by
  obtain ⟨h,d,j⟩:=Ya.1 hp
  obtain ⟨k,c,g⟩:=Ya.1 f
  have a:=q5e kind (p:=p) (q:=q) q0
  exact Ya.2 ⟨b,a.vB (InB.mrg q0 (qgs d) (qgs c)),a⟩
theorem qk0 (kind : Int) {p q : List qg} (hp : Qr p = 0) (a : Qr q = 0) :
    jB kind p q = ([],4)∨(jB kind p q = (mrgB kind p q,0)∧Qr (mrgB kind p q) = 0∧∀ x y z,hasB (mrgB kind p q) x y z↔Ki kind (hasB p x y z) (hasB q x y z)):=by
  have b:=(Ya.1 hp).1
  have c:=(Ya.1 a).1
  unfold jB
  rw [if_neg (by simp [hp]),if_neg (by simp [a])]
  by_cases h : 400 < (mrgB kind p q).length
  · exact .inl (by rw [if_pos h])
  · exact .inr ⟨by rw [if_neg h],qq1 hp a q0,q8m kind q0⟩
theorem qf2 {kind : Int} {p q out : List qg} (hp : Qr p = 0) (a : Qr q = 0) (b : CanB out) (d : out.length≤400) (c : ∀ x y z,Ki kind (hasB p x y z) (hasB q x y z)↔hasB out x y z) : jB kind p q = (out,0):=by
  have f:=(Ya.1 hp).1
  have g:=(Ya.1 a).1
  have e:=qkt (kind:=kind) (p:=p) (q:=q) q0 b c
  unfold jB
  rw [if_neg (by simp [hp]),if_neg (by simp [a]),e,if_neg q0]
def bx (x y z u v w : Int) : qg:={Lo:=({X:=x,Y:=y,Z:=z} : Qb),Hi:=({X:=u,Y:=v,Z:=w} : Qb)}
theorem qe3 : Qr [] = 0:=q1y qs
instance (kind : Int) (a b : Prop) [Decidable a] [Decidable b] : Decidable (Ki kind a b):=by unfold Ki;infer_instance
end Go.Sh
namespace Go.Sh
open Go Go.Am
def swp (a c : Qb) (b : qg) : qg:={Lo:=({X:=b.Lo.X + min a.X c.X,Y:=b.Lo.Y + min a.Y c.Y,Z:=b.Lo.Z + min a.Z c.Z} : Qb),Hi:=({X:=b.Hi.X + max a.X c.X,Y:=b.Hi.Y + max a.Y c.Y,Z:=b.Hi.Z + max a.Z c.Z} : Qb)}
end Go.Sh
namespace Go.Sh
open Go Go.Am
end Go.Sh
namespace Go.Sh
open Go Go.Am
def Ax (a c : Qb) : Prop:=(a.X = c.X∧a.Y = c.Y)∨(a.X = c.X∧a.Z = c.Z)∨(a.Y = c.Y∧a.Z = c.Z)
instance (a c : Qb) : Decidable (Ax a c):=by unfold Ax;infer_instance
def LOk (l : Qx) : Prop:=Ax l.From l.To∧InV l.From (-1000000)∧InV l.To (-1000000)
instance (l : Qx) : Decidable (LOk l):=by unfold LOk;infer_instance
def TOk (t : Qn) : Prop:=(t.Lines.length≤2000∧t.Marks.length≤2000∧FOk t.End.Frame)∧(∀ l∈t.Lines,LOk l)∧∀ m∈t.Marks,FOk m.Frame
instance (t : Qn) : Decidable (TOk t):=by unfold TOk;infer_instance
theorem q12m (v : Qb) : qb2 v = some (decide (InV v (-1000000))):=qek v (-1000000)
theorem q12j (l : Qx) : loop (Uu l) (0,0) = some ((if w64 (l.To.X - l.From.X) = 0 then 1 else 0) + (if w64 (l.To.Y - l.From.Y) = 0 then 1 else 0) + (if w64 (l.To.Z - l.From.Z) = 0 then 1 else 0)):=by
  have c : w64 (0 + 1) = 1:=by decide
  have a : w64 (1 + 1) = 2:=by decide
  have b : w64 (2 + 1) = 3:=by decide
  have s : ∀ n k v,idxA 3 [w64 (l.To.X - l.From.X),w64 (l.To.Y - l.From.Y),w64 (l.To.Z - l.From.Z)] k = some v→k < 3→Uu l (n,k) = some (.inl (if v = 0 then w64 (n + 1) else n,w64 (k + 1))):=by
    intro n k v g j
    unfold Uu
    simp only [decide_eq_true j,cond_true,g,Option.bind_some]
    by_cases h : v = 0
    · have e : (v == 0) = true:=by simpa using h
      rw [e,if_pos h];rfl
    · have e : (v == 0) = false:=by simpa using h
      rw [e,if_neg h];rfl
  have o : ∀ n,Uu l (n,0) = some (.inl (if w64 (l.To.X - l.From.X) = 0 then w64 (n + 1) else n,1)):=fun n=>by rw [s n 0 _ rfl q0,c]
  have d : ∀ n,Uu l (n,1) = some (.inl (if w64 (l.To.Y - l.From.Y) = 0 then w64 (n + 1) else n,2)):=fun n=>by rw [s n 1 _ rfl q0,a]
  have m : ∀ n,Uu l (n,2) = some (.inl (if w64 (l.To.Z - l.From.Z) = 0 then w64 (n + 1) else n,3)):=fun n=>by rw [s n 2 _ rfl q0,b]
  have f : ∀ n,Uu l (n,3) = some (.inr n):=fun n=>rfl
  rw [Kr (o 0),Kr (d _),Kr (m _),K7 (f _)]
  split <;> split <;> split <;> decide
theorem qsj (l : Qx) : q7x l = some (!decide (LOk l)):=by
  unfold q7x
  simp only [q12j,q12m,Option.bind_some]
  by_cases d : InV l.From (-1000000)
  · by_cases g : InV l.To (-1000000)
    · have hb : ∀ {a b : Int},-1000000≤a→a≤1000000→-1000000≤b→b≤1000000→(w64 (a - b) = 0↔b = a):=fun d g k j=>by rw [Qe q0];omega
      have f:=d;have c:=g
      unfold InV at f c
      simp only [hb c.1 c.2.1 f.1 f.2.1,hb c.2.2.1 c.2.2.2.1 f.2.2.1 f.2.2.2.1,hb c.2.2.2.2.1 c.2.2.2.2.2 f.2.2.2.2.1 f.2.2.2.2.2]
      simp only [d,g,decide_true,Bool.not_true,cond_false,Option.bind_some]
      congr 1
      rw [Bool.eq_iff_iff]
      simp only [decide_eq_true_eq,Bool.not_eq_true',decide_eq_false_iff_not,LOk,Ax,d,g,and_true]
      split <;> split <;> split <;> simp_all
    · have : ¬ LOk l:=fun h=>g h.2.2
      simp [d,g,this]
  · have : ¬ LOk l:=fun h=>d h.2.1
    simp [d,this]
theorem qsy (m : Yn) : q7y m = some (!decide (FOk m.Frame)):=by
  unfold q7y
  rw [qjb]
  by_cases h : FOk m.Frame <;> simp [h]
theorem qkf (l : List Qx) (b : l.length≤1000000) (p : Qx→Option Bool) (c : Qx→Bool) (h : ∀ v,p v = some (c v)) : q6c l p = some (l.any c):=by
  unfold q6c qcs
  rcases Yy l c (fun k _=>(k : Int)) () (q6e l p) (fun k a=>by
    simp only [q6e,dlt a,cond_true,Qi a,Option.bind_some,w64s a b,h]
    cases c l[k] <;> simp) (by simp only [q6e,dnl,cond_false]) with ⟨h1,h2⟩ | ⟨k,a,hc,_,h2⟩
  · rw [h2]
    have : l.any c = false:=by rw [List.any_eq_false];exact fun v d=>by rw [h1 v d];simp
    rw [this];rfl
  · rw [h2]
    have : l.any c = true:=List.any_eq_true.2 ⟨_,List.getElem_mem a,hc⟩
    simp only [Option.bind_some]
    rw [this,decide_eq_true q0]
theorem qsq (l : List Yn) (b : l.length≤1000000) (p : Yn→Option Bool) (c : Yn→Bool) (h : ∀ v,p v = some (c v)) : q9d l p = some (l.any c):=by
  unfold q9d qct
  rcases Yy l c (fun k _=>(k : Int)) () (q6f l p) (fun k a=>by
    simp only [q6f,dlt a,cond_true,Qi a,Option.bind_some,w64s a b,h]
    cases c l[k] <;> simp) (by simp only [q6f,dnl,cond_false]) with ⟨h1,h2⟩ | ⟨k,a,hc,_,h2⟩
  · rw [h2]
    have : l.any c = false:=by rw [List.any_eq_false];exact fun v d=>by rw [h1 v d];simp
    rw [this];rfl
  · rw [h2]
    have : l.any c = true:=List.any_eq_true.2 ⟨_,List.getElem_mem a,hc⟩
    simp only [Option.bind_some]
    rw [this,decide_eq_true q0]
theorem q12k (t : Qn) (j : t.Lines.length≤1000000) (g : t.Marks.length≤1000000) : qb1 t = some (if TOk t then 0 else 8):=by
  unfold qb1
  rw [qkf t.Lines j _ _ qsj,qsq t.Marks g _ _ qsy,qjb]
  simp only [Option.bind_some,qfm (show (8 : Int)≠0 by omega)]
  have n : (t.Lines.any fun l=>!decide (LOk l)) = decide (¬ ∀ l∈t.Lines,LOk l):=by
    rw [Bool.eq_iff_iff];simp
  have f : (t.Marks.any fun m=>!decide (FOk m.Frame)) = decide (¬ ∀ m∈t.Marks,FOk m.Frame):=by
    rw [Bool.eq_iff_iff];simp
  have k : decide (max (t.Lines.length : Int) (t.Marks.length : Int) > 2000) = decide (¬ (t.Lines.length≤2000∧t.Marks.length≤2000)):=by
    rw [decide_eq_decide];omega
  rw [n,f,k]
  by_cases a : ∀ l∈t.Lines,LOk l
  · by_cases b : ∀ m∈t.Marks,FOk m.Frame
    · by_cases c : FOk t.End.Frame
      · by_cases d : t.Lines.length≤2000∧t.Marks.length≤2000
        · have : TOk t:=⟨⟨d.1,d.2,c⟩,a,b⟩
          rw [decide_eq_false (not_not_intro a),decide_eq_false (not_not_intro b),decide_eq_false (not_not_intro c),decide_eq_false (not_not_intro d),if_pos this];rfl
        · have : ¬ TOk t:=fun h=>d ⟨h.1.1,h.1.2.1⟩
          rw [decide_eq_false (not_not_intro a),decide_eq_false (not_not_intro b),decide_eq_false (not_not_intro c),decide_eq_true d,if_neg this];rfl
      · have : ¬ TOk t:=fun h=>c h.1.2.2
        rw [decide_eq_false (not_not_intro a),decide_eq_false (not_not_intro b),decide_eq_true c,if_neg this];rfl
    · have : ¬ TOk t:=fun h=>b h.2.2
      rw [decide_eq_false (not_not_intro a),decide_eq_true b,if_neg this];rfl
  · have : ¬ TOk t:=fun h=>a h.2.1
    rw [decide_eq_true a,if_neg this];rfl
theorem qo2 (t : Qn) (b : t.Lines.length≤1000000) (c : t.Marks.length≤1000000) : ∃ n,q4n t = some (n,if TOk t then 0 else 8):=by
  unfold q4n
  rw [q12k t b c]
  simp only [Option.bind_some]
  by_cases h : TOk t
  · simp only [if_pos h,show ((0 : Int) != 0) = false from rfl,cond_false]
    have:=qj4 t.Lines b (fun n (l : Qx)=>w64 (n + (w64 ((w64 ((max (w64 (l.To.X - l.From.X)) (w64 (0 - (w64 (l.To.X - l.From.X))))) + (max (w64 (l.To.Y - l.From.Y)) (w64 (0 - (w64 (l.To.Y - l.From.Y))))))) + (max (w64 (l.To.Z - l.From.Z)) (w64 (0 - (w64 (l.To.Z - l.From.Z))))))))) (fun x=>x) (q7w t) (fun k a s=>by
      simp only [q7w,q7z,dlt a,cond_true,Qi a,Option.bind_some,w64s a b]) (fun s=>by simp only [q7w,dnl,cond_false]) 0
    rw [this]
    exact ⟨_,rfl⟩
  · simp only [if_neg h]
    exact ⟨0,rfl⟩
theorem qdv (a b : Int) : (a != b) = decide (¬ a = b):=by
  by_cases h : a = b <;> simp [h]
theorem qvg (t : Qn) (q : t.Lines.length≤1000000) (o : t.Marks.length≤1000000) : q92 t = some (if TOk t then 0 else 8):=by
  unfold q92
  rw [qlq]
  simp only [Option.bind_some,qfm (show (8 : Int)≠0 by omega)]
  by_cases c : t.Lines.length≤2000∧t.Marks.length≤2000
  · by_cases b : FOk t.End.Frame
    · have f : decide ((t.Lines.length : Int) > 2000) = false:=decide_eq_false q0
      have d : decide ((t.Marks.length : Int) > 2000) = false:=decide_eq_false q0
      rw [f,d,decide_eq_false (not_not_intro b)]
      simp only [cond_false,Option.bind_some]
      rcases Yy t.Lines (fun l=>!decide (LOk l)) (fun k _=>(8 : Int)) () (q5o t) (fun k a=>by
        have v : w64 (0 + 1) = 1:=by decide
        have n : w64 (1 + 1) = 2:=by decide
        have u : w64 (2 + 1) = 3:=by decide
        simp only [q5o,dlt a,cond_true,Qi a,Option.bind_some,w64s a q,qb4]
        generalize t.Lines[k] = l
        by_cases x : l.From.X = l.To.X <;> by_cases s : l.From.Y = l.To.Y <;> by_cases p : l.From.Z = l.To.Z <;> by_cases z : InV l.From (-1000000) <;> by_cases j : InV l.To (-1000000) <;>
          simp [qdv,x,s,p,z,j,show w64 1 = 1 by decide,show w64 2 = 2 by decide,show w64 3 = 3 by decide,LOk,Ax]) (by simp only [q5o,dnl,cond_false]) with ⟨a1,a2⟩ | ⟨k,a,hc,_,a2⟩
      · rw [a2]
        simp only [Option.bind_some]
        rcases Yy t.Marks (fun m=>!decide (FOk m.Frame)) (fun k _=>(8 : Int)) () (q5p t) (fun k a=>by
          simp only [q5p,dlt a,cond_true,Qi a,Option.bind_some,w64s a o,qlq,qfm (show (8 : Int)≠0 by omega)]
          by_cases y : FOk (t.Marks[k]).Frame <;> simp [y]) (by simp only [q5p,dnl,cond_false]) with ⟨b1,b2⟩ | ⟨k,a,hc,_,b2⟩
        · rw [b2]
          have : TOk t:=⟨⟨c.1,c.2,b⟩,fun l w=>by simpa using a1 l w,fun m r=>by simpa using b1 m r⟩
          rw [if_pos this]
          rfl
        · rw [b2]
          have : ¬ TOk t:=fun h=>by simp [h.2.2 _ (List.getElem_mem a)] at hc
          rw [if_neg this]
          rfl
      · rw [a2]
        have : ¬ TOk t:=fun h=>by simp [h.2.1 _ (List.getElem_mem a)] at hc
        rw [if_neg this]
        rfl
    · have : ¬ TOk t:=fun h=>b h.1.2.2
      have f : decide ((t.Lines.length : Int) > 2000) = false:=decide_eq_false q0
      have d : decide ((t.Marks.length : Int) > 2000) = false:=decide_eq_false q0
      rw [f,d,decide_eq_true b,if_neg this]
      rfl
  · have : ¬ TOk t:=fun h=>c ⟨h.1.1,h.1.2.1⟩
    rw [if_neg this]
    by_cases g : (t.Lines.length : Int) > 2000
    · rw [decide_eq_true g];rfl
    · rw [decide_eq_false g,decide_eq_true (by omega : (t.Marks.length : Int) > 2000)];rfl
noncomputable def badB : List (List qg)→Int
  | []=>0
  | b::r=>if Qr b≠0 then Qr b else badB r
theorem qdq : ∀ {bs : List (List qg)},(∀ b∈bs,Qr b = 0)→badB bs = 0
  | [],_=>rfl
  | b::r,h=>by rw [badB,if_neg (by simp [h b qe])];exact qdq fun c a=>h c (by simp [a])
theorem qhj : ∀ {bs : List (List qg)},badB bs = 0→∀ b∈bs,Qr b = 0
  | [],_,b,hb=>by cases hb
  | a::r,h,b,hb=>by
    rw [badB] at h
    split at h
    · rename_i c;exact absurd h c
    · rename_i c
      rcases List.mem_cons.1 hb with rfl | hb
      · exact Classical.not_not.1 c
      · exact qhj h b hb
theorem qhi : ∀ {bs : List (List qg)} {k : Nat} (b : k < bs.length),Qr bs[k]≠0→(∀ j (c : j < k),Qr (bs[j]'(q0)) = 0)→badB bs = Qr bs[k]
  | a::r,0,b,h,_=>by rw [badB];exact if_pos h
  | a::r,k + 1,b,h,hb=>by
    rw [badB,if_neg (by simpa using hb 0 q0)]
    exact qhi (bs:=r) (by simpa using b) h fun j c=>by simpa using hb (j + 1) q0
theorem qp6 {γ : Type} (bs : List (List qg)) (o : bs.length≤1000000) (a : Int→γ) (f : Int→Option (Int ⊕ (Unit ⊕ γ)))
    (hs : ∀ k (h : k < bs.length),f (k : Int) = some (if Qr bs[k]≠0 then .inr (.inr (a (Qr bs[k]))) else .inl ((k + 1 : Nat) : Int))) (hd : f (bs.length : Int) = some (.inr (.inl ()))) :
    loop f 0 = some (if badB bs = 0 then .inl () else .inr (a (badB bs))):=by
  rcases Yy bs (fun b=>decide (Qr b≠0)) (fun k h=>a (Qr bs[k])) () f (fun k h=>by rw [hs k h];simp) hd with ⟨n,d⟩ | ⟨k,m,g,hb,d⟩
  · rw [d,if_pos (qdq fun b hb=>by simpa using n b hb)]
  · have c : Qr bs[k]≠0:=by simpa using g
    have:=qhi m c fun j l=>by simpa using hb j l
    rw [d,if_neg (by rw [this];exact c),this]
noncomputable def chkS (t : Qn) (bs : List (List qg)) : Int:=
  if ¬ TOk t then 8 else if 20 < bs.length then 4 else if badB bs≠0 then badB bs else if 0 < t.Lines.length∧bs.length = 0 then 6 else if ∃ l∈t.Lines,l.Depth < 0 then 2 else 0
theorem qwr (t : Qn) (bs : List (List qg)) (m : t.Lines.length≤1000000) (p : t.Marks.length≤1000000) (j : bs.length≤1000000) : qat t bs = some (chkS t bs):=by
  obtain ⟨n,r⟩:=qo2 t m p
  unfold qat chkS
  rw [r]
  simp only [Option.bind_some]
  by_cases a : ¬ TOk t
  · rw [if_neg a,if_pos a];rfl
  replace a:=Classical.not_not.1 a
  rw [if_pos a,if_neg (not_not_intro a),show ((0 : Int) != 0) = false from rfl,cond_false]
  by_cases g : 20 < bs.length
  · rw [decide_eq_true (by omega : (bs.length : Int) > 20),cond_true,if_pos g]
  rw [decide_eq_false (by omega : ¬ (bs.length : Int) > 20),cond_false,if_neg g]
  rw [qp6 bs j (fun e=>e) (q7u bs) (fun k d=>by
    simp only [q7u,dlt d,cond_true,Qi d,Option.bind_some,w64s d j,qcz]
    by_cases h : Qr bs[k] = 0 <;> simp [qdv,h]) (by simp only [q7u,dnl,cond_false])]
  by_cases b : badB bs = 0
  · rw [if_pos b,if_neg (not_not_intro b)]
    simp only [Option.bind_some]
    rw [qkf t.Lines m (fun q=>qau q) (fun v=>decide (v.Depth < 0)) (fun v=>rfl)]
    by_cases o : 0 < t.Lines.length
    · by_cases f : bs.length = 0
      · rw [decide_eq_true (by omega : (t.Lines.length : Int) > 0),f,if_pos ⟨o,rfl⟩];rfl
      · have e : ((bs.length : Int) == 0) = false:=by simpa using f
        rw [decide_eq_true (by omega : (t.Lines.length : Int) > 0),e,if_neg (fun h=>f h.2)]
        simp only [cond_true,cond_false,Option.bind_some]
        by_cases c : ∃ l∈t.Lines,l.Depth < 0
        · rw [if_pos c,show (t.Lines.any fun v=>decide (v.Depth < 0)) = true by simpa using c];rfl
        · rw [if_neg c,show (t.Lines.any fun v=>decide (v.Depth < 0)) = false by simpa using c];rfl
    · have e : t.Lines = []:=List.length_eq_zero_iff.1 q0
      rw [decide_eq_false (by omega : ¬ (t.Lines.length : Int) > 0),if_neg (fun h=>o h.1),e]
      simp
  · rw [if_neg b,if_pos b];rfl
end Go.Sh
namespace Go.Sh
open Go Go.Am
noncomputable def barS (l : Qx) (b : List qg) : List qg × Int:=if ∀ x∈b,vB (swp l.From l.To x) then mkB (b.map (swp l.From l.To)) else ([],16)
theorem qmm (v : Qb) : qav v = some (decide (InV v (-1000000))):=qek v (-1000000)
theorem qo6 {a c : Qb} {b : qg} (hb : vB b) : vB (swp a c b)↔InV (swp a c b).Lo (-1000000)∧InV (swp a c b).Hi (-1000000):=by
  unfold vB at hb;unfold vB InV swp;simp only;omega
theorem qnu {l : Qx} {b : List qg} (g : LOk l) (n : b.length≤400) (hb : ∀ x∈b,vB x) : q7t l b = some (barS l b):=by
  obtain ⟨_,m,f⟩:=g
  unfold InV at m f
  have w : ∀ k (a : k < b.length),({X:=w64 (b[k].Lo.X + (min l.From.X l.To.X)),Y:=w64 (b[k].Lo.Y + (min l.From.Y l.To.Y)),Z:=w64 (b[k].Lo.Z + (min l.From.Z l.To.Z))} : Qb) = (swp l.From l.To b[k]).Lo∧({X:=w64 (b[k].Hi.X + (max l.From.X l.To.X)),Y:=w64 (b[k].Hi.Y + (max l.From.Y l.To.Y)),Z:=w64 (b[k].Hi.Z + (max l.From.Z l.To.Z))} : Qb) = (swp l.From l.To b[k]).Hi:=by
    intro k a
    have j:=hb _ (List.getElem_mem a)
    unfold vB at j
    refine ⟨?_,?_⟩ <;> (unfold swp;simp only;rw [Qe q0,Qe q0,Qe q0])
  unfold q7t barS
  rw [quz n (fun x=>vB (swp l.From l.To x)) (swp l.From l.To) ([],16) (q4l b l) (fun k a o h c=>by
      obtain ⟨d,p2⟩:=(qo6 (hb _ (List.getElem_mem a))).1 c
      simp only [q4l,dlt a,cond_true,Qi a,Option.bind_some,(w k a).1,(w k a).2,qmm,decide_eq_true d,decide_eq_true p2,Bool.not_true,cond_false,w64s a q0]
      rw [Ky (by simp;omega)]
      rfl) (fun k a o h c=>by
      rw [qo6 (hb _ (List.getElem_mem a))] at c
      simp only [q4l,dlt a,cond_true,Qi a,Option.bind_some,(w k a).1,(w k a).2,qmm]
      by_cases d : InV (swp l.From l.To b[k]).Lo (-1000000)
      · have p2 : ¬ InV (swp l.From l.To b[k]).Hi (-1000000):=fun p2=>c ⟨d,p2⟩
        rw [decide_eq_true d,decide_eq_false p2];rfl
      · rw [decide_eq_false d];rfl) (fun o=>by simp only [q4l,dnl,cond_false])]
  rw [Option.bind_some]
  by_cases c : ∀ x∈b,vB (swp l.From l.To x)
  · rw [if_pos c,if_pos c]
    simp only [q111,Option.bind_some]
  · rw [if_neg c,if_neg c]
def nL (a c : Qb) : Nat:=(c.X - a.X).natAbs + (c.Y - a.Y).natAbs + (c.Z - a.Z).natAbs
theorem qt2 (a c : Qb) : (nL a c : Int) = max (c.X - a.X) (a.X - c.X) + max (c.Y - a.Y) (a.Y - c.Y) + max (c.Z - a.Z) (a.Z - c.Z):=by
  unfold nL;omega
theorem q12v {p q : Qb} : p = q↔p.X = q.X∧p.Y = q.Y∧p.Z = q.Z:=by
  cases p;cases q;simp
end Go.Sh
namespace Go.Sh
open Go Go.Am
section
variable {α β : Type}
noncomputable def fstE (g : α→β × Int) : List α→Int
  | []=>0
  | a::r=>if (g a).2≠0 then (g a).2 else fstE g r
theorem qes {g : α→β × Int} : ∀ {l : List α},fstE g l = 0↔∀ a∈l,(g a).2 = 0
  | []=>by simp [fstE]
  | a::r=>by
    rw [fstE]
    by_cases h : (g a).2 = 0
    · rw [if_neg (by simp [h]),qes];simp [h]
    · rw [if_pos h];simp [h]
theorem qji {g : α→β × Int} {P : Int→Prop} : ∀ {l : List α},(∀ a∈l,P (g a).2)→P 0→P (fstE g l)
  | [],_,h0=>h0
  | a::r,h,h0=>by
    rw [fstE]
    split
    · exact h a qe
    · exact qji (fun b hb=>h b (by simp [hb])) h0
theorem qrj {src : List α} {g : α→β × Int} {f : Int × List β→Option ((Int × List β) ⊕ (List β ⊕ (List β × Int)))}
    (hs : ∀ k (j : k < src.length) (o : List β),o.length = k→f ((k : Int),o) = some (if (g src[k]).2≠0 then .inr (.inr ([],(g src[k]).2)) else .inl (((k + 1 : Nat) : Int),o ++ [(g src[k]).1])))
    (hd : ∀ o,f ((src.length : Int),o) = some (.inr (.inl o))) : loop f (0,[]) = some (if fstE g src = 0 then .inl (src.map fun a=>(g a).1) else .inr ([],fstE g src)):=by
  have key : ∀ (r pre : List α),src = pre ++ r→loop f ((pre.length : Int),pre.map fun a=>(g a).1) = some (if fstE g r = 0 then .inl (src.map fun a=>(g a).1) else .inr ([],fstE g r)):=by
    intro r
    induction r with
    | nil=>
      intro pre h
      rw [List.append_nil] at h;subst h
      rw [K7 (hd _)];rfl
    | cons a r ih=>
      intro pre h
      have j : pre.length < src.length:=by rw [h];simp
      have l : src[pre.length] = a:=by simp [h]
      have b:=hs pre.length j (pre.map fun a=>(g a).1) qe
      rw [l] at b
      by_cases c : (g a).2 = 0
      · rw [if_neg (by simp [c])] at b
        have d : fstE g (a::r) = fstE g r:=if_neg (by simp [c])
        rw [Kr b,d]
        have:=ih (pre ++ [a]) (by rw [h];simp)
        simpa using this
      · rw [if_pos c] at b
        have d : fstE g (a::r) = (g a).2:=if_pos c
        rw [K7 b,d,if_neg c]
  exact key src [] rfl
end
noncomputable def q1w (bs : List (List qg)) (l : Qx) : List qg:=(idx bs (min l.Depth ((bs.length : Int) - 1))).getD []
noncomputable def barB (bs : List (List qg)) (l : Qx) : List qg × Int:=barS l (q1w bs l)
noncomputable def K5 (t : Qn) (bs : List (List qg)) : List (List qg) × Int:=
  if chkS t bs≠0 then ([],chkS t bs) else if fstE (barB bs) t.Lines = 0 then (t.Lines.map fun l=>(barB bs l).1,0) else ([],fstE (barB bs) t.Lines)
structure Zj (t : Qn) (bs : List (List qg)) : Prop where
  tok : TOk t
  few : bs.length≤20
  brush : ∀ b∈bs,Qr b = 0
  some' : t.Lines≠[]→bs≠[]
  depth : ∀ l∈t.Lines,0≤l.Depth
theorem q88 {t : Qn} {bs : List (List qg)} : chkS t bs = 0↔Zj t bs:=by
  unfold chkS
  constructor
  · intro h
    split at h
    · cases h
    rename_i d
    split at h
    · cases h
    rename_i j
    split at h
    · rename_i b;exact absurd h b
    rename_i b
    split at h
    · cases h
    rename_i c
    split at h
    · cases h
    rename_i f
    refine ⟨Classical.not_not.1 d,q0,qhj (Classical.not_not.1 b),fun a k=>c ⟨List.length_pos_iff.2 a,by simp [k]⟩,fun l a=>?_⟩
    exact Int.not_lt.1 fun g=>f ⟨l,a,g⟩
  · rintro ⟨d,j,b,c,f⟩
    rw [if_neg (not_not_intro d),if_neg q0,if_neg (not_not_intro (qdq b)),if_neg (fun h=>c (List.length_pos_iff.1 h.1) (List.length_eq_zero_iff.1 h.2)),if_neg (fun ⟨l,a,g⟩=>by have:=f l a;omega)]
theorem qhp {t : Qn} {bs : List (List qg)} (h : Zj t bs) {l : Qx} (a : l∈t.Lines) : idx bs (min l.Depth (w64 ((bs.length : Int) - 1))) = some (q1w bs l)∧q1w bs l∈bs:=by
  have f:=h.few
  have c:=h.depth l a
  have d : bs.length≠0:=fun e=>h.some' (List.ne_nil_of_mem a) (List.length_eq_zero_iff.1 e)
  rw [Qe q0]
  have b : (min l.Depth ((bs.length : Int) - 1)).toNat < bs.length:=by omega
  have e:=Zr (xs:=bs) (i:=min l.Depth ((bs.length : Int) - 1)) (k:=(min l.Depth ((bs.length : Int) - 1)).toNat) q0 b
  unfold q1w
  rw [e]
  exact ⟨rfl,List.getElem_mem b⟩
theorem qds (t : Qn) (bs : List (List qg)) (l : t.Lines.length≤1000000) (n : t.Marks.length≤1000000) (p : bs.length≤1000000) : q4f t bs = some (K5 t bs):=by
  unfold q4f K5
  rw [qwr t bs l n p]
  simp only [Option.bind_some]
  by_cases b : chkS t bs = 0
  · have ok:=q88.1 b
    rw [if_neg (not_not_intro b),b,show ((0 : Int) != 0) = false from rfl,cond_false]
    rw [qrj (src:=t.Lines) (g:=barB bs) (f:=q7q t bs) (fun k c o r=>by
      have j:=List.getElem_mem c
      obtain ⟨m,q⟩:=qhp ok j
      obtain ⟨h,d,_⟩:=Ya.1 (ok.brush _ q)
      simp only [q7q,dlt c,cond_true,Qi c,Option.bind_some,m,qnu (ok.tok.2.1 _ j) h d,w64s c l]
      have e : barS t.Lines[k] (q1w bs t.Lines[k]) = barB bs t.Lines[k]:=rfl
      rw [e]
      by_cases a : (barB bs t.Lines[k]).2 = 0
      · rw [if_neg (by simp [a]),a,show ((0 : Int) != 0) = false from rfl,cond_false,Ky (by simp;omega)]
        rfl
      · rw [if_pos a,show ((barB bs t.Lines[k]).2 != 0) = true by simpa using a]
        rfl) (fun o=>by simp only [q7q,dnl,cond_false])]
    by_cases a : fstE (barB bs) t.Lines = 0
    · rw [if_pos a,if_pos a];rfl
    · rw [if_neg a,if_neg a];rfl
  · rw [if_pos b,show (chkS t bs != 0) = true by simpa using b];rfl
structure Small (t : Qn) (bs : List (List qg)) : Prop where
  lines : t.Lines.length≤12
  marks : t.Marks.length≤50
  many : bs.length≤25
  near : ∀ l∈t.Lines,(InV l.From (-2000000)∧InV l.To (-2000000))∧nL l.From l.To≤90
  few : ∀ b∈bs,b.length≤5
end Go.Sh
