/- Rs1 Rs2 Rs3 Qb1 Rs4 Qb2 Pf3 Rs5 Rs6 Rs7 Sw1 Sw2 Sw3 Sw4 -/
import Derived.Test.YtbknppciefodiaaGreatK11
namespace Go.Sh
open Go Go.Am
theorem qcn {α β : Type} {f : α→Option (α ⊕ β)} (st : Nat→α) (n : Nat) (ok : Nat→Prop) (b e : β)
    (step : ∀ k,k < n→(∀ j,j≤k→ok j)→f (st k) = some (.inl (st (k + 1))))
    (bad : ∀ k,k < n→(∀ j,j < k→ok j)→¬ ok k→f (st k) = some (.inr e))
    (done : (∀ j,j < n→ok j)→f (st n) = some (.inr b)) :
    ((∀ j,j < n→ok j)∧loop f (st 0) = some b)∨(∃ j,j < n∧¬ ok j∧loop f (st 0) = some e):=by
  by_cases h : ∀ j,j < n→ok j
  · exact .inl ⟨h,Zu st n b (fun k c=>step k c fun j d=>h j q6) (done h) (Nat.zero_le _)⟩
  · refine .inr ?_
    have l : ∃ k,(k < n∧¬ ok k)∧∀ j,j < k→ok j:=by
      have : ∃ k,k < n∧¬ ok k:=by
        refine Classical.byContradiction fun o=>h fun k c=>?_;exact Classical.byContradiction fun h=>o ⟨k,c,h⟩
      obtain ⟨k,c⟩:=this
      induction k using Nat.strongRecOn with
      | _ k ih=>
        by_cases d : ∃ j,j < k∧(j < n∧¬ ok j)
        · obtain ⟨j,g,l⟩:=d;exact ih j g l
        · exact ⟨k,c,fun j g=>Classical.byContradiction fun h=>d ⟨j,g,q6,h⟩⟩
    obtain ⟨K,⟨m,hb⟩,a⟩:=l;exact ⟨K,m,hb,Zu st K e (fun k c=>step k q6 fun j d=>a j q6) (bad K m a hb) (Nat.zero_le _)⟩
theorem qhb (xs : List Int) (h : xs.length≤1000000) :
    ((U7 xs).bind fun c=>(K4 c.length xs.length).bind fun j=>(q14 c).bind fun b=>(K4 b.2.length c.length).bind fun m=>(q17 b.2.length b.1).bind fun k=>some ((b.2.drop b.1.1).take b.1.2)) = some (Qx xs):=by
  obtain ⟨ys,p,g,o⟩:=qo2 xs h;have f : ys.length = xs.length:=g.length_eq;obtain ⟨w,a,c1,c2,c3,c4⟩:=qj7 o q6;obtain ⟨_,n,_⟩:=Jz h
  have d : a.take w = Qx xs:=by
    refine qo3 (l:=xs) ⟨c4.1,fun x=>?_⟩ n;rw [c4.2 x];exact g.mem_iff
  simp only [qj,p,K4,f,if_true,c1,c2,q17];rw [qr q6];simp only [qj,List.drop_zero,d]
theorem qp6 (l : List qi) (o : List Int) (f : l.length≤400) (g : o.length≤10000) : loop (J6 l) (0,o) = some (o ++ xsOf l):=
  Jt l q6 (fun r=>[r.X0,r.X1]) o (fun o=>o) (J6 l) (fun k a c b=>by
    have d : c.length = o.length + 2 * k:=by
      rw [b,List.length_append];have:=U9 (l.take k);rw [List.length_take,Nat.min_eq_left q6] at this;unfold xsOf at this;omega
    simp only [J6,dlt a,Q1,Qt a,qj,w64s a q6]
    rw [Y7 (by simp;omega)]
    rfl) (fun o=>by simp only [J6,dnl,qy])
theorem qx0 (l : List qi) (j : l.length≤1000000) : q9w l (fun a=>q2y a) = some (decide (¬ ∀ r∈l,vR r)):=by
  have hs : ∀ (k : Nat) (h : k < l.length),q4b l (fun a=>q2y a) (k : Int) = some (if (fun r=>!decide (vR r)) l[k] = true then .inr (.inr (k : Int)) else .inl ((k + 1 : Nat) : Int)):=by
    intro k h;simp only [q4b,dlt h,Q1,Qt h,qj,w64s h j,q2y,qp0];by_cases c : vR l[k] <;> simp [c]
  have hd : q4b l (fun a=>q2y a) (l.length : Int) = some (.inr (.inl ())):=by simp only [q4b,dnl,qy]
  unfold q9w qdo;rcases Z2 l (fun r=>!decide (vR r)) (fun k _=>(k : Int)) () _ hs hd with ⟨d,b⟩ | ⟨k,g,m,_,b⟩
  · rw [b];have : ∀ r∈l,vR r:=fun r f=>by simpa using d r f
    simp [];omega
  · rw [b];have : ¬ ∀ r∈l,vR r:=fun h=>by simp [h _ (Kq g)] at m
    simp only [qj];rw [Q8 this,Q8 q6]
theorem qmq (l : List qi) : q1x l = some (mkR l):=by
  unfold q1x mkR;by_cases b : 400 < l.length
  · rw [Q8 (by omega : (l.length : Int) > 400),Q1,qr b]
  rw [Q7 (by omega : ¬ (l.length : Int) > 400),qy,qp b,qx0 l q6,qj];by_cases a : ∀ r∈l,vR r
  · rw [Q7 (fun h=>h a),qy,ql9 l q6 a,qr a];rfl
  · rw [Q8 a,Q1,qp a]
theorem qwx (p q : List qi) : q9p p q = some (if Yn p≠0 then Yn p else Yn q):=by
  unfold q9p;simp only [qwt,qj];by_cases h : Yn p = 0
  · simp [h]
  · have : (Yn p != 0) = true:=by simpa using h
    simp [h,this]
theorem rj1 : qd7 = J6:=rfl
theorem rj2 : qd8 = J6:=rfl
theorem rj4 : qd9 = Um:=rfl
theorem rj5 : qda = Um:=rfl
theorem qis {p : List qi} (h : Yn p = 0) (x : Int) : Yt (covS p x) = 0∧Good (covS p x):=by
  obtain ⟨d,c,b⟩:=q8l.1 h;have a : Good (covS p x):=⟨qjc c x,(b.cov x).2⟩
  have:=Uq p x;refine ⟨?_,a⟩;unfold Yt;rw [qp q6,qr a]
theorem qlt (kind : Int) {p q : List qi} (hp : Yn p = 0) (a : Yn q = 0) (x : Int) : opS kind (covS p x) (covS q x) = if 400 < (secJ kind p q x).length then ([],4) else (secJ kind p q x,0):=by
  unfold opS;rw [qp (by simp [(qis hp x).1]),qp (by simp [(qis a x).1])];rfl
theorem qx2 (kind : Int) (f : List qk→List qk→Option (List qk × Int)) (hf : ∀ a b,f a b = some (opS kind a b)) (p q : List qi) : q9q p q f = some (jR kind p q):=by
  unfold q9q jR;rw [qwx,qj];by_cases hp : ¬ Yn p = 0
  · rw [qr hp,qr hp];have : (Yn p != 0) = true:=by simpa using hp
    rw [this,Q1]
  replace hp:=Classical.not_not.1 hp;by_cases n : ¬ Yn q = 0
  · rw [qp (by simp [hp]),qp (by simp [hp]),qr n];have : (Yn q != 0) = true:=by simpa using n
    rw [this,Q1]
  replace n:=Classical.not_not.1 n;rw [qp (by simp [hp]),qp (by simp [hp]),qp (by simp [n]),n];obtain ⟨lp,vp,cp⟩:=q8l.1 hp;obtain ⟨lq,vq,cq⟩:=q8l.1 n;have ap:=U9 p;have am:=U9 q;rw [show ((0 : Int) != 0) = false from rfl,qy];simp only [show idx [p,q] 0 = some p from rfl,show idx [p,q] 1 = some q from rfl,qj,rj1,rj2,qp6 p [] lp qe,List.nil_append,qp6 q (xsOf p) lq q6];rw [qhb _ (by simp;omega)];simp only [qj];obtain ⟨_,ah,d⟩:=Jz (l:=xsOf p ++ xsOf q) (by simp;omega);have d : (Qx (xsOf p ++ xsOf q)).length≤1600:=by simp at d;omega
  have o : ∀ x,(secJ kind p q x).length≤(mrgR kind p q).length:=fun x=>qys kind q6 x;have ab : mrgR kind p q = (K0 putR Qy (Yv (Qx (xsOf p ++ xsOf q)) (secJ kind p q))).flat putR:=rfl;rw [ab] at o ⊢;generalize Qx (xsOf p ++ xsOf q) = xs at ah d o ⊢;generalize y : Yv xs (secJ kind p q) = steps at o ⊢;have aq : steps.length = xs.length - 1:=by rw [← y];exact q80 _ _
  have v : ∀ k (m : k < steps.length),steps[k] = (xs[k]'(q6),xs[k + 1]'(q6),secJ kind p q (xs[k]'(q6))):=fun k m=>by subst y;exact q7z m q6
  have ad : ∀ k,k≤steps.length→(∀ j,j < k→∀ t,steps[j]? = some t→t.2.2.length≤400)→((K0 putR Qy (steps.take k)).flat putR).length≤1600 * 400:=fun k m s=>by
    have h1:=qcd putR (s0:=Qy) (M:=400) (steps:=steps.take k) (fun t w=>by
      obtain ⟨i,hi,rfl⟩:=List.getElem_of_mem w;rw [List.length_take] at hi;rw [List.getElem_take]
      exact s i q6 _ (List.getElem?_eq_getElem q6))
    have h2 : (steps.take k).length≤1600:=by rw [List.length_take];omega
    have h3 : (Qy.flat putR : List qi).length = 0:=rfl;have z : (steps.take k).length * 400≤1600 * 400:=Nat.mul_le_mul_right _ h2;omega
  have r : ∀ x,loop (Um p x) (0,[]) = some (covS p x):=fun x=>qg1 p lp x;have u : ∀ x,loop (Um q x) (0,[]) = some (covS q x):=fun x=>qg1 q lq x
  have main:=qcn (f:=q49 xs p q f) (fun k=>(((k + 1 : Nat) : Int),(K0 putR Qy (steps.take k)).sec,((K0 putR Qy (steps.take k)).done.length : Int),(K0 putR Qy (steps.take k)).hi,(K0 putR Qy (steps.take k)).flat putR))
    steps.length (fun j=>∀ t,steps[j]? = some t→t.2.2.length≤400) (.inl ((K0 putR Qy steps).sec,((K0 putR Qy steps).done.length : Int),(K0 putR Qy steps).hi,(K0 putR Qy steps).flat putR)) (.inr ([],4))
    (fun k m s=>by
      have c : k + 1 < xs.length:=by omega
      have ai : k < xs.length:=by omega
      have i1 : idx xs (w64 (((k + 1 : Nat) : Int) - 1)) = some xs[k]:=by rw [Qg q6];exact J4 q6 q6
      have hc:=s k (Nat.le_refl _) _ (List.getElem?_eq_getElem m);have hm:=ad k q6 fun j ar=>s j q6;rw [q3j putR m,v k m] at *;simp only at hc;have hb:=qif (K0 putR Qy (steps.take k)) xs[k] xs[k + 1] (secJ kind p q xs[k]) q6;have ho : f (covS p xs[k]) (covS q xs[k]) = some (secJ kind p q xs[k],0):=by rw [hf,qlt kind hp n,qp q6]
      simp only [q49,dlt c,Q1,i1,Qt c,qj,show idx [p,q] 0 = some p from rfl,show idx [p,q] 1 = some q from rfl,rj4,rj5,r,u,ho,show ((0 : Int) != 0) = false from rfl,qy,hb]
      rw [w64s c q6])
    (fun k m s g=>by
      have c : k + 1 < xs.length:=by omega
      have ai : k < xs.length:=by omega
      have i1 : idx xs (w64 (((k + 1 : Nat) : Int) - 1)) = some xs[k]:=by rw [Qg q6];exact J4 q6 q6
      have hc : 400 < (secJ kind p q xs[k]).length:=by
        refine Nat.lt_of_not_le fun h=>g fun t w=>?_;rw [List.getElem?_eq_getElem m,v k m] at w;cases w;exact h
      have ho : f (covS p xs[k]) (covS q xs[k]) = some ([],4):=by rw [hf,qlt kind hp n,qr hc]
      simp only [q49,dlt c,Q1,i1,Qt c,qj,show idx [p,q] 0 = some p from rfl,show idx [p,q] 1 = some q from rfl,rj4,rj5,r,u,ho,show ((4 : Int) != 0) = true from rfl,Q1])
    (fun _=>by
      have : decide (((steps.length + 1 : Nat) : Int) < (xs.length : Int)) = false:=Q7 q6
      simp only [List.take_length,q49,this,qy])
  have ae : ((((0 + 1 : Nat) : Int),(K0 putR Qy (steps.take 0)).sec,((K0 putR Qy (steps.take 0)).done.length : Int),(K0 putR Qy (steps.take 0)).hi,(K0 putR Qy (steps.take 0)).flat putR) : Int × List qk × Int × Int × List qi) = (1,[],0,0,[]):=rfl;rw [ae] at main;rcases main with ⟨_,h2⟩ | ⟨j,s,g,h2⟩
  · rw [h2];simp only [qj];by_cases z : 400 < ((K0 putR Qy steps).flat putR).length
    · rw [Q8 (by omega : (((K0 putR Qy steps).flat putR).length : Int) > 400),qr z];rfl
    · rw [Q7 (by omega : ¬ (((K0 putR Qy steps).flat putR).length : Int) > 400),qp z];rfl
  · rw [h2];have au : j < xs.length:=by omega
    have h5 : 400 < (secJ kind p q xs[j]).length:=by
      refine Nat.lt_of_not_le fun h=>g fun t w=>?_;rw [List.getElem?_eq_getElem s,v j s] at w;cases w;exact h
    have h6:=o xs[j];have z : 400 < ((K0 putR Qy steps).flat putR).length:=Nat.lt_of_lt_of_le h5 h6;rw [qr z];rfl
theorem qwv (p q : List qi) : q6d p q = some (jR 2 p q):=by
  unfold q6d;rw [qx2 2 _ (fun a b=>q13y a b)];rfl
end Go.Sh
namespace Go.Sh
open Go Go.Am
theorem q12b (v : Q3) : q7u v = some (decide ((-1000000≤v.X∧-1000000≤v.Y∧-1000000≤v.Z)∧v.X≤1000000∧v.Y≤1000000∧v.Z≤1000000)):=by
  unfold q7u;by_cases a : min (min v.X v.Y) v.Z ≥ -1000000
  · by_cases b : max (max v.X v.Y) v.Z≤1000000
    · rw [Q8 a,Q8 b,Q1,qj];congr 1;exact (Q8 q6).symm
    · rw [Q8 a,Q7 b,Q1,qj];congr 1;exact (Q7 q6).symm
  · rw [Q7 a,qy,qj];congr 1;exact (Q7 q6).symm
theorem qnx (b : qg) : q7v b = some (decide (vB b)):=by
  unfold q7v vB;simp only [q12b,qj];by_cases a : b.Lo.X < b.Hi.X
  · by_cases c : b.Lo.Y < b.Hi.Y
    · by_cases d : b.Lo.Z < b.Hi.Z
      · simp only [a,c,d,decide_true,Q1,qj,true_and];by_cases f : (-1000000≤b.Lo.X∧-1000000≤b.Lo.Y∧-1000000≤b.Lo.Z)∧b.Lo.X≤1000000∧b.Lo.Y≤1000000∧b.Lo.Z≤1000000
        · rw [Q8 f];simp only [Q1,qj];congr 1;exact decide_eq_decide.2 q6
        · rw [Q7 f];simp only [qy,qj];congr 1;exact (Q7 q6).symm
      · simp [a,c,d]
    · simp [a,c]
  · simp [a]
theorem qw7 (v : Q3) (n : Int) : Zv v n = some (decide ((n≤v.X∧n≤v.Y∧n≤v.Z)∧v.X≤1000000∧v.Y≤1000000∧v.Z≤1000000)):=by
  unfold Zv
  by_cases a : v.X ≥ n <;> by_cases f : v.Y ≥ n <;> by_cases d : v.Z ≥ n <;> by_cases b : v.X≤1000000 <;> by_cases c : v.Y≤1000000 <;> by_cases g : v.Z≤1000000 <;>
    simp [a,f,d,b,c,g] <;> omega
theorem qwj (b : qg) : q9m b = some (decide (vB b)):=by
  unfold q9m vB;simp only [qw7,qj];by_cases a : (-1000000≤b.Lo.X∧-1000000≤b.Lo.Y∧-1000000≤b.Lo.Z)∧b.Lo.X≤1000000∧b.Lo.Y≤1000000∧b.Lo.Z≤1000000
  · rw [Q8 a];simp only [Q1,qj];by_cases c : (-1000000≤b.Hi.X∧-1000000≤b.Hi.Y∧-1000000≤b.Hi.Z)∧b.Hi.X≤1000000∧b.Hi.Y≤1000000∧b.Hi.Z≤1000000
    · rw [Q8 c];by_cases d : b.Lo.X < b.Hi.X <;> by_cases g : b.Lo.Y < b.Hi.Y <;> by_cases f : b.Lo.Z < b.Hi.Z <;> simp [d,g,f] <;> omega
    · rw [Q7 c];simp only [qy,qj];congr 1;exact (Q7 q6).symm
  · rw [Q7 a];simp only [qy,qj];congr 1;exact (Q7 q6).symm
theorem q12a (l : List qg) (j : l.length≤1000000) : q9u l (fun a=>q38 a) = some (decide (¬ ∀ r∈l,vB r)):=by
  have hs : ∀ (k : Nat) (h : k < l.length),q4a l (fun a=>q38 a) (k : Int) = some (if (fun r=>!decide (vB r)) l[k] = true then .inr (.inr (k : Int)) else .inl ((k + 1 : Nat) : Int)):=by
    intro k h;simp only [q4a,dlt h,Q1,Qt h,qj,w64s h j,q38,qnx];by_cases c : vB l[k] <;> simp [c]
  have hd : q4a l (fun a=>q38 a) (l.length : Int) = some (.inr (.inl ())):=by simp only [q4a,dnl,qy]
  unfold q9u qdl;rcases Z2 l (fun r=>!decide (vB r)) (fun k _=>(k : Int)) () _ hs hd with ⟨d,b⟩ | ⟨k,g,m,_,b⟩
  · rw [b];have : ∀ r∈l,vB r:=fun r f=>by simpa using d r f
    simp [];omega
  · rw [b];have : ¬ ∀ r∈l,vB r:=fun h=>by simp [h _ (Kq g)] at m
    simp only [qj];rw [Q8 this,Q8 q6]
theorem q129 (l : List qg) (j : l.length≤1000000) : Un l (fun a=>q37 a) = some (decide (¬ ∀ r∈l,vB r)):=by
  have hs : ∀ (k : Nat) (h : k < l.length),Jk l (fun a=>q37 a) (k : Int) = some (if (fun r=>!decide (vB r)) l[k] = true then .inr (.inr (k : Int)) else .inl ((k + 1 : Nat) : Int)):=by
    intro k h;simp only [Jk,dlt h,Q1,Qt h,qj,w64s h j,q37,qnx];by_cases c : vB l[k] <;> simp [c]
  have hd : Jk l (fun a=>q37 a) (l.length : Int) = some (.inr (.inl ())):=by simp only [Jk,dnl,qy]
  unfold Un q6s;rcases Z2 l (fun r=>!decide (vB r)) (fun k _=>(k : Int)) () _ hs hd with ⟨d,b⟩ | ⟨k,g,m,_,b⟩
  · rw [b];have : ∀ r∈l,vB r:=fun r f=>by simpa using d r f
    simp [];omega
  · rw [b];have : ¬ ∀ r∈l,vB r:=fun h=>by simp [h _ (Kq g)] at m
    simp only [qj];rw [Q8 this,Q8 q6]
theorem qnu (s : Mg qi qg) (a b : Int) (c : List qi) (hl : (s.flat putB).length + c.length≤1000000) :
    q7r (s.flat putB) s.sec (s.done.length : Int) s.hi a b c = some ((addM putB s a b c).sec,((addM putB s a b c).done.length : Int),(addM putB s a b c).hi,(addM putB s a b c).flat putB):=by
  have y : (s.flat putB).length = s.done.length + s.sec.length:=by simp [Mg.flat]
  have d : s.sec.length≤1000000:=by omega
  unfold q7r;rcases q19 putB s a b c with ⟨m,r,z,n⟩ | ⟨m,n⟩
  · have hb : decide ((c.length : Int) > 0) = true:=Q8 (by have:=List.length_pos_iff.2 m;omega);have w : (s.hi == a) = true:=by simpa using z
    rw [r] at hb;rw [n,r];simp only [hb,Q1,w,qj,qfa _ _ d,decide_true]
    have:=qcb (fun v : qg=>({Lo:=v.Lo,Hi:=({X:=v.Hi.X,Y:=v.Hi.Y,Z:=b} : Q3)} : qg)) s.done (s.sec.map (putB s.lo s.hi)) (by simp;omega) (q7s b) (fun k o f x=>by
      have l : (s.done ++ s.sec.map (putB s.lo s.hi)).length = (s.flat putB).length:=rfl
      simp only [q7s,dlt f,Q1,Qt f,qj,w64s f q6,Int.toNat_natCast]) (fun o=>by simp only [q7s,dnl,qy])
    rw [show s.flat putB = s.done ++ s.sec.map (putB s.lo s.hi) from rfl,this];simp only [qj,Mg.flat,List.map_map];rfl
  · rw [n]
    have u : ((cond (decide ((c.length : Int) > 0)) (some (s.hi == a)) (some false)).bind fun g=>(cond g ((q6p s.sec c).bind fun j=>some j) (some false))) = some false:=by
      by_cases l : c = []
      · subst l;simp
      · have hb : decide ((c.length : Int) > 0) = true:=Q8 (by have:=List.length_pos_iff.2 l;omega);simp only [hb,Q1,qj,qfa _ _ d];by_cases p : s.hi = a
        · have t : s.sec≠c:=fun h=>m ⟨l,h.symm,p⟩;simp [p,t]
        · have : (s.hi == a) = false:=by simpa using p
          simp [this]
    have q:=q93 c (putB a b) (s.flat putB) (fun o=>(c,((s.flat putB).length : Int),b,o)) (q7t c a b (s.flat putB)) (fun k f o x=>by
      simp only [q7t,dlt f,Q1,Qt f,qj,w64s f q6];rw [Y7 (by simp;omega)]
      rfl) (fun o=>by simp only [q7t,dnl,qy])
    rw [← Option.bind_assoc,u];simp only [qj,qy,q];simp [Mg.flat]
theorem qhu (l : List qg) (o : List Int) (f : l.length≤400) (g : o.length≤10000) : loop (q23 l) (0,o) = some (o ++ zsOf l):=
  Jt l q6 (fun r=>[r.Lo.Z,r.Hi.Z]) o (fun o=>o) (q23 l) (fun k a c b=>by
    have d : c.length = o.length + 2 * k:=by
      rw [b,List.length_append];have:=Zw (l.take k);rw [List.length_take,Nat.min_eq_left q6] at this;unfold zsOf at this;omega
    simp only [q23,dlt a,Q1,Qt a,qj,w64s a q6]
    rw [Y7 (by simp;omega)]
    rfl) (fun o=>by simp only [q23,dnl,qy])
theorem q51 (l : List qg) (g : l.length≤400) (x : Int) : loop (q24 l x) (0,[]) = some (atB l x):=by
  have:=Jt l q6 (fun r=>if covB x r = true then [Ji r] else []) [] (fun o=>o) (q24 l x) (fun k b o d=>by
    have f : o.length≤k:=by rw [d,List.nil_append];have:=Ua (l.take k) x;rw [List.length_take,Nat.min_eq_left q6] at this;exact this
    simp only [q24,dlt b,Q1,Qt b,qj,w64s b q6];by_cases a : l[k].Lo.Z≤x
    · by_cases c : x < l[k].Hi.Z
      · simp only [a,c,decide_true,Q1,qj,covB,Bool.and_self,if_true];rw [Y7 (by simp;omega)];rfl
      · simp only [a,c,decide_true,decide_false,Q1,qy,qj,covB,Bool.and_false,if_false,Bool.false_eq_true,List.append_nil]
    · simp only [a,decide_false,qy,qj,covB,Bool.false_and,if_false,Bool.false_eq_true,List.append_nil]) (fun o=>by simp only [q24,dnl,qy])
  rw [List.nil_append] at this;exact this
theorem qni {kind : Int} {p q : List qg} {xs : List Int} (ac : Qx (zsOf p ++ zsOf q) = xs) (h : p.length + q.length≤800) (F : Int × List qi × Int × Int × List qg→Option ((Int × List qi × Int × Int × List qg) ⊕ ((List qi × Int × Int × List qg) ⊕ (List qg × Int))))
    (aa : ∀ (a b : Int) (k : Nat) (s : Mg qi qg),(s.flat putB).length + 400≤1000000→(h1 : k + 1 < xs.length)→a = xs[k]'(q6)→b = xs[k + 1]'h1→(secB kind p q a).length≤400→
      F (((k + 1 : Nat) : Int),s.sec,(s.done.length : Int),s.hi,s.flat putB) = some (.inl (((k + 1 + 1 : Nat) : Int),(addM putB s a b (secB kind p q a)).sec,((addM putB s a b (secB kind p q a)).done.length : Int),(addM putB s a b (secB kind p q a)).hi,(addM putB s a b (secB kind p q a)).flat putB)))
    (z : ∀ (a : Int) (k : Nat) (s : Mg qi qg),(h1 : k + 1 < xs.length)→a = xs[k]'(q6)→400 < (secB kind p q a).length→
      F (((k + 1 : Nat) : Int),s.sec,(s.done.length : Int),s.hi,s.flat putB) = some (.inr (.inr ([],4))))
    (w : ∀ (k : Nat) (s : Mg qi qg),xs.length≤k + 1→F (((k + 1 : Nat) : Int),s.sec,(s.done.length : Int),s.hi,s.flat putB) = some (.inr (.inl (s.sec,(s.done.length : Int),s.hi,s.flat putB)))) :
    (∃ a b c,loop F (1,[],0,0,[]) = some (.inl (a,b,c,mrgB kind p q)))∨(400 < (mrgB kind p q).length∧loop F (1,[],0,0,[]) = some (.inr ([],4))):=by
  have ak:=Zw p;have ai:=Zw q;obtain ⟨_,ag,d⟩:=Jz (l:=zsOf p ++ zsOf q) (by simp;omega);have d : (Qx (zsOf p ++ zsOf q)).length≤1600:=by simp at d;omega
  have m : ∀ x,(secB kind p q x).length≤(mrgB kind p q).length:=fun x=>qnb kind q6 x;have ab : mrgB kind p q = (K0 putB Qy (Yv (Qx (zsOf p ++ zsOf q)) (secB kind p q))).flat putB:=rfl;rw [ab] at m ⊢;rw [ac] at ag d m ⊢;generalize v : Yv xs (secB kind p q) = steps at m ⊢;have al : steps.length = xs.length - 1:=by rw [← v];exact q80 _ _
  have r : ∀ k (g : k < steps.length),steps[k] = (xs[k]'(q6),xs[k + 1]'(q6),secB kind p q (xs[k]'(q6))):=fun k g=>by subst v;exact q7z g q6
  have ae : ∀ k,k≤steps.length→(∀ j,j < k→∀ t,steps[j]? = some t→t.2.2.length≤400)→((K0 putB Qy (steps.take k)).flat putB).length≤1600 * 400:=fun k g n=>by
    have h1:=qcd putB (s0:=Qy) (M:=400) (steps:=steps.take k) (fun t u=>by
      obtain ⟨i,hi,rfl⟩:=List.getElem_of_mem u;rw [List.length_take] at hi;rw [List.getElem_take]
      exact n i q6 _ (List.getElem?_eq_getElem q6))
    have y : (steps.take k).length≤1600:=by rw [List.length_take];omega
    have h3 : (Qy.flat putB : List qg).length = 0:=rfl;have h4 : (steps.take k).length * 400≤1600 * 400:=Nat.mul_le_mul_right _ y;omega
  have main:=qcn (f:=F) (fun k=>(((k + 1 : Nat) : Int),(K0 putB Qy (steps.take k)).sec,((K0 putB Qy (steps.take k)).done.length : Int),(K0 putB Qy (steps.take k)).hi,(K0 putB Qy (steps.take k)).flat putB))
    steps.length (fun j=>∀ t,steps[j]? = some t→t.2.2.length≤400) (.inl ((K0 putB Qy steps).sec,((K0 putB Qy steps).done.length : Int),(K0 putB Qy steps).hi,(K0 putB Qy steps).flat putB)) (.inr ([],4))
    (fun k g n=>by
      have o : k + 1 < xs.length:=by omega
      have hc:=n k (Nat.le_refl _) _ (List.getElem?_eq_getElem g);have hm:=ae k q6 fun j am=>n j q6;rw [q3j putB g,r k g] at *;simp only at hc
      exact aa _ _ k (K0 putB Qy (steps.take k)) q6 o rfl rfl hc)
    (fun k g n hb=>by
      have o : k + 1 < xs.length:=by omega
      have ao : k < xs.length:=by omega
      refine z _ k (K0 putB Qy (steps.take k)) o rfl ?_;refine Nat.lt_of_not_le fun h=>hb fun t u=>?_;rw [List.getElem?_eq_getElem g,r k g] at u
      cases u;exact h)
    (fun _=>by
      rw [List.take_length]
      exact w steps.length _ q6)
  have af : ((((0 + 1 : Nat) : Int),(K0 putB Qy (steps.take 0)).sec,((K0 putB Qy (steps.take 0)).done.length : Int),(K0 putB Qy (steps.take 0)).hi,(K0 putB Qy (steps.take 0)).flat putB) : Int × List qi × Int × Int × List qg) = (1,[],0,0,[]):=rfl;rw [af] at main;rcases main with ⟨_,y⟩ | ⟨j,n,hb,y⟩
  · exact .inl ⟨_,_,_,y⟩
  · refine .inr ⟨?_,y⟩;have an : j < xs.length:=by omega
    have h5 : 400 < (secB kind p q xs[j]).length:=by
      refine Nat.lt_of_not_le fun h=>hb fun t u=>?_;rw [List.getElem?_eq_getElem n,r j n] at u;cases u;exact h
    exact Nat.lt_of_lt_of_le h5 (m xs[j])
theorem qn3 (l : List qg) (m : l.length≤400) (x : ∀ b∈l,vB b) : q7w l = some (if 400 < (mrgB 2 l []).length then ([],4) else (mrgB 2 l [],0)):=by
  unfold q7w;have v:=Zw l;simp only [show idx [l] 0 = some l from rfl,qj,qhu l [] m qe,List.nil_append];rw [qhb _ q6];simp only [qj];have t : zsOf l = zsOf l ++ zsOf []:=by simp [zsOf]
  obtain ⟨_,w,d⟩:=Jz (l:=zsOf l ++ zsOf []) (by rw [← t];omega);have d : (Qx (zsOf l ++ zsOf [])).length≤800:=by rw [← t] at d ⊢;omega
  have g : ∀ z,q1x (atB l z) = some (if 400 < (secB 2 l [] z).length then ([],4) else (secB 2 l [] z,0)):=fun z=>by
    have:=Ua l z;rw [qmq,mkR,qp q6,qr (qoz x z)];rfl
  rw [t]
  have:=qni (kind:=2) (p:=l) (q:=[]) rfl (by simp;omega) (q4m (Qx (zsOf l ++ zsOf [])) l)
    (fun a b k s hs f r hb u=>by
      have h0 : k < (Qx (zsOf l ++ zsOf [])).length:=by omega
      have n : idx (Qx (zsOf l ++ zsOf [])) (w64 (((k + 1 : Nat) : Int) - 1)) = some a:=by rw [Qg q6,r];exact J4 q6 q6
      have y : idx (Qx (zsOf l ++ zsOf [])) ((k + 1 : Nat) : Int) = some b:=by rw [hb];exact Qt f
      have h:=g a;rw [qp q6] at h;simp only [q4m,dlt f,Q1,n,y,qj,show idx [l] 0 = some l from rfl,q51 l m,h,show ((0 : Int) != 0) = false from rfl,qy,qnu s a b (secB 2 l [] a) q6]
      rw [w64s f q6])
    (fun a k s f r u=>by
      have n : idx (Qx (zsOf l ++ zsOf [])) (w64 (((k + 1 : Nat) : Int) - 1)) = some a:=by rw [Qg q6,r];exact J4 q6 q6
      have h:=g a;rw [qr u] at h
      simp only [q4m,dlt f,Q1,n,Qt f,qj,show idx [l] 0 = some l from rfl,q51 l m,h,show ((4 : Int) != 0) = true from rfl])
    (fun k s f=>by
      have : decide (((k + 1 : Nat) : Int) < ((Qx (zsOf l ++ zsOf [])).length : Int)) = false:=Q7 q6
      simp only [q4m,this,qy])
  rcases this with ⟨a,b,c,o⟩ | ⟨j,o⟩
  · rw [o];simp only [qj];by_cases j : 400 < (mrgB 2 l []).length
    · rw [Q8 (by omega : ((mrgB 2 l []).length : Int) > 400),qr j];rfl
    · rw [Q7 (by omega : ¬ ((mrgB 2 l []).length : Int) > 400),qp j];rfl
  · rw [o,qr j];rfl
theorem q123 (l : List qg) : qau l = some (mkB l):=by
  unfold qau mkB;by_cases b : 400 < l.length
  · rw [Q8 (by omega : (l.length : Int) > 400),Q1,qr b]
  rw [Q7 (by omega : ¬ (l.length : Int) > 400),qy,qp b,q12a l q6,qj];by_cases a : ∀ r∈l,vB r
  · rw [Q7 (fun h=>h a),qy,qn3 l q6 a,qr a];rfl
  · rw [Q8 a,Q1,qp a]
theorem qrl (p q : List qg) (a : p.length≤1000000) : qdj p q = some (decide (p = q)):=sameBox p q a
theorem qdt (l : List qg) : q22 l = some (Qz l):=by
  unfold q22 Qz;by_cases d : 400 < l.length
  · rw [Q8 (by omega : (l.length : Int) > 400),Q1,qr d]
  rw [Q7 (by omega : ¬ (l.length : Int) > 400),qy,qp d,q129 l q6,qj];by_cases a : ∀ r∈l,vB r
  · rw [Q7 (fun h=>h a),qy,qn3 l q6 a,qr a,qj];by_cases b : 400 < (mrgB 2 l []).length
    · have c : mrgB 2 l []≠l:=fun h=>by rw [h] at b;exact d b
      rw [qr b,qp c];rfl
    · rw [qp b];simp only [qrl (mrgB 2 l []) l q6];by_cases f : mrgB 2 l [] = l <;> simp [f]
  · rw [Q8 a,Q1,qp a]
end Go.Sh
namespace Go.Sh
open Go Go.Am
theorem sj1 : qdv = q23:=rfl
theorem sj2 : qdw = q23:=rfl
theorem sj4 : qdx = q24:=rfl
theorem sj5 : qdy = q24:=rfl
theorem qew {p : List qg} (h : Qz p = 0) (z : Int) : Yn (atB p z) = 0:=by
  obtain ⟨c,b,a⟩:=Yh.1 h;have:=Ua p z;exact q8l.2 ⟨q6,qoz b z,a.at z⟩
theorem qcs {p : List qg} (h : Qz p = 0) (z : Int) : q1x (atB p z) = some (atB p z,0):=by
  obtain ⟨c,b,a⟩:=q8l.1 (qew h z);rw [qmq,mkR,qp q6,qr b,qlm q6 a,qp q6]
theorem qxi (kind : Int) (g : List qi→List qi→Option (List qi × Int)) (y : ∀ a b,g a b = some (jR kind a b)) (p q : List qg) (hp : Qz p = 0) (j : Qz q = 0) :
    qay g p q = some (if 400 < (mrgB kind p q).length then ([],4) else (mrgB kind p q,0)):=by
  obtain ⟨o,vp,cp⟩:=Yh.1 hp;obtain ⟨n,vq,cq⟩:=Yh.1 j;unfold qay;have ab:=Zw p;have x:=Zw q;simp only [show idx [p,q] 0 = some p from rfl,show idx [p,q] 1 = some q from rfl,qj,sj1,sj2,qhu p [] o qe,List.nil_append,qhu q (zsOf p) n q6];rw [qhb _ (by simp;omega)];simp only [qj];obtain ⟨_,ac,d⟩:=Jz (l:=zsOf p ++ zsOf q) (by simp;omega);have d : (Qx (zsOf p ++ zsOf q)).length≤1600:=by simp at d;omega
  have w : ∀ z,g (atB p z) (atB q z) = some (if 400 < (secB kind p q z).length then ([],4) else (secB kind p q z,0)):=fun z=>by
    rw [y,jR,qp (by simp [qew hp z]),qp (by simp [qew j z])];rfl
  have:=qni (kind:=kind) (p:=p) (q:=q) rfl q6 (q4l (Qx (zsOf p ++ zsOf q)) p q g)
    (fun a b k s hs f u hb v=>by
      have h0 : k < (Qx (zsOf p ++ zsOf q)).length:=by omega
      have r : idx (Qx (zsOf p ++ zsOf q)) (w64 (((k + 1 : Nat) : Int) - 1)) = some a:=by rw [Qg q6,u];exact J4 q6 q6
      have i2 : idx (Qx (zsOf p ++ zsOf q)) ((k + 1 : Nat) : Int) = some b:=by rw [hb];exact Qt f
      have h:=w a;rw [qp q6] at h;simp only [q4l,dlt f,Q1,r,i2,qj,show idx [p,q] 0 = some p from rfl,show idx [p,q] 1 = some q from rfl,sj4,sj5,q51 p o,q51 q n,qcs hp,qcs j,show ((0 : Int) == 0) = true from rfl,h,show ((0 : Int) != 0) = false from rfl,qy,qnu s a b (secB kind p q a) q6]
      rw [w64s f q6])
    (fun a k s f u v=>by
      have r : idx (Qx (zsOf p ++ zsOf q)) (w64 (((k + 1 : Nat) : Int) - 1)) = some a:=by rw [Qg q6,u];exact J4 q6 q6
      have h:=w a;rw [qr v] at h
      simp only [q4l,dlt f,Q1,r,Qt f,qj,show idx [p,q] 0 = some p from rfl,show idx [p,q] 1 = some q from rfl,sj4,sj5,q51 p o,q51 q n,qcs hp,qcs j,show ((0 : Int) == 0) = true from rfl,h,show ((4 : Int) != 0) = true from rfl])
    (fun k s f=>by
      have : decide (((k + 1 : Nat) : Int) < ((Qx (zsOf p ++ zsOf q)).length : Int)) = false:=Q7 q6
      simp only [q4l,this,qy])
  rcases this with ⟨a,b,c,t⟩ | ⟨m,t⟩
  · rw [t];simp only [qj];by_cases m : 400 < (mrgB kind p q).length
    · rw [Q8 (by omega : ((mrgB kind p q).length : Int) > 400),qr m];rfl
    · rw [Q7 (by omega : ¬ ((mrgB kind p q).length : Int) > 400),qp m];rfl
  · rw [t,qr m];rfl
theorem qsv (kind : Int) (g : List qi→List qi→Option (List qi × Int)) (d : ∀ a b,g a b = some (jR kind a b)) (p q : List qg) : qax p q g = some (jB kind p q):=by
  unfold qax jB;simp only [qdt,qj];by_cases hp : ¬ Qz p = 0
  · rw [qr hp];have : (Qz p != 0) = true:=by simpa using hp
    rw [this,Q1]
  replace hp:=Classical.not_not.1 hp;by_cases c : ¬ Qz q = 0
  · rw [qp (by simp [hp]),qr c,hp];have : (Qz q != 0) = true:=by simpa using c
    rw [this];rfl
  replace c:=Classical.not_not.1 c;rw [qp (by simp [hp]),qp (by simp [c]),qxi kind g d p q hp c,hp,c];rfl
theorem q125 (p q : List qg) : qav p q = some (jB 2 p q):=by
  unfold qav;rw [qsv 2 _ (fun a b=>qwv a b)];rfl
def q4y (kind : Int) (p q : List qg) (z : Int) : Prop:=400 < (secB kind p q z).length∨400 < (secB 2 p [] z).length∨400 < (secB 2 q [] z).length
theorem qsy (kind : Int) {p q : List qg} (h : p.length + q.length≤800) (m : ∀ z,(atB p z).length + (atB q z).length≤490) {xs : List Int} (r : xs.length≤1000000) {i : Nat} (hi : i + 1 < xs.length) (hb : q4y kind p q (xs[i]'(q6))) (a : Int) (c : List qi) (o : List qg) :
    q1w xs p q kind (c,a,(i : Int),o) = some (.inr (.inr ([],false))):=by
  have b : i < xs.length:=by omega
  have t : w64 ((i : Int) + 1) = ((i + 1 : Nat) : Int):=w64s b r;have y:=Ua p xs[i];have v:=Ua q xs[i];have w:=m xs[i];have n : U6 p xs[i] = some (atB p xs[i]):=qd2 p q6 _;have aq : U6 q xs[i] = some (atB q xs[i]):=qd2 q q6 _;have l : Jh kind (atB p xs[i]) (atB q xs[i]) = some (secB kind p q xs[i]):=q5w kind q6;have k : Jh 2 (atB p xs[i]) [] = some (secB 2 p [] xs[i]):=q5w 2 (by simp;omega);have s : Jh 2 (atB q xs[i]) [] = some (secB 2 q [] xs[i]):=q5w 2 (by simp;omega);unfold q1w;simp only [t,dlt hi,Q1,Qt b,n,aq,l,k,s,qj];by_cases g : 400 < (secB kind p q xs[i]).length
  · have d : decide (((secB kind p q xs[i]).length : Int) > 400) = true:=Q8 q6;simp only [d,Q1,qj]
  have d : decide (((secB kind p q xs[i]).length : Int) > 400) = false:=Q7 q6;by_cases j : 400 < (secB 2 p [] xs[i]).length
  · have f : decide (((secB 2 p [] xs[i]).length : Int) > 400) = true:=Q8 q6;simp only [d,f,Q1,qy,qj]
  have f : decide (((secB 2 p [] xs[i]).length : Int) > 400) = false:=Q7 q6;have x : 400 < (secB 2 q [] xs[i]).length:=by rcases hb with h | h | h <;> first | exact absurd h g | exact absurd h j | exact h
  have u : decide (((secB 2 q [] xs[i]).length : Int) > 400) = true:=Q8 q6;simp only [d,f,u,Q1,qy,qj]
theorem qwi (kind : Int) {p q : List qg} (h : p.length + q.length≤800) (hz : ∀ z,(atB p z).length + (atB q z).length≤490) :
    q46 kind p q = some (mrgB kind p q,decide (((mrgB kind p q).length : Int)≤400))∨(q46 kind p q = some ([],false)∧∃ z,q4y kind p q z):=by
  unfold q46;rw [qwb q6];simp only [qj];have af:=Zw p;have ac:=Zw q;obtain ⟨_,ah,r⟩:=Jz (l:=zsOf p ++ zsOf q) (by simp;omega);have x : (Qx (zsOf p ++ zsOf q)).length≤1600:=by simp at r;omega
  unfold mrgB;generalize Qx (zsOf p ++ zsOf q) = xs at x ⊢;generalize n : Yv xs (secB kind p q) = steps;have ag : steps.length = xs.length - 1:=by rw [← n];exact q80 _ _
  have a : ∀ k (b : k < steps.length),steps[k] = (xs[k]'(q6),xs[k + 1]'(q6),secB kind p q (xs[k]'(q6))):=fun k b=>by subst n;exact q7z b q6
  have w : ∀ k,k≤steps.length→(∀ j,j < k→∀ t,steps[j]? = some t→¬ q4y kind p q t.1)→((K0 putB Qy (steps.take k)).flat putB).length≤1600 * 400:=fun k b d=>by
    have h1:=qcd putB (s0:=Qy) (M:=400) (steps:=steps.take k) (fun t g=>by
      obtain ⟨i,hi,rfl⟩:=List.getElem_of_mem g;rw [List.length_take] at hi;rw [List.getElem_take];have:=d i q6 _ (List.getElem?_eq_getElem q6);rw [a i q6] at this ⊢
      exact Nat.le_of_not_lt fun h=>this (.inl h))
    have o : (steps.take k).length≤1600:=by rw [List.length_take];omega
    have h3 : (Qy.flat putB : List qg).length = 0:=rfl;have h4 : (steps.take k).length * 400≤1600 * 400:=Nat.mul_le_mul_right _ o;omega
  have main:=qcn (f:=q1w xs p q kind) (fun k=>((K0 putB Qy (steps.take k)).sec,((K0 putB Qy (steps.take k)).done.length : Int),(k : Int),(K0 putB Qy (steps.take k)).flat putB))
    steps.length (fun j=>∀ t,steps[j]? = some t→¬ q4y kind p q t.1) (.inl ((K0 putB Qy steps).flat putB)) (.inr ([],false)) (fun k b d=>by
      have c : k + 1 < xs.length:=by omega
      have u:=d k (Nat.le_refl _) _ (List.getElem?_eq_getElem b);have hm:=w k q6 fun j ai=>d j q6;rw [a k b] at u
      have s : qhw kind p q xs[k]:=by
        refine ⟨hz _,?_,?_,?_⟩
        · exact Nat.le_of_not_lt fun h=>u (.inl h)
        · exact Nat.le_of_not_lt fun h=>u (.inr (.inl h))
        · exact Nat.le_of_not_lt fun h=>u (.inr (.inr h))
      have:=qsz kind q6 (xs:=xs) q6 c s (K0 putB Qy (steps.take k)) q6 (fun h0=>by subst h0;rfl) (fun aa=>by
        obtain ⟨m,rfl⟩ : ∃ m,k = m + 1:=⟨k - 1,q6⟩
        rw [q3j putB q6,qhy,a m q6])
      rw [this,q3j putB b,a k b])
    (fun k b _ hb=>by
      have c : k + 1 < xs.length:=by omega
      have ak : k < xs.length:=by omega
      refine qsy kind h hz q6 c ?_ _ _ _;refine Classical.byContradiction fun v=>hb fun t g=>?_;rw [List.getElem?_eq_getElem b,a k b] at g
      cases g;exact v)
    (fun _=>by
      rw [List.take_length]
      have hb : decide (w64 ((steps.length : Int) + 1) < (xs.length : Int)) = false:=by
        rw [Qg q6];exact Q7 q6
      unfold q1w
      simp only [hb,qy])
  have y : (((K0 putB Qy (steps.take 0)).sec,((K0 putB Qy (steps.take 0)).done.length : Int),((0 : Nat) : Int),(K0 putB Qy (steps.take 0)).flat putB) : List qi × Int × Int × List qg) = ([],0,0,[]):=rfl;rw [y] at main;rcases main with ⟨h1,o⟩ | ⟨j,d,hb,o⟩
  · exact .inl (by rw [o];rfl)
  · refine .inr ⟨by rw [o];rfl,?_⟩;have aj : j < xs.length:=by omega
    refine ⟨xs[j],?_⟩;refine Classical.byContradiction fun v=>hb fun t g=>?_;rw [List.getElem?_eq_getElem d,a j d] at g;cases g;exact v
theorem qpn {p q : List qg} (h : p.length + q.length≤490) (z : Int) : (atB p z).length + (atB q z).length≤490:=by
  have b:=Ua p z;have a:=Ua q z;omega
theorem qyq (kind : Int) (z : Int) : secB kind [] [] z = []:=qgd kind
theorem qwg (kind : Int) {p q : List qg} (h : p.length + q.length≤800) (b : ∀ z,(atB p z).length + (atB q z).length≤490) (hs : ∀ z,q4y kind p q z→400 < (mrgB kind p q).length) :
    ∃ o,q46 kind p q = some (o,decide ((mrgB kind p q).length≤400))∧((mrgB kind p q).length≤400→o = mrgB kind p q):=by
  rcases qwi kind h b with a | ⟨a,z,b⟩
  · refine ⟨_,?_,fun _=>rfl⟩;rw [a];have : decide (((mrgB kind p q).length : Int)≤400) = decide ((mrgB kind p q).length≤400):=decide_eq_decide.2 q6;rw [this]
  · have:=hs z b;refine ⟨[],?_,fun h=>absurd h q6⟩;rw [a,Q7 q6]
theorem qyv {l : List qg} (h : l.length≤100000) : ∀ z,q4y 2 l [] z→400 < (mrgB 2 l []).length:=by
  intro z a;have b:=qnb 2 (p:=l) (q:=[]) (by simpa using h) z;rcases a with a | a | a
  · omega
  · omega
  · rw [qyq] at a;simp at a
theorem qwl (l : List qg) (n : l.length≤1000000) {γ : Type} (f : Int→Option (Int ⊕ (Unit ⊕ γ))) (e : γ) (c : ∀ k (h : k < l.length),f (k : Int) = some (if (fun r=>!decide (vB r)) l[k] = true then .inr (.inr e) else .inl ((k + 1 : Nat) : Int))) (hd : f (l.length : Int) = some (.inr (.inl ()))) :
    loop f 0 = some (if ∀ b∈l,vB b then .inl () else .inr e):=by
  rcases Z2 l (fun r=>!decide (vB r)) (fun k _=>e) () f c hd with ⟨d,a⟩ | ⟨k,j,m,_,a⟩
  · have : ∀ r∈l,vB r:=fun r g=>by simpa using d r g
    rw [qr this];exact a
  · have : ¬ ∀ r∈l,vB r:=fun h=>by simp [h _ (Kq j)] at m
    rw [qp this];exact a
theorem qmk (l : List qg) : q62 l = some (Qz l):=by
  unfold q62 Qz;by_cases b : 400 < l.length
  · rw [Q8 (by omega : (l.length : Int) > 400),Q1,qr b]
  rw [Q7 (by omega : ¬ (l.length : Int) > 400),qy,qp b]
  rw [qwl l q6 (q63 l) 8 (fun k d=>by
    simp only [q63,dlt d,Q1,Qt d,qj,qwj,w64s d q6]
    by_cases a : vB l[k] <;> simp [a]) (by simp only [q63,dnl,qy])]
  by_cases a : ∀ r∈l,vB r
  · rw [qr a,qr a];obtain ⟨o,j,m⟩:=qwg 2 (p:=l) (q:=[]) (by simp;omega) (qpn (by simp;omega)) (qyv q6);simp only [qj,j];by_cases f : 400 < (mrgB 2 l []).length
    · have c : mrgB 2 l []≠l:=fun h=>by rw [h] at f;exact b f
      rw [Q7 q6,qp c];rfl
    · rw [Q8 q6,m q6,sameBox _ l q6];by_cases g : mrgB 2 l [] = l <;> simp [g]
  · rw [qp a,qp a];rfl
end Go.Sh
namespace Go.Sh
open Go Go.Am
def sumN : Nat→(Int→Int)→Int
  | 0,_=>0
  | n + 1,f=>sumN n f + f n
theorem qoe {f g : Int→Int} : ∀ {n : Nat},sumN n (fun x=>f x + g x) = sumN n f + sumN n g
  | 0=>rfl
  | n + 1=>by rw [sumN,sumN,sumN,qoe (n:=n)];omega
theorem qoh {c : Int} {f : Int→Int} : ∀ {n : Nat},sumN n (fun x=>c * f x) = c * sumN n f
  | 0=>by simp [sumN]
  | n + 1=>by rw [sumN,sumN,qoh (n:=n),Int.mul_add]
theorem qoi : ∀ {n : Nat},sumN n (fun _=>0) = 0
  | 0=>rfl
  | n + 1=>by rw [sumN,qoi (n:=n)];rfl
theorem qog {f g : Int→Int} : ∀ {n : Nat},(∀ k : Nat,k < n→f k≤g k)→sumN n f≤sumN n g
  | 0,_=>Int.le_refl _
  | n + 1,h=>by have:=qog (n:=n) fun k a=>h k q6;have:=h n q6;rw [sumN,sumN];omega
noncomputable def ind (p : Prop) : Int:=by classical exact if p then 1 else 0
theorem qck {p : Prop} (h : p) : ind p = 1:=by unfold ind;simp [h]
theorem Uh {p : Prop} (h : ¬ p) : ind p = 0:=by unfold ind;simp [h]
theorem q5b {p q : Prop} (h : p↔q) : ind p = ind q:=by rw [propext h]
theorem qkr {p q : Prop} : ind (p∧q) = ind p * ind q:=by
  by_cases hp : p <;> by_cases a : q
  · rw [qck ⟨hp,a⟩,qck hp,qck a];rfl
  · rw [Uh (fun h=>a h.2),Uh a];simp
  · rw [Uh (fun h=>hp h.1),Uh hp];simp
  · rw [Uh (fun h=>hp h.1),Uh hp];simp
theorem qsn {p q : Prop} : ind (p∨q) = ind p + ind q - ind (p∧q):=by
  by_cases hp : p <;> by_cases a : q <;> simp [ind,hp,a]
theorem qks {p : Prop} : 0≤ind p∧ind p≤1:=by by_cases hp : p <;> simp [ind,hp]
theorem qof (a b : Int) : ∀ {n : Nat},sumN n (fun x=>ind (a≤x∧x < b)) = max 0 (min b n - max a 0)
  | 0=>by rw [sumN];omega
  | n + 1=>by
    rw [sumN,qof a b (n:=n)]
    by_cases h : a≤(n : Int)∧(n : Int) < b
    · rw [qck h];omega
    · rw [Uh h];omega
def sumZ (N : Nat) (f : Int→Int) : Int:=sumN (2 * N) fun k=>f (k - N)
theorem q138 {N : Nat} {f g : Int→Int} : sumZ N (fun x=>f x + g x) = sumZ N f + sumZ N g:=qoe
theorem qba {N : Nat} {c : Int} {f : Int→Int} : sumZ N (fun x=>c * f x) = c * sumZ N f:=qoh
theorem qoj {N : Nat} : sumZ N (fun _=>0) = 0:=qoi
theorem qe2 {N : Nat} {f g : Int→Int} (h : ∀ x : Int,-(N : Int)≤x→x < N→f x≤g x) : sumZ N f≤sumZ N g:=
  qog fun k a=>h _ q6 q6
theorem qhh {N : Nat} {a b : Int} (c : -N≤a) (f : a≤b) (d : b≤N) : sumZ N (fun x=>ind (a≤x∧x < b)) = b - a:=by
  unfold sumZ
  have : (fun k : Int=>ind (a≤k - N∧k - N < b)) = fun k=>ind (a + N≤k∧k < b + N):=by
    funext k;exact q5b ⟨fun h=>q6,fun h=>q6⟩
  simp only [this];rw [qof];omega
theorem qhi {N : Nat} {f : Int→Int} (h : ∀ x : Int,-(N : Int)≤x→x < N→0≤f x) : 0≤sumZ N f:=by
  rw [← qoj (N:=N)];exact qe2 h
theorem qhg {N : Nat} {c : Int} : sumZ N (fun _=>c) = 2 * N * c:=by
  have : ∀ n : Nat,sumN n (fun _=>c) = n * c:=by
    intro n
    induction n with
    | zero=>simp [sumN]
    | succ n ih=>rw [sumN,ih,Int.natCast_succ,Int.add_mul,Int.one_mul]
  unfold sumZ;rw [this];simp
noncomputable def cnt3 (N : Nat) (P : Int→Int→Int→Prop) : Int:=sumZ N fun x=>sumZ N fun y=>sumZ N fun z=>ind (P x y z)
def sumL {α : Type} (f : α→Int) : List α→Int
  | []=>0
  | a::r=>f a + sumL f r
theorem qod {α : Type} (f : α→Int) (a b : List α) : sumL f (a ++ b) = sumL f a + sumL f b:=by
  induction a with
  | nil=>simp [sumL]
  | cons x a ih=>rw [List.cons_append,sumL,sumL,ih];omega
theorem q137 {α : Type} {f g : α→Int} {l : List α} (h : ∀ a∈l,f a = g a) : sumL f l = sumL g l:=by
  induction l with
  | nil=>rfl
  | cons a l ih=>rw [sumL,sumL,h a qe,ih fun b hb=>h b (by simp [hb])]
theorem qhf {α : Type} {N : Nat} (f : α→Int→Int) (l : List α) : sumL (fun a=>sumZ N (f a)) l = sumZ N fun x=>sumL (fun a=>f a x) l:=by
  induction l with
  | nil=>exact qoj.symm
  | cons a l ih=>
    have : (fun x=>sumL (fun a=>f a x) (a::l)) = fun x=>f a x + (fun x=>sumL (fun a=>f a x) l) x:=rfl;rw [sumL,ih,this,q138]
def inB (b : qg) (x y z : Int) : Prop:=(b.Lo.X≤x∧x < b.Hi.X)∧(b.Lo.Y≤y∧y < b.Hi.Y)∧(b.Lo.Z≤z∧z < b.Hi.Z)
def inR (r : qi) (x y : Int) : Prop:=(r.X0≤x∧x < r.X1)∧(r.Y0≤y∧y < r.Y1)
def inS (t : qk) (x : Int) : Prop:=t.Lo≤x∧x < t.Hi
def volB (b : qg) : Int:=(b.Hi.X - b.Lo.X) * (b.Hi.Y - b.Lo.Y) * (b.Hi.Z - b.Lo.Z)
theorem q142 {N : Nat} {b : qg} (h : (b.Lo.X≤b.Hi.X∧b.Lo.Y≤b.Hi.Y∧b.Lo.Z≤b.Hi.Z)∧(-(N : Int)≤b.Lo.X∧-(N : Int)≤b.Lo.Y∧-(N : Int)≤b.Lo.Z)∧b.Hi.X≤N∧b.Hi.Y≤N∧b.Hi.Z≤N) :
    volB b = cnt3 N (inB b):=by
  obtain ⟨⟨a,k,j⟩,⟨c,d,n⟩,m,f,g⟩:=h;unfold cnt3
  have e : ∀ x y,(sumZ N fun z=>ind (inB b x y z)) = ind (b.Lo.X≤x∧x < b.Hi.X) * (ind (b.Lo.Y≤y∧y < b.Hi.Y) * (b.Hi.Z - b.Lo.Z)):=fun x y=>by
    have : (fun z=>ind (inB b x y z)) = fun z=>ind (b.Lo.X≤x∧x < b.Hi.X) * (ind (b.Lo.Y≤y∧y < b.Hi.Y) * ind (b.Lo.Z≤z∧z < b.Hi.Z)):=by
      funext z;unfold inB;rw [qkr (p:=_∧_) (q:=(_∧_)∧_),qkr (p:=_∧_) (q:=_∧_)]
    rw [this,qba,qba,qhh n j g]
  have l : ∀ x,(sumZ N fun y=>sumZ N fun z=>ind (inB b x y z)) = ind (b.Lo.X≤x∧x < b.Hi.X) * ((b.Hi.Y - b.Lo.Y) * (b.Hi.Z - b.Lo.Z)):=fun x=>by
    have : (fun y=>sumZ N fun z=>ind (inB b x y z)) = fun y=>ind (b.Lo.X≤x∧x < b.Hi.X) * ((b.Hi.Z - b.Lo.Z) * ind (b.Lo.Y≤y∧y < b.Hi.Y)):=by
      funext y;rw [e,Int.mul_comm (b.Hi.Z - b.Lo.Z)]
    rw [this,qba,qba,qhh d k f,Int.mul_comm (b.Hi.Z - b.Lo.Z)]
  have : (fun x=>sumZ N fun y=>sumZ N fun z=>ind (inB b x y z)) = fun x=>((b.Hi.Y - b.Lo.Y) * (b.Hi.Z - b.Lo.Z)) * ind (b.Lo.X≤x∧x < b.Hi.X):=by
    funext x;rw [l,Int.mul_comm]
  rw [this,qba,qhh c a m,volB];simp only [Int.mul_assoc,Int.mul_left_comm,Int.mul_comm]
noncomputable def cntS (s : List qk) (y : Int) : Int:=sumL (fun t=>ind (inS t y)) s
noncomputable def cntR (l : List qi) (x y : Int) : Int:=sumL (fun t=>ind (inR t x y)) l
noncomputable def cntB (l : List qg) (x y z : Int) : Int:=sumL (fun t=>ind (inB t x y z)) l
theorem qj0 : ∀ {s : List qk},Can s→∀ y,cntS s y = ind (has s y)
  | [],_,y=>by rw [Uh (q1n y)];rfl
  | a::s,h,y=>by
    have b:=qj0 h.tail y
    unfold cntS at b ⊢
    rw [sumL,b,q5b (Zt (a:=a) (s:=s) (x:=y)),qsn]
    have : ¬ ((a.Lo≤y∧y < a.Hi)∧has s y):=fun ⟨c,h2⟩=>by have:=h.tail_gt h2;omega
    rw [Uh this];unfold inS;omega
theorem qr0 (l : List qi) (x y : Int) : cntR l x y = cntS (covS l x) y:=by
  unfold cntR cntS
  induction l with
  | nil=>rfl
  | cons r l ih=>
    have e : covS (r::l) x = (if covR x r = true then [ysp r] else []) ++ covS l x:=rfl;rw [sumL,ih,e,qod];congr 1;by_cases a : covR x r = true
    · rw [qr a];have:=q54.1 a;simp only [sumL,Int.add_zero];exact q5b ⟨fun h=>h.2,fun h=>⟨this,h⟩⟩
    · rw [qp a];rw [q54] at a;exact Uh fun h=>a h.1
theorem qqz (l : List qg) (x y z : Int) : cntB l x y z = cntR (atB l z) x y:=by
  unfold cntB cntR
  induction l with
  | nil=>rfl
  | cons r l ih=>
    have e : atB (r::l) z = (if covB z r = true then [Ji r] else []) ++ atB l z:=rfl;rw [sumL,ih,e,qod];congr 1;by_cases a : covB z r = true
    · rw [qr a];have:=q2f.1 a;simp only [sumL,Int.add_zero];exact q5b ⟨fun h=>⟨h.1,h.2.1⟩,fun h=>⟨h.1,h.2,this⟩⟩
    · rw [qp a];rw [q2f] at a;exact Uh fun h=>a h.2.2
theorem CanR.cnt {l : List qi} (h : CanR l) (x y : Int) : cntR l x y = ind (hasR l x y):=by
  rw [qr0,qj0 (h.cov x),q5b q11]
theorem CanB.cnt {l : List qg} (h : CanB l) (x y z : Int) : cntB l x y z = ind (hasB l x y z):=by
  rw [qqz,(h.at z).cnt,q5b q3m]
def volL (l : List qg) : Int:=sumL volB l
theorem q145 {N : Nat} {l : List qg} (a : ∀ x y z,cntB l x y z = ind (hasB l x y z)) (h : ∀ b∈l,(b.Lo.X≤b.Hi.X∧b.Lo.Y≤b.Hi.Y∧b.Lo.Z≤b.Hi.Z)∧(-(N : Int)≤b.Lo.X∧-(N : Int)≤b.Lo.Y∧-(N : Int)≤b.Lo.Z)∧b.Hi.X≤N∧b.Hi.Y≤N∧b.Hi.Z≤N) :
    volL l = cnt3 N (hasB l):=by
  unfold volL;rw [q137 fun b hb=>q142 (h b hb)];unfold cnt3;rw [qhf];congr 1;funext x;rw [qhf];congr 1;funext y;rw [qhf];congr 1;funext z;exact a x y z
theorem q144 {l : List qg} (a : CanB l) (h : ∀ b∈l,vB b) : volL l = cnt3 1000000 (hasB l):=
  q145 a.cnt fun b hb=>by have:=h b hb;unfold vB at this;omega
end Go.Sh
namespace Go.Sh
open Go Go.Am
theorem qcc {α β γ : Type} (l : List α) (b : l.length≤1000000) (g : γ→α→γ) (fin : γ→β) (f : γ × Int→Option ((γ × Int) ⊕ β))
    (hs : ∀ k (h : k < l.length) (s : γ),f (s,(k : Int)) = some (.inl (g s l[k],((k + 1 : Nat) : Int)))) (hd : ∀ s,f (s,(l.length : Int)) = some (.inr (fin s))) (s : γ) :
    loop f (s,0) = some (fin (l.foldl g s)):=by
  have key:=Zu (f:=f) (fun k=>((l.take k).foldl g s,(k : Int))) l.length (fin (l.foldl g s)) (fun k a=>by
    rw [hs k a,List.take_succ_eq_append_getElem a,List.foldl_append];rfl) (by rw [List.take_length,hd]) (Nat.zero_le _)
  exact key
theorem qho (x : Int) : w64 x = if 9223372036854775808≤x % 18446744073709551616 then x % 18446744073709551616 - 18446744073709551616 else x % 18446744073709551616:=by
  unfold w64 IntKind.wrap;simp [IntKind.bits,IntKind.signed]
theorem q149 (x y : Int) (h : x % 18446744073709551616 = y % 18446744073709551616) : w64 x = w64 y:=by rw [qho,qho,h]
theorem q14a (x : Int) : w64 x % 18446744073709551616 = x % 18446744073709551616:=by rw [qho];split <;> omega
theorem q148 (a b : Int) : w64 (w64 a + b) = w64 (a + b):=q149 _ _ (by have:=q14a a;omega)
theorem qvv {x y z : Int} (c : 0≤x∧x≤2000000) (a : 0≤y∧y≤2000000) (b : 0≤z∧z≤2000000) : (0≤x * y∧x * y≤4000000000000)∧0≤x * y * z∧x * y * z≤8000000000000000000:=by
  have d : 0≤x * y:=Int.mul_nonneg c.1 a.1;have h : x * y≤2000000 * 2000000:=Int.mul_le_mul c.2 a.2 a.1 q6;have g : 0≤x * y * z:=Int.mul_nonneg d b.1;have f : x * y * z≤4000000000000 * 2000000:=Int.mul_le_mul q6 b.2 b.1 q6;omega
theorem q147 {b : qg} (h : vB b) : w64 ((w64 ((w64 (b.Hi.X - b.Lo.X)) * (w64 (b.Hi.Y - b.Lo.Y)))) * (w64 (b.Hi.Z - b.Lo.Z))) = volB b:=by
  unfold vB at h;rw [Qg (x:=b.Hi.X - b.Lo.X) q6,Qg (x:=b.Hi.Y - b.Lo.Y) q6,Qg (x:=b.Hi.Z - b.Lo.Z) q6];have:=qvv (x:=b.Hi.X - b.Lo.X) (y:=b.Hi.Y - b.Lo.Y) (z:=b.Hi.Z - b.Lo.Z) q6 q6 q6;rw [Qg (x:=(b.Hi.X - b.Lo.X) * (b.Hi.Y - b.Lo.Y)) q6,Qg q6];rfl
theorem qk2 {α : Type} (f : α→Int) : ∀ (l : List α) (n m : Int),n = w64 m→l.foldl (fun n b=>w64 (n + f b)) n = w64 (m + sumL f l)
  | [],n,m,h=>by simp [sumL,h]
  | b::l,n,m,h=>by
    rw [List.foldl_cons,qk2 f l _ (m + f b) (by rw [h,q148]),sumL,Int.add_assoc]
theorem qk1 {α γ : Type} {f g : γ→α→γ} : ∀ {l : List α} {s : γ},(∀ b∈l,∀ s,f s b = g s b)→l.foldl f s = l.foldl g s
  | [],_,_=>rfl
  | b::l,s,h=>by rw [List.foldl_cons,List.foldl_cons,h b qe,qk1 fun c a=>h c (by simp [a])]
theorem qqy (N : Nat) (P : Int→Int→Int→Prop) : 0≤cnt3 N P∧cnt3 N P≤2 * N * (2 * N * (2 * N * 1)):=by
  constructor
  · exact qhi fun x _ _=>qhi fun y _ _=>qhi fun z _ _=>qks.1
  · rw [← qhg (N:=N) (c:=1),← qhg,← qhg];exact qe2 fun x _ _=>qe2 fun y _ _=>qe2 fun z _ _=>qks.2
theorem q143 {l : List qg} (h : Qz l = 0) : 0≤volL l∧volL l≤8000000000000000000:=by
  obtain ⟨c,b,a⟩:=Yh.1 h;rw [q144 a b];have:=qqy 1000000 (hasB l);omega
noncomputable def volume (l : List qg) : Int × Int:=if Qz l≠0 then (0,Qz l) else (volL l,0)
theorem q146 {l : List qg} (h : Qz l = 0) : l.foldl (fun n b=>w64 (n + w64 ((w64 ((w64 (b.Hi.X - b.Lo.X)) * (w64 (b.Hi.Y - b.Lo.Y)))) * (w64 (b.Hi.Z - b.Lo.Z))))) 0 = volL l:=by
  obtain ⟨c,a,d⟩:=Yh.1 h;rw [qk1 (g:=fun n b=>w64 (n + volB b)) fun b hb s=>by rw [q147 (a b hb)]];rw [qk2 volB l 0 0 (by rw [Qg q6])];have:=q143 h;rw [Qg (by unfold volL at this;omega),Int.zero_add];rfl
theorem q127 (l : List qg) : qaw l = some (volume l):=by
  unfold qaw volume;rw [qdt,qj];by_cases h : Qz l = 0
  · rw [qp (by simp [h]),h,show ((0 : Int) != 0) = false from rfl,qy];have c:=(Yh.1 h).1
    rw [qcc l q6 (fun n b=>w64 (n + w64 ((w64 ((w64 (b.Hi.X - b.Lo.X)) * (w64 (b.Hi.Y - b.Lo.Y)))) * (w64 (b.Hi.Z - b.Lo.Z))))) (fun n=>n) (q7q l) (fun k a s=>by
      simp only [q7q,dlt a,Q1,Qt a,qj,qdu,w64s a q6]) (fun s=>by simp only [q7q,dnl,qy]) 0,q146 h]
    rfl
  · have : (Qz l != 0) = true:=by simpa using h
    rw [qr h,this,Q1]
theorem qfn {b : qg} {l : List qg} {x y z : Int} : hasB (b::l) x y z↔inB b x y z∨hasB l x y z:=by
  constructor
  · rintro ⟨c,a,h⟩;rcases List.mem_cons.1 a with rfl | a
    · exact .inl h
    · exact .inr ⟨c,a,h⟩
  · rintro (h | ⟨c,a,h⟩)
    · exact ⟨b,qe,h⟩
    · exact ⟨c,by simp [a],h⟩
instance (b : qg) (x y z : Int) : Decidable (inB b x y z):=by unfold inB;infer_instance
instance qrb : (l : List qg)→(x y z : Int)→Decidable (hasB l x y z)
  | [],x,y,z=>isFalse (q2p x y z)
  | b::l,x,y,z=>by
    have:=qrb l x y z
    exact decidable_of_iff _ qfn.symm
theorem qmm (b : qg) (v : Q3) : q9k b v = some (decide (inB b v.X v.Y v.Z)):=by
  unfold q9k inB;by_cases a : b.Lo.X≤v.X <;> by_cases g : v.X < b.Hi.X <;> by_cases f : b.Lo.Y≤v.Y <;> by_cases c : v.Y < b.Hi.Y <;> by_cases d : b.Lo.Z≤v.Z <;> by_cases h : v.Z < b.Hi.Z <;> simp [a,g,f,c,d,h]
theorem q11y (b : qg) (v : Q3) : q7p b v = some (decide (inB b v.X v.Y v.Z)):=qmm b v
theorem qwd (l : List qg) (v : Q3) (d : l.length≤1000000) : q9j l v = some (decide (hasB l v.X v.Y v.Z)):=by
  unfold q9j
  rcases Z2 l (fun b=>decide (inB b v.X v.Y v.Z)) (fun k _=>true) () (q64 l v) (fun k a=>by
    simp only [q64,dlt a,Q1,Qt a,qj,qmm,w64s a d]
    by_cases c : inB l[k] v.X v.Y v.Z <;> simp [c]) (by simp only [q64,dnl,qy]) with ⟨h1,h2⟩ | ⟨k,a,hc,_,h2⟩
  · rw [h2];simp only [qj];congr 1;refine (Q7 ?_).symm;rintro ⟨b,hb,h⟩;have:=h1 b hb;simp at this;exact this h
  · rw [h2];simp only [qj];congr 1;refine (Q8 ?_).symm;exact ⟨l[k],Kq a,of_decide_eq_true hc⟩
theorem q120 (l : List qg) (v : Q3) (d : l.length≤1000000) : qat l v = some (decide (hasB l v.X v.Y v.Z)):=by
  unfold qat Un q6s
  rcases Z2 l (fun b=>decide (inB b v.X v.Y v.Z)) (fun k _=>(k : Int)) () (Jk l (fun f=>q7p f v)) (fun k a=>by
    simp only [Jk,dlt a,Q1,Qt a,qj,q11y,w64s a d]
    by_cases c : inB l[k] v.X v.Y v.Z <;> simp [c]) (by simp only [Jk,dnl,qy]) with ⟨h1,h2⟩ | ⟨k,a,hc,_,h2⟩
  · rw [h2];simp only [qj];congr 1;rw [show decide ((-1 : Int) ≥ 0) = false from rfl];refine (Q7 ?_).symm;rintro ⟨b,hb,h⟩;have:=h1 b hb;simp at this;exact this h
  · rw [h2];simp only [qj];congr 1;rw [Q8 (by omega : (k : Int) ≥ 0)];refine (Q8 ?_).symm;exact ⟨l[k],Kq a,of_decide_eq_true hc⟩
end Go.Sh
namespace Go.Sh
open Go Go.Am
def ltB (b : qg) : Prop:=b.Lo.X < b.Hi.X∧b.Lo.Y < b.Hi.Y∧b.Lo.Z < b.Hi.Z
end Go.Sh
namespace Go.Sh
open Go Go.Am
abbrev V3:=Q3 × Q3 × Q3
def zeroV : Q3:=⟨0,0,0⟩
noncomputable def axT (t : Nat) : V3:=match qs5 (t : Int) with
  | some m=>m
  | none=>(zeroV,zeroV,zeroV)
def qhx (v : Q3) : Prop:=-1≤v.X∧v.X≤1∧-1≤v.Y∧v.Y≤1∧-1≤v.Z∧v.Z≤1
instance (v : Q3) : Decidable (qhx v):=by unfold qhx;infer_instance
def mulV (m : V3) (v : Q3) : Q3:=⟨v.X * m.1.X + v.Y * m.2.1.X + v.Z * m.2.2.X,v.X * m.1.Y + v.Y * m.2.1.Y + v.Z * m.2.2.Y,v.X * m.1.Z + v.Y * m.2.1.Z + v.Z * m.2.2.Z⟩
def addV (a b : Q3) : Q3:=⟨a.X + b.X,a.Y + b.Y,a.Z + b.Z⟩
noncomputable def qkp (t : Nat) (at_ v : Q3) : Q3:=addV (mulV (axT t) v) at_
def InV (v : Q3) (lo : Int) : Prop:=lo≤v.X∧v.X≤1000000∧lo≤v.Y∧v.Y≤1000000∧lo≤v.Z∧v.Z≤1000000
instance (v : Q3) (lo : Int) : Decidable (InV v lo):=by unfold InV;infer_instance
theorem qfc (v : Q3) (lo : Int) : q8z v lo = some (decide (InV v lo)):=by
  unfold q8z;by_cases a : min (min v.X v.Y) v.Z ≥ lo
  · by_cases b : max (max v.X v.Y) v.Z≤1000000
    · have : InV v lo:=by unfold InV;omega
      simp only [Q8 a,Q8 b,Q8 this,Q1,qj]
    · have : ¬ InV v lo:=by unfold InV;omega
      simp only [Q8 a,Q7 b,Q7 this,Q1,qj]
  · have : ¬ InV v lo:=by unfold InV;omega
    simp only [Q7 a,Q7 this,qy,qj]
theorem q8f (v : Q3) (lo : Int) : Zv v lo = some (decide (InV v lo)):=by
  unfold Zv InV;by_cases a : v.X ≥ lo <;> by_cases b : v.Y ≥ lo <;> by_cases c : v.Z ≥ lo <;> by_cases d : v.X≤1000000 <;> by_cases e : v.Y≤1000000 <;> by_cases f : v.Z≤1000000 <;> simp [a,b,c,d,e,f] <;> omega
def FOk (f : Yg) : Prop:=f.Turn < 24∧InV f.At (-1000000)
instance (f : Yg) : Decidable (FOk f):=by unfold FOk;infer_instance
def SOk (s : qi7) : Prop:=FOk s.Frame∧InV s.Size 0
instance (s : qi7) : Decidable (SOk s):=by unfold SOk;infer_instance
theorem qit {P Q : Prop} [Decidable P] [Decidable Q] {R : Prop} [Decidable R] (h : R↔P∧Q) : ((cond (decide (¬ P)) (some true) ((some (decide Q)).bind fun a=>some (!a))).bind fun c3=>cond c3 (some (8 : Int)) (some 0)) = some (if R then 0 else 8):=by
  by_cases p : P <;> by_cases q : Q <;> simp [p,q,h]
theorem qk4 (f : Yg) : q58 f = some (if FOk f then 0 else 8):=by
  unfold q58;rw [qfc];have e : decide (f.Turn ≥ 24) = decide (¬ f.Turn < 24):=by rw [decide_eq_decide];omega
  rw [e];exact qit Iff.rfl
theorem qmh (f : Yg) : q5y f = some (if FOk f then 0 else 8):=by
  unfold q5y;rw [q8f];have e : decide (f.Turn ≥ 24) = decide (¬ f.Turn < 24):=by rw [decide_eq_decide];omega
  rw [e];exact qit Iff.rfl
theorem qge {P : Prop} [Decidable P] {a : Int} (h : a≠0) : ((if P then (0 : Int) else a) != 0) = decide (¬ P):=by
  by_cases p : P <;> simp [p,h]
end Go.Sh
namespace Go.Sh
open Go Go.Am
def rowOk (a b c : Int) : Prop:=(a = 1∧b = 0∧c = 0)∨(a = -1∧b = 0∧c = 0)∨(a = 0∧b = 1∧c = 0)∨(a = 0∧b = -1∧c = 0)∨(a = 0∧b = 0∧c = 1)∨(a = 0∧b = 0∧c = -1)
instance (a b c : Int) : Decidable (rowOk a b c):=by unfold rowOk;infer_instance
def q12i (p q : Q3) : qg:={Lo:=({X:=min p.X q.X,Y:=min p.Y q.Y,Z:=min p.Z q.Z} : Q3),Hi:=({X:=max p.X q.X,Y:=max p.Y q.Y,Z:=max p.Z q.Z} : Q3)}
noncomputable def qm8 (t : Nat) (at_ : Q3) (b : qg) : qg:=q12i (qkp t at_ b.Lo) (qkp t at_ b.Hi)
noncomputable def place (l : List qg) (f : Yg) : List qg × Int:=
  if Qz l≠0 then ([],Qz l) else if ¬ FOk f then ([],8) else if ∀ b∈l,vB (qm8 f.Turn.toNat f.At b) then mkB (l.map (qm8 f.Turn.toNat f.At)) else ([],16)
theorem qvr {l : List qg} (q : l.length≤400) (P : qg→Prop) [DecidablePred P] (pl : qg→qg) (e : List qg × Int) (f : Int × List qg→Option ((Int × List qg) ⊕ ((List qg) ⊕ (List qg × Int))))
    (m : ∀ k (h : k < l.length) (o : List qg),o.length = k→P l[k]→f ((k : Int),o) = some (.inl (((k + 1 : Nat) : Int),o ++ [pl l[k]])))
    (c : ∀ k (h : k < l.length) (o : List qg),o.length = k→¬ P l[k]→f ((k : Int),o) = some (.inr (.inr e)))
    (hd : ∀ o,f ((l.length : Int),o) = some (.inr (.inl o))) : loop f (0,[]) = some (if ∀ b∈l,P b then .inl (l.map pl) else .inr e):=by
  have main:=qcn (f:=f) (fun k=>((k : Int),(l.take k).map pl)) l.length (fun j=>∀ b,l[j]? = some b→P b) (.inl (l.map pl)) (.inr e)
    (fun k a n=>by
      rw [m k a _ (by simp;omega) (n k (Nat.le_refl _) _ (List.getElem?_eq_getElem a)),List.take_succ_eq_append_getElem a,List.map_append];rfl)
    (fun k a _ hb=>c k a _ (by simp;omega) fun h=>hb fun b hb=>by rw [List.getElem?_eq_getElem a] at hb;cases hb;exact h)
    (fun _=>by rw [List.take_length,hd])
  have g : ((((0 : Nat) : Int),(l.take 0).map pl) : Int × List qg) = (0,[]):=rfl;rw [g] at main;rcases main with ⟨p,d⟩ | ⟨j,n,hb,d⟩
  · rw [d,qr];intro b hb;obtain ⟨i,hi,rfl⟩:=List.getElem_of_mem hb;exact p i hi _ (List.getElem?_eq_getElem hi)
  · rw [d,qp];intro h;exact hb fun b hb=>h b (List.mem_of_getElem? hb)
end Go.Sh
namespace Go.Sh
open Go Go.Am
end Go.Sh
namespace Go.Sh
open Go Go.Am
def grpR : List qi→List (Grp qk)
  | []=>[]
  | r::l=>match grpR l with
    | g::gs=>if g.lo = r.X0∧g.hi = r.X1 then ⟨g.lo,g.hi,ysp r::g.sec⟩::gs else ⟨r.X0,r.X1,[ysp r]⟩::g::gs
    | []=>[⟨r.X0,r.X1,[ysp r]⟩]
def grpB : List qg→List (Grp qi)
  | []=>[]
  | r::l=>match grpB l with
    | g::gs=>if g.lo = r.Lo.Z∧g.hi = r.Hi.Z then ⟨g.lo,g.hi,Ji r::g.sec⟩::gs else ⟨r.Lo.Z,r.Hi.Z,[Ji r]⟩::g::gs
    | []=>[⟨r.Lo.Z,r.Hi.Z,[Ji r]⟩]
theorem qki : ∀ l : List qi,Y6 putR (grpR l) = l
  | []=>rfl
  | r::l=>by
    have a:=qki l
    unfold grpR
    split
    · rename_i g d h
      rw [h] at a
      split
      · rename_i b
        obtain ⟨b,c⟩:=b
        rw [← a]
        simp only [Y6,List.flatMap_cons,List.map_cons,List.cons_append,b,c]
        congr 1
      · rw [← a];rfl
    · rename_i h
      rw [h] at a
      rw [← a];rfl
theorem qkh : ∀ l : List qg,Y6 putB (grpB l) = l
  | []=>rfl
  | r::l=>by
    have a:=qkh l
    unfold grpB
    split
    · rename_i g d h
      rw [h] at a
      split
      · rename_i b
        obtain ⟨b,c⟩:=b
        rw [← a]
        simp only [Y6,List.flatMap_cons,List.map_cons,List.cons_append,b,c]
        congr 1
      · rw [← a];rfl
    · rename_i h
      rw [h] at a
      rw [← a];rfl
instance {σ : Type} [DecidableEq σ] (gs : List (Grp σ)) : Decidable (CanG gs):=by unfold CanG;infer_instance
instance (s : List qk) : Decidable (Can s):=by unfold Can;infer_instance
def isR (l : List qi) : Prop:=CanG (grpR l)∧∀ g∈grpR l,Can g.sec
instance (l : List qi) : Decidable (isR l):=by unfold isR;infer_instance
def isB (l : List qg) : Prop:=CanG (grpB l)∧∀ g∈grpB l,isR g.sec
instance (l : List qg) : Decidable (isB l):=by unfold isB;infer_instance
theorem isR.can {l : List qi} (h : isR l) : CanR l:=⟨grpR l,(qki l).symm,h.1,h.2⟩
theorem isB.can {l : List qg} (h : isB l) : CanB l:=⟨grpB l,(qkh l).symm,h.1,fun g a=>(h.2 g a).can⟩
theorem q2d {l : List qg} (h : l.length≤400∧(∀ b∈l,vB b)∧isB l) : Qz l = 0:=Yh.2 ⟨h.1,h.2.1,h.2.2.can⟩
theorem qlk {kind : Int} {p q out : List qg} (h : p.length + q.length≤100000) (b : CanB out) (a : ∀ x y z,Y2 kind (hasB p x y z) (hasB q x y z)↔hasB out x y z) : mrgB kind p q = out:=
  qin (q96 kind h) b fun x y z=>by rw [qcf kind h];exact a x y z
theorem qtp {l out : List qg} (h : l.length≤400∧(∀ b∈l,vB b)∧out.length≤400) (c : isB out) (a : ∀ x y z,hasB l x y z↔hasB out x y z) : mkB l = (out,0):=by
  have e : mrgB 2 l [] = out:=qlk (by simp;omega) c.can fun x y z=>by rw [q3n,← a];simp [q2p]
  unfold mkB;rw [qp q6,qr h.2.1,e,qp q6]
theorem qqr {kind : Int} {p q : List qg} (hp : Qz p = 0) (b : Qz q = 0) (d : (mrgB kind p q).length≤400) : Qz (mrgB kind p q) = 0:=by
  obtain ⟨j,c,h⟩:=Yh.1 hp;obtain ⟨k,f,g⟩:=Yh.1 b;have a:=q96 kind (p:=p) (q:=q) q6;exact Yh.2 ⟨d,a.vB (InB.mrg q6 (qhn c) (qhn f)),a⟩
theorem qsu (kind : Int) {p q : List qg} (hp : Qz p = 0) (a : Qz q = 0) :
    jB kind p q = ([],4)∨(jB kind p q = (mrgB kind p q,0)∧Qz (mrgB kind p q) = 0∧∀ x y z,hasB (mrgB kind p q) x y z↔Y2 kind (hasB p x y z) (hasB q x y z)):=by
  have b:=(Yh.1 hp).1;have c:=(Yh.1 a).1;unfold jB;rw [qp (by simp [hp]),qp (by simp [a])];by_cases h : 400 < (mrgB kind p q).length
  · exact .inl (by rw [qr h])
  · exact .inr ⟨by rw [qp h],qqr hp a q6,qcf kind q6⟩
theorem qfu {kind : Int} {p q out : List qg} (hp : Qz p = 0) (a : Qz q = 0) (c : CanB out) (g : out.length≤400) (b : ∀ x y z,Y2 kind (hasB p x y z) (hasB q x y z)↔hasB out x y z) : jB kind p q = (out,0):=by
  have d:=(Yh.1 hp).1;have f:=(Yh.1 a).1;have e:=qlk (kind:=kind) (p:=p) (q:=q) q6 c b;unfold jB;rw [qp (by simp [hp]),qp (by simp [a]),e,qp q6]
def bx (x y z u v w : Int) : qg:={Lo:=({X:=x,Y:=y,Z:=z} : Q3),Hi:=({X:=u,Y:=v,Z:=w} : Q3)}
theorem q8k : Qz [] = 0:=q2d qx
instance (kind : Int) (a b : Prop) [Decidable a] [Decidable b] : Decidable (Y2 kind a b):=by unfold Y2;infer_instance
end Go.Sh
namespace Go.Sh
open Go Go.Am
def swp (a c : Q3) (b : qg) : qg:={Lo:=({X:=b.Lo.X + min a.X c.X,Y:=b.Lo.Y + min a.Y c.Y,Z:=b.Lo.Z + min a.Z c.Z} : Q3),Hi:=({X:=b.Hi.X + max a.X c.X,Y:=b.Hi.Y + max a.Y c.Y,Z:=b.Hi.Z + max a.Z c.Z} : Q3)}
def movB (v : Q3) (b : qg) : qg:={Lo:=({X:=b.Lo.X + v.X,Y:=b.Lo.Y + v.Y,Z:=b.Lo.Z + v.Z} : Q3),Hi:=({X:=b.Hi.X + v.X,Y:=b.Hi.Y + v.Y,Z:=b.Hi.Z + v.Z} : Q3)}
def onL (a c p : Q3) : Prop:=(min a.X c.X≤p.X∧p.X≤max a.X c.X)∧(min a.Y c.Y≤p.Y∧p.Y≤max a.Y c.Y)∧(min a.Z c.Z≤p.Z∧p.Z≤max a.Z c.Z)
theorem qhj {l h m n x : Int} (f : l < h) (a : m≤n) : (l + m≤x∧x < h + n)↔∃ t,(m≤t∧t≤n)∧l + t≤x∧x < h + t:=by
  constructor
  · rintro ⟨b,d⟩;by_cases c : n≤x - l
    · exact ⟨n,q6,q6,q6⟩
    · exact ⟨x - l,q6,q6,q6⟩
  · rintro ⟨t,b,d,c⟩;omega
theorem qkq {a c : Q3} {b : qg} (hb : ltB b) {x y z : Int} : inB (swp a c b) x y z↔∃ p,onL a c p∧inB (movB p b) x y z:=by
  obtain ⟨n,q,v⟩:=hb;have j:=qhj (x:=x) n (show min a.X c.X≤max a.X c.X by omega);have k:=qhj (x:=y) q (show min a.Y c.Y≤max a.Y c.Y by omega);have l:=qhj (x:=z) v (show min a.Z c.Z≤max a.Z c.Z by omega);constructor
  · rintro ⟨o,u,s⟩;obtain ⟨m,g,d⟩:=j.1 o;obtain ⟨t,p2,h⟩:=k.1 u;obtain ⟨r,p3,f⟩:=l.1 s;exact ⟨⟨m,t,r⟩,⟨g,p2,p3⟩,d,h,f⟩
  · rintro ⟨p,⟨g,p2,p3⟩,d,h,f⟩;exact ⟨j.2 ⟨_,g,d⟩,k.2 ⟨_,p2,h⟩,l.2 ⟨_,p3,f⟩⟩
theorem qkk {l : List qg} {f : qg→qg} {x y z : Int} : hasB (l.map f) x y z↔∃ b∈l,inB (f b) x y z:=by
  constructor
  · rintro ⟨c,a,h⟩;obtain ⟨b,hb,rfl⟩:=List.mem_map.1 a;exact ⟨b,hb,h⟩
  · rintro ⟨b,hb,h⟩;exact ⟨_,List.mem_map.2 ⟨b,hb,rfl⟩,h⟩
theorem qsi {a c : Q3} {l : List qg} (g : ∀ b∈l,ltB b) {x y z : Int} : hasB (l.map (swp a c)) x y z↔∃ p,onL a c p∧hasB (l.map (movB p)) x y z:=by
  simp only [qkk];constructor
  · rintro ⟨b,hb,h⟩;obtain ⟨p,d,f⟩:=(qkq (g b hb)).1 h;exact ⟨p,d,b,hb,f⟩
  · rintro ⟨p,d,b,hb,f⟩;exact ⟨b,hb,(qkq (g b hb)).2 ⟨p,d,f⟩⟩
theorem qsg {v : Q3} {l : List qg} {x y z : Int} : hasB (l.map (movB v)) x y z↔hasB l (x - v.X) (y - v.Y) (z - v.Z):=by
  rw [qkk];constructor
  · rintro ⟨b,hb,a,d,c⟩;exact ⟨b,hb,by simp only [movB] at a d c;omega⟩
  · rintro ⟨b,hb,a,d,c⟩;exact ⟨b,hb,by simp only [inB,movB];omega⟩
end Go.Sh
namespace Go.Sh
open Go Go.Am
end Go.Sh
namespace Go.Sh
open Go Go.Am
def Ax (a c : Q3) : Prop:=(a.X = c.X∧a.Y = c.Y)∨(a.X = c.X∧a.Z = c.Z)∨(a.Y = c.Y∧a.Z = c.Z)
instance (a c : Q3) : Decidable (Ax a c):=by unfold Ax;infer_instance
def LOk (l : K1) : Prop:=Ax l.From l.To∧InV l.From (-1000000)∧InV l.To (-1000000)
instance (l : K1) : Decidable (LOk l):=by unfold LOk;infer_instance
def TOk (t : Qv) : Prop:=(t.Lines.length≤2000∧t.Marks.length≤2000∧FOk t.End.Frame)∧(∀ l∈t.Lines,LOk l)∧∀ m∈t.Marks,FOk m.Frame
instance (t : Qv) : Decidable (TOk t):=by unfold TOk;infer_instance
theorem q13r (v : Q3) : qbm v = some (decide (InV v (-1000000))):=qfc v (-1000000)
theorem q13o (l : K1) : loop (q16 l) (0,0) = some ((if w64 (l.To.X - l.From.X) = 0 then 1 else 0) + (if w64 (l.To.Y - l.From.Y) = 0 then 1 else 0) + (if w64 (l.To.Z - l.From.Z) = 0 then 1 else 0)):=by
  have a : w64 (0 + 1) = 1:=by decide
  have c : w64 (1 + 1) = 2:=by decide
  have b : w64 (2 + 1) = 3:=by decide
  have s : ∀ n k v,idxA 3 [w64 (l.To.X - l.From.X),w64 (l.To.Y - l.From.Y),w64 (l.To.Z - l.From.Z)] k = some v→k < 3→q16 l (n,k) = some (.inl (if v = 0 then w64 (n + 1) else n,w64 (k + 1))):=by
    intro n k v g j;unfold q16;simp only [Q8 j,Q1,g,qj];by_cases h : v = 0
    · have e : (v == 0) = true:=by simpa using h
      rw [e,qr h];rfl
    · have e : (v == 0) = false:=by simpa using h
      rw [e,qp h];rfl
  have m : ∀ n,q16 l (n,0) = some (.inl (if w64 (l.To.X - l.From.X) = 0 then w64 (n + 1) else n,1)):=fun n=>by rw [s n 0 _ rfl q6,a]
  have d : ∀ n,q16 l (n,1) = some (.inl (if w64 (l.To.Y - l.From.Y) = 0 then w64 (n + 1) else n,2)):=fun n=>by rw [s n 1 _ rfl q6,c]
  have f : ∀ n,q16 l (n,2) = some (.inl (if w64 (l.To.Z - l.From.Z) = 0 then w64 (n + 1) else n,3)):=fun n=>by rw [s n 2 _ rfl q6,b]
  have o : ∀ n,q16 l (n,3) = some (.inr n):=fun n=>rfl;rw [Y3 (m 0),Y3 (d _),Y3 (f _),Kh (o _)];split <;> split <;> split <;> decide
theorem qtd (l : K1) : q89 l = some (!decide (LOk l)):=by
  unfold q89;simp only [q13o,q13r,qj];by_cases c : InV l.From (-1000000)
  · by_cases g : InV l.To (-1000000)
    · have hb : ∀ {a b : Int},-1000000≤a→a≤1000000→-1000000≤b→b≤1000000→(w64 (a - b) = 0↔b = a):=fun c g k j=>by rw [Qg q6];omega
      have f:=c;have d:=g;unfold InV at f d;simp only [hb d.1 d.2.1 f.1 f.2.1,hb d.2.2.1 d.2.2.2.1 f.2.2.1 f.2.2.2.1,hb d.2.2.2.2.1 d.2.2.2.2.2 f.2.2.2.2.1 f.2.2.2.2.2];simp only [c,g,decide_true,Bool.not_true,qy,qj];congr 1;rw [Bool.eq_iff_iff];simp only [decide_eq_true_eq,Bool.not_eq_true',decide_eq_false_iff_not,LOk,Ax,c,g,and_true];split <;> split <;> split <;> simp_all
    · have : ¬ LOk l:=fun h=>g h.2.2;simp [c,g,this]
  · have : ¬ LOk l:=fun h=>c h.2.1;simp [c,this]
theorem qtr (m : Yy) : q8a m = some (!decide (FOk m.Frame)):=by
  unfold q8a;rw [qk4];by_cases h : FOk m.Frame <;> simp [h]
theorem ql6 (l : List K1) (d : l.length≤1000000) (p : K1→Option Bool) (c : K1→Bool) (h : ∀ v,p v = some (c v)) : q6o l p = some (l.any c):=by
  unfold q6o qdm
  rcases Z2 l c (fun k _=>(k : Int)) () (q6q l p) (fun k a=>by
    simp only [q6q,dlt a,Q1,Qt a,qj,w64s a d,h]
    cases c l[k] <;> simp) (by simp only [q6q,dnl,qy]) with ⟨h1,h2⟩ | ⟨k,a,hc,_,h2⟩
  · rw [h2];have : l.any c = false:=by rw [List.any_eq_false];exact fun v b=>by rw [h1 v b];simp
    rw [this];rfl
  · rw [h2];have : l.any c = true:=List.any_eq_true.2 ⟨_,Kq a,hc⟩;simp only [qj];rw [this,Q8 q6]
theorem qtk (l : List Yy) (d : l.length≤1000000) (p : Yy→Option Bool) (c : Yy→Bool) (h : ∀ v,p v = some (c v)) : q9v l p = some (l.any c):=by
  unfold q9v qdn
  rcases Z2 l c (fun k _=>(k : Int)) () (q6r l p) (fun k a=>by
    simp only [q6r,dlt a,Q1,Qt a,qj,w64s a d,h]
    cases c l[k] <;> simp) (by simp only [q6r,dnl,qy]) with ⟨h1,h2⟩ | ⟨k,a,hc,_,h2⟩
  · rw [h2];have : l.any c = false:=by rw [List.any_eq_false];exact fun v b=>by rw [h1 v b];simp
    rw [this];rfl
  · rw [h2];have : l.any c = true:=List.any_eq_true.2 ⟨_,Kq a,hc⟩;simp only [qj];rw [this,Q8 q6]
theorem q13p (t : Qv) (f : t.Lines.length≤1000000) (g : t.Marks.length≤1000000) : qbl t = some (if TOk t then 0 else 8):=by
  unfold qbl;rw [ql6 t.Lines f _ _ qtd,qtk t.Marks g _ _ qtr,qk4];simp only [qj,qge (show (8 : Int)≠0 by omega)]
  have k : (t.Lines.any fun l=>!decide (LOk l)) = decide (¬ ∀ l∈t.Lines,LOk l):=by
    rw [Bool.eq_iff_iff];simp
  have j : (t.Marks.any fun m=>!decide (FOk m.Frame)) = decide (¬ ∀ m∈t.Marks,FOk m.Frame):=by
    rw [Bool.eq_iff_iff];simp
  have n : decide (max (t.Lines.length : Int) (t.Marks.length : Int) > 2000) = decide (¬ (t.Lines.length≤2000∧t.Marks.length≤2000)):=by
    rw [decide_eq_decide];omega
  rw [k,j,n];by_cases a : ∀ l∈t.Lines,LOk l
  · by_cases b : ∀ m∈t.Marks,FOk m.Frame
    · by_cases c : FOk t.End.Frame
      · by_cases d : t.Lines.length≤2000∧t.Marks.length≤2000
        · have : TOk t:=⟨⟨d.1,d.2,c⟩,a,b⟩
          rw [Q7 (not_not_intro a),Q7 (not_not_intro b),Q7 (not_not_intro c),Q7 (not_not_intro d),qr this];rfl
        · have : ¬ TOk t:=fun h=>d ⟨h.1.1,h.1.2.1⟩;rw [Q7 (not_not_intro a),Q7 (not_not_intro b),Q7 (not_not_intro c),Q8 d,qp this];rfl
      · have : ¬ TOk t:=fun h=>c h.1.2.2;rw [Q7 (not_not_intro a),Q7 (not_not_intro b),Q8 c,qp this];rfl
    · have : ¬ TOk t:=fun h=>b h.2.2;rw [Q7 (not_not_intro a),Q8 b,qp this];rfl
  · have : ¬ TOk t:=fun h=>a h.2.1;rw [Q8 a,qp this];rfl
theorem qou (t : Qv) (a : t.Lines.length≤1000000) (c : t.Marks.length≤1000000) : ∃ n,q4x t = some (n,if TOk t then 0 else 8):=by
  unfold q4x;rw [q13p t a c];simp only [qj];by_cases h : TOk t
  · simp only [qr h,show ((0 : Int) != 0) = false from rfl,qy]
    have:=qcc t.Lines a (fun n (l : K1)=>w64 (n + (w64 ((w64 ((max (w64 (l.To.X - l.From.X)) (w64 (0 - (w64 (l.To.X - l.From.X))))) + (max (w64 (l.To.Y - l.From.Y)) (w64 (0 - (w64 (l.To.Y - l.From.Y))))))) + (max (w64 (l.To.Z - l.From.Z)) (w64 (0 - (w64 (l.To.Z - l.From.Z))))))))) (fun x=>x) (q88 t) (fun k b s=>by
      simp only [q88,q8b,dlt b,Q1,Qt b,qj,w64s b a]) (fun s=>by simp only [q88,dnl,qy]) 0
    rw [this];exact ⟨_,rfl⟩
  · simp only [qp h];exact ⟨0,rfl⟩
theorem qem (a b : Int) : (a != b) = decide (¬ a = b):=by
  by_cases h : a = b <;> simp [h]
theorem qwa (t : Qv) (s : t.Lines.length≤1000000) (w : t.Marks.length≤1000000) : q9h t = some (if TOk t then 0 else 8):=by
  unfold q9h;rw [qmh];simp only [qj,qge (show (8 : Int)≠0 by omega)];by_cases f : t.Lines.length≤2000∧t.Marks.length≤2000
  · by_cases b : FOk t.End.Frame
    · have d : decide ((t.Lines.length : Int) > 2000) = false:=Q7 q6;have c : decide ((t.Marks.length : Int) > 2000) = false:=Q7 q6;rw [d,c,Q7 (not_not_intro b)];simp only [qy,qj]
      rcases Z2 t.Lines (fun l=>!decide (LOk l)) (fun k _=>(8 : Int)) () (q5z t) (fun k a=>by
        have j : w64 (0 + 1) = 1:=by decide
        have v : w64 (1 + 1) = 2:=by decide
        have n : w64 (2 + 1) = 3:=by decide
        simp only [q5z,dlt a,Q1,Qt a,qj,w64s a s,q8f];generalize t.Lines[k] = l
        by_cases p : l.From.X = l.To.X <;> by_cases r : l.From.Y = l.To.Y <;> by_cases y : l.From.Z = l.To.Z <;> by_cases u : InV l.From (-1000000) <;> by_cases q : InV l.To (-1000000) <;>
          simp [qem,p,r,y,u,q,show w64 1 = 1 by decide,show w64 2 = 2 by decide,show w64 3 = 3 by decide,LOk,Ax]) (by simp only [q5z,dnl,qy]) with ⟨a1,a2⟩ | ⟨k,a,hc,_,a2⟩
      · rw [a2];simp only [qj]
        rcases Z2 t.Marks (fun m=>!decide (FOk m.Frame)) (fun k _=>(8 : Int)) () (q60 t) (fun k a=>by
          simp only [q60,dlt a,Q1,Qt a,qj,w64s a w,qmh,qge (show (8 : Int)≠0 by omega)]
          by_cases x : FOk (t.Marks[k]).Frame <;> simp [x]) (by simp only [q60,dnl,qy]) with ⟨b1,b2⟩ | ⟨k,a,hc,_,b2⟩
        · rw [b2];have : TOk t:=⟨⟨f.1,f.2,b⟩,fun l o=>by simpa using a1 l o,fun m z=>by simpa using b1 m z⟩
          rw [qr this];rfl
        · rw [b2];have : ¬ TOk t:=fun h=>by simp [h.2.2 _ (Kq a)] at hc
          rw [qp this];rfl
      · rw [a2];have : ¬ TOk t:=fun h=>by simp [h.2.1 _ (Kq a)] at hc
        rw [qp this];rfl
    · have : ¬ TOk t:=fun h=>b h.1.2.2;have d : decide ((t.Lines.length : Int) > 2000) = false:=Q7 q6;have c : decide ((t.Marks.length : Int) > 2000) = false:=Q7 q6;rw [d,c,Q8 b,qp this];rfl
  · have : ¬ TOk t:=fun h=>f ⟨h.1.1,h.1.2.1⟩;rw [qp this];by_cases g : (t.Lines.length : Int) > 2000
    · rw [Q8 g];rfl
    · rw [Q7 g,Q8 (by omega : (t.Marks.length : Int) > 2000)];rfl
noncomputable def badB : List (List qg)→Int
  | []=>0
  | b::r=>if Qz b≠0 then Qz b else badB r
theorem qej : ∀ {bs : List (List qg)},(∀ b∈bs,Qz b = 0)→badB bs = 0
  | [],_=>rfl
  | b::r,h=>by rw [badB,qp (by simp [h b qe])];exact qej fun c a=>h c (by simp [a])
theorem qie : ∀ {bs : List (List qg)},badB bs = 0→∀ b∈bs,Qz b = 0
  | [],_,b,hb=>by cases hb
  | a::r,h,b,hb=>by
    rw [badB] at h
    split at h
    · rename_i c;exact absurd h c
    · rename_i c
      rcases List.mem_cons.1 hb with rfl | hb
      · exact Classical.not_not.1 c
      · exact qie h b hb
theorem qid : ∀ {bs : List (List qg)} {k : Nat} (b : k < bs.length),Qz bs[k]≠0→(∀ j (c : j < k),Qz (bs[j]'(q6)) = 0)→badB bs = Qz bs[k]
  | a::r,0,b,h,_=>by rw [badB];exact qr h
  | a::r,k + 1,b,h,hb=>by
    rw [badB,qp (by simpa using hb 0 q6)]
    exact qid (bs:=r) (by simpa using b) h fun j c=>by simpa using hb (j + 1) q6
theorem qpw {γ : Type} (bs : List (List qg)) (o : bs.length≤1000000) (a : Int→γ) (f : Int→Option (Int ⊕ (Unit ⊕ γ)))
    (hs : ∀ k (h : k < bs.length),f (k : Int) = some (if Qz bs[k]≠0 then .inr (.inr (a (Qz bs[k]))) else .inl ((k + 1 : Nat) : Int))) (hd : f (bs.length : Int) = some (.inr (.inl ()))) :
    loop f 0 = some (if badB bs = 0 then .inl () else .inr (a (badB bs))):=by
  rcases Z2 bs (fun b=>decide (Qz b≠0)) (fun k h=>a (Qz bs[k])) () f (fun k h=>by rw [hs k h];simp) hd with ⟨g,d⟩ | ⟨k,m,n,hb,d⟩
  · rw [d,qr (qej fun b hb=>by simpa using g b hb)]
  · have c : Qz bs[k]≠0:=by simpa using n
    have:=qid m c fun j l=>by simpa using hb j l
    rw [d,qp (by rw [this];exact c),this]
noncomputable def chkS (t : Qv) (bs : List (List qg)) : Int:=
  if ¬ TOk t then 8 else if 20 < bs.length then 4 else if badB bs≠0 then badB bs else if 0 < t.Lines.length∧bs.length = 0 then 6 else if ∃ l∈t.Lines,l.Depth < 0 then 2 else 0
theorem qxo (t : Qv) (bs : List (List qg)) (g : t.Lines.length≤1000000) (p : t.Marks.length≤1000000) (o : bs.length≤1000000) : qbd t bs = some (chkS t bs):=by
  obtain ⟨n,r⟩:=qou t g p;unfold qbd chkS;rw [r];simp only [qj];by_cases a : ¬ TOk t
  · rw [qp a,qr a];rfl
  replace a:=Classical.not_not.1 a;rw [qr a,qp (not_not_intro a),show ((0 : Int) != 0) = false from rfl,qy];by_cases m : 20 < bs.length
  · rw [Q8 (by omega : (bs.length : Int) > 20),Q1,qr m]
  rw [Q7 (by omega : ¬ (bs.length : Int) > 20),qy,qp m]
  rw [qpw bs o (fun e=>e) (q86 bs) (fun k f=>by
    simp only [q86,dlt f,Q1,Qt f,qj,w64s f o,qdt]
    by_cases h : Qz bs[k] = 0 <;> simp [qem,h]) (by simp only [q86,dnl,qy])]
  by_cases b : badB bs = 0
  · rw [qr b,qp (not_not_intro b)];simp only [qj];rw [ql6 t.Lines g (fun q=>qbe q) (fun v=>decide (v.Depth < 0)) (fun v=>rfl)];by_cases j : 0 < t.Lines.length
    · by_cases d : bs.length = 0
      · rw [Q8 (by omega : (t.Lines.length : Int) > 0),d,qr ⟨j,rfl⟩];rfl
      · have e : ((bs.length : Int) == 0) = false:=by simpa using d
        rw [Q8 (by omega : (t.Lines.length : Int) > 0),e,qp (fun h=>d h.2)];simp only [Q1,qy,qj];by_cases c : ∃ l∈t.Lines,l.Depth < 0
        · rw [qr c,show (t.Lines.any fun v=>decide (v.Depth < 0)) = true by simpa using c];rfl
        · rw [qp c,show (t.Lines.any fun v=>decide (v.Depth < 0)) = false by simpa using c];rfl
    · have e : t.Lines = []:=List.length_eq_zero_iff.1 q6;rw [Q7 (by omega : ¬ (t.Lines.length : Int) > 0),qp (fun h=>j h.1),e];simp
  · rw [qp b,qr b];rfl
end Go.Sh
namespace Go.Sh
open Go Go.Am
noncomputable def barS (l : K1) (b : List qg) : List qg × Int:=if ∀ x∈b,vB (swp l.From l.To x) then mkB (b.map (swp l.From l.To)) else ([],16)
theorem qne (v : Q3) : qbf v = some (decide (InV v (-1000000))):=qfc v (-1000000)
theorem q140 {b : qg} (h : vB b) : ltB b:=h.1
theorem qoy {a c : Q3} {b : qg} (hb : vB b) : vB (swp a c b)↔InV (swp a c b).Lo (-1000000)∧InV (swp a c b).Hi (-1000000):=by
  unfold vB at hb;unfold vB InV swp;simp only;omega
theorem qom {l : K1} {b : List qg} (f : LOk l) (n : b.length≤400) (hb : ∀ x∈b,vB x) : q85 l b = some (barS l b):=by
  obtain ⟨_,g,m⟩:=f;unfold InV at g m
  have w : ∀ k (a : k < b.length),({X:=w64 (b[k].Lo.X + (min l.From.X l.To.X)),Y:=w64 (b[k].Lo.Y + (min l.From.Y l.To.Y)),Z:=w64 (b[k].Lo.Z + (min l.From.Z l.To.Z))} : Q3) = (swp l.From l.To b[k]).Lo∧({X:=w64 (b[k].Hi.X + (max l.From.X l.To.X)),Y:=w64 (b[k].Hi.Y + (max l.From.Y l.To.Y)),Z:=w64 (b[k].Hi.Z + (max l.From.Z l.To.Z))} : Q3) = (swp l.From l.To b[k]).Hi:=by
    intro k a;have j:=hb _ (Kq a);unfold vB at j;refine ⟨?_,?_⟩ <;> (unfold swp;simp only;rw [Qg q6,Qg q6,Qg q6])
  unfold q85 barS
  rw [qvr n (fun x=>vB (swp l.From l.To x)) (swp l.From l.To) ([],16) (q4v b l) (fun k a o h c=>by
      obtain ⟨d,p2⟩:=(qoy (hb _ (Kq a))).1 c;simp only [q4v,dlt a,Q1,Qt a,qj,(w k a).1,(w k a).2,qne,Q8 d,Q8 p2,Bool.not_true,qy,w64s a q6];rw [Y7 (by simp;omega)]
      rfl) (fun k a o h c=>by
      rw [qoy (hb _ (Kq a))] at c;simp only [q4v,dlt a,Q1,Qt a,qj,(w k a).1,(w k a).2,qne];by_cases d : InV (swp l.From l.To b[k]).Lo (-1000000)
      · have p2 : ¬ InV (swp l.From l.To b[k]).Hi (-1000000):=fun p2=>c ⟨d,p2⟩;rw [Q8 d,Q7 p2];rfl
      · rw [Q7 d];rfl) (fun o=>by simp only [q4v,dnl,qy])]
  rw [qj];by_cases c : ∀ x∈b,vB (swp l.From l.To x)
  · rw [qr c,qr c];simp only [q123,qj]
  · rw [qp c,qp c]
def sgn (x : Int) : Int:=if x < 0 then -1 else if x > 0 then 1 else 0
def K6 (a c : Q3) (k : Nat) : Q3:={X:=a.X + sgn (c.X - a.X) * k,Y:=a.Y + sgn (c.Y - a.Y) * k,Z:=a.Z + sgn (c.Z - a.Z) * k}
def nL (a c : Q3) : Nat:=(c.X - a.X).natAbs + (c.Y - a.Y).natAbs + (c.Z - a.Z).natAbs
theorem qde (x : Int) : (x < 0∧sgn x = -1)∨(x = 0∧sgn x = 0)∨(x > 0∧sgn x = 1):=by
  unfold sgn;rcases Int.lt_trichotomy x 0 with h | h | h
  · exact .inl ⟨h,by rw [qr h]⟩
  · exact .inr (.inl ⟨h,by rw [qp q6,qp q6]⟩)
  · exact .inr (.inr ⟨h,by rw [qp q6,qr h]⟩)
theorem qyu (x : Int) : q48 x = some (sgn x):=by
  unfold q48 sgn;by_cases h : x < 0
  · rw [Q8 h,qr h];rfl
  · rw [Q7 h,qp h];by_cases a : x > 0
    · rw [Q8 a,qr a];rfl
    · rw [Q7 a,qp a];rfl
theorem qb6 (a c : Q3) (k : Nat) : ((a.X = c.X∧(K6 a c k).X = a.X)∨(c.X < a.X∧(K6 a c k).X = a.X - k)∨(a.X < c.X∧(K6 a c k).X = a.X + k))∧
    ((a.Y = c.Y∧(K6 a c k).Y = a.Y)∨(c.Y < a.Y∧(K6 a c k).Y = a.Y - k)∨(a.Y < c.Y∧(K6 a c k).Y = a.Y + k))∧
    ((a.Z = c.Z∧(K6 a c k).Z = a.Z)∨(c.Z < a.Z∧(K6 a c k).Z = a.Z - k)∨(a.Z < c.Z∧(K6 a c k).Z = a.Z + k)):=by
  have key : ∀ x y : Int,(x = y∧x + sgn (y - x) * k = x)∨(y < x∧x + sgn (y - x) * k = x - k)∨(x < y∧x + sgn (y - x) * k = x + k):=fun x y=>by
    rcases qde (y - x) with ⟨d,b⟩ | ⟨d,b⟩ | ⟨d,b⟩ <;> rw [b] <;> omega
  exact ⟨key _ _,key _ _,key _ _⟩
theorem q97 (a c : Q3) : (nL a c : Int) = max (c.X - a.X) (a.X - c.X) + max (c.Y - a.Y) (a.Y - c.Y) + max (c.Z - a.Z) (a.Z - c.Z):=by
  unfold nL;omega
theorem qbn {p q : Q3} : p = q↔p.X = q.X∧p.Y = q.Y∧p.Z = q.Z:=by
  cases p;cases q;simp
theorem qoa {a c : Q3} (h : Ax a c) : K6 a c (nL a c) = c:=by
  rw [qbn];obtain ⟨f1,d,b⟩:=qb6 a c (nL a c);have:=q97 a c;rcases h with h | h | h <;> omega
theorem qb7 (a c : Q3) : K6 a c 0 = a:=by rw [qbn];simp [K6]
theorem q130 {a c : Q3} (h : Ax a c) {k : Nat} (f : k < nL a c) : ¬ ((K6 a c k).X = c.X∧(K6 a c k).Y = c.Y∧(K6 a c k).Z = c.Z):=by
  obtain ⟨f1,d,b⟩:=qb6 a c k;have:=q97 a c;rcases h with h | h | h <;> omega
theorem on1 {a s r p : Int} {k : Nat} (h : (s = a - k∧r = a - (k + 1 : Nat))∨(s = a + k∧r = a + (k + 1 : Nat))) : (min a r≤p∧p≤max a r)↔((min a s≤p∧p≤max a s)∨p = r):=by
  rcases h with ⟨rfl,rfl⟩ | ⟨rfl,rfl⟩ <;> constructor <;> intro h <;> omega
theorem on0 {a p : Int} : (min a a≤p∧p≤max a a)↔p = a:=by omega
theorem quk {a c : Q3} (h : Ax a c) {k : Nat} (v : k + 1≤nL a c) (p : Q3) : onL a (K6 a c (k + 1)) p↔onL a (K6 a c k) p∨p = K6 a c (k + 1):=by
  obtain ⟨f1,w,o⟩:=qb6 a c k;obtain ⟨t,q,n⟩:=qb6 a c (k + 1);have u:=q97 a c;unfold onL;rw [qbn];rcases h with h | h | h
  · have g : (K6 a c k).X = a.X:=by omega
    have l : (K6 a c k).Y = a.Y:=by omega
    have m : (K6 a c (k + 1)).X = a.X:=by omega
    have j : (K6 a c (k + 1)).Y = a.Y:=by omega
    rw [g,l,m,j,on0,on0,on1 (s:=(K6 a c k).Z) (r:=(K6 a c (k + 1)).Z) (k:=k) q6];constructor
    · rintro ⟨f,d,b | b⟩
      · exact .inl ⟨f,d,b⟩
      · exact .inr ⟨f,d,b⟩
    · rintro (⟨f,d,b⟩ | ⟨f,d,b⟩)
      · exact ⟨f,d,.inl b⟩
      · exact ⟨f,d,.inr b⟩
  · have g : (K6 a c k).X = a.X:=by omega
    have l : (K6 a c k).Z = a.Z:=by omega
    have m : (K6 a c (k + 1)).X = a.X:=by omega
    have j : (K6 a c (k + 1)).Z = a.Z:=by omega
    rw [g,l,m,j,on0,on0,on1 (s:=(K6 a c k).Y) (r:=(K6 a c (k + 1)).Y) (k:=k) q6];constructor
    · rintro ⟨f,b | b,d⟩
      · exact .inl ⟨f,b,d⟩
      · exact .inr ⟨f,b,d⟩
    · rintro (⟨f,b,d⟩ | ⟨f,b,d⟩)
      · exact ⟨f,.inl b,d⟩
      · exact ⟨f,.inr b,d⟩
  · have g : (K6 a c k).Y = a.Y:=by omega
    have l : (K6 a c k).Z = a.Z:=by omega
    have m : (K6 a c (k + 1)).Y = a.Y:=by omega
    have j : (K6 a c (k + 1)).Z = a.Z:=by omega
    rw [g,l,m,j,on0,on0,on1 (s:=(K6 a c k).X) (r:=(K6 a c (k + 1)).X) (k:=k) q6];constructor
    · rintro ⟨b | b,f,d⟩
      · exact .inl ⟨b,f,d⟩
      · exact .inr ⟨b,f,d⟩
    · rintro (⟨b,f,d⟩ | ⟨b,f,d⟩)
      · exact ⟨.inl b,f,d⟩
      · exact ⟨.inr b,f,d⟩
theorem qul (a p : Q3) : onL a a p↔p = a:=by
  unfold onL;rw [qbn];omega
def ptsL (a c : Q3) : List Q3:=(List.range (nL a c + 1)).map (K6 a c)
theorem qgj {a c : Q3} (h : Ax a c) (p : Q3) : onL a c p↔p∈ptsL a c:=by
  have key : ∀ k,k≤nL a c→(onL a (K6 a c k) p↔∃ j,j≤k∧p = K6 a c j):=by
    intro k
    induction k with
    | zero=>intro _;rw [qb7,qul];exact ⟨fun e=>⟨0,Nat.le_refl _,by rw [qb7];exact e⟩,fun ⟨j,b,e⟩=>by have : j = 0:=q6;subst this;rw [qb7] at e;exact e⟩
    | succ k ih=>
      intro f;rw [quk h f,ih q6];constructor
      · rintro (⟨j,b,e⟩ | e)
        · exact ⟨j,q6,e⟩
        · exact ⟨k + 1,Nat.le_refl _,e⟩
      · rintro ⟨j,b,e⟩;by_cases d : j = k + 1
        · subst d;exact .inr e
        · exact .inl ⟨j,q6,e⟩
  have:=key (nL a c) (Nat.le_refl _);rw [qoa h] at this;rw [this];simp only [ptsL,List.mem_map,List.mem_range];exact ⟨fun ⟨j,b,e⟩=>⟨j,q6,e.symm⟩,fun ⟨j,b,e⟩=>⟨j,q6,e.symm⟩⟩
theorem q12z {a c : Q3} (h : Ax a c) {k : Nat} (b : k≤nL a c) : onL a c (K6 a c k):=(qgj h _).2 (List.mem_map.2 ⟨k,by simp;omega,rfl⟩)
theorem qwq {α : Type} (n : Nat) (f : Nat→α) : (List.range (n + 1)).map f = (List.range n).map f ++ [f n]:=by rw [List.range_succ,List.map_append];rfl
theorem qvs {l : K1} (h : LOk l) (s : nL l.From l.To≤1000) : q9n l = some (ptsL l.From l.To):=by
  obtain ⟨a,n,g⟩:=h;unfold InV at n g;unfold q9n;rw [Qg q6,Qg q6,Qg q6];simp only [qyu,qj]
  have key:=Zu (f:=q69 l (sgn (l.To.X - l.From.X)) (sgn (l.To.Y - l.From.Y)) (sgn (l.To.Z - l.From.Z)))
    (fun k=>((List.range (k + 1)).map (K6 l.From l.To),(K6 l.From l.To k).X,(K6 l.From l.To k).Y,(K6 l.From l.To k).Z)) (nL l.From l.To) (ptsL l.From l.To) (fun k o=>by
      have c:=q130 a o
      have hb : (((K6 l.From l.To k).X == l.To.X) && (((K6 l.From l.To k).Y == l.To.Y) && (((K6 l.From l.To k).Z == l.To.Z) && true))) = false:=by
        rw [Bool.eq_false_iff];intro p;apply c;simpa using p
      have b : K6 l.From l.To (k + 1) = ({X:=w64 ((K6 l.From l.To k).X + sgn (l.To.X - l.From.X)),Y:=w64 ((K6 l.From l.To k).Y + sgn (l.To.Y - l.From.Y)),Z:=w64 ((K6 l.From l.To k).Z + sgn (l.To.Z - l.From.Z))} : Q3):=by
        obtain ⟨f1,t,r⟩:=qb6 l.From l.To k;have d:=q97 l.From l.To;have v:=qde (l.To.X - l.From.X);have u:=qde (l.To.Y - l.From.Y);have q:=qde (l.To.Z - l.From.Z);rw [Qg q6,Qg q6,Qg q6];unfold K6;simp only [Int.natCast_add,Int.mul_add,Int.add_assoc,Int.natCast_one,Int.mul_one,Int.cast_ofNat_Int]
      unfold q69;simp only [hb,Bool.not_false,Q1,q43,qj];rw [← b,Y7 (by simp;omega),qwq (k + 1),show w64 ((K6 l.From l.To k).X + sgn (l.To.X - l.From.X)) = (K6 l.From l.To (k + 1)).X from (congrArg Q3.X b).symm,show w64 ((K6 l.From l.To k).Y + sgn (l.To.Y - l.From.Y)) = (K6 l.From l.To (k + 1)).Y from (congrArg Q3.Y b).symm,show w64 ((K6 l.From l.To k).Z + sgn (l.To.Z - l.From.Z)) = (K6 l.From l.To (k + 1)).Z from (congrArg Q3.Z b).symm]
      rfl) (by
      have m:=qoa a
      have hb : (((K6 l.From l.To (nL l.From l.To)).X == l.To.X) && (((K6 l.From l.To (nL l.From l.To)).Y == l.To.Y) && (((K6 l.From l.To (nL l.From l.To)).Z == l.To.Z) && true))) = true:=by
        rw [m];simp
      unfold q69;simp only [hb,Bool.not_true,qy]
      rfl) (Nat.zero_le _)
  have j : (((List.range (0 + 1)).map (K6 l.From l.To),(K6 l.From l.To 0).X,(K6 l.From l.To 0).Y,(K6 l.From l.To 0).Z) : List Q3 × Int × Int × Int) = ([l.From],l.From.X,l.From.Y,l.From.Z):=by
    rw [qb7];simp [qb7]
  rw [j] at key;rw [key];rfl
end Go.Sh
