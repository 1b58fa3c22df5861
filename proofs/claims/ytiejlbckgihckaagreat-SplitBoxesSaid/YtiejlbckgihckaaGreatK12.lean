/- Rs2 Rs3 Qb1 Rs4 Qb2 Pf3 Rs5 Rs6 Rs7 Rs8 Rs9 Rb1 Ps1 Ps3 Ps4 -/
import Derived.Test.YtiejlbckgihckaaGreatK11
namespace Go.Sh
open Go Go.Am
theorem qzu (v : qm) : q6z v = some (decide ((-1000000≤v.X∧-1000000≤v.Y∧-1000000≤v.Z)∧v.X≤1000000∧v.Y≤1000000∧v.Z≤1000000)):=by
  unfold q6z;by_cases a : min (min v.X v.Y) v.Z ≥ -1000000
  · by_cases b : max (max v.X v.Y) v.Z≤1000000
    · rw [Q9 a,Q9 b,Q2,qh];congr 1;exact (Q9 q0).symm
    · rw [Q9 a,Qb b,Q2,qh];congr 1;exact (Qb q0).symm
  · rw [Qb a,Q1,qh];congr 1;exact (Qb q0).symm
theorem qzv (b : qw) : q9s b = some (decide (vB b)):=by
  unfold q9s vB;simp only [qzu,qh];by_cases a : b.Lo.X < b.Hi.X
  · by_cases c : b.Lo.Y < b.Hi.Y
    · by_cases f : b.Lo.Z < b.Hi.Z
      · simp only [a,c,f,decide_true,Q2,qh,true_and];by_cases d : (-1000000≤b.Lo.X∧-1000000≤b.Lo.Y∧-1000000≤b.Lo.Z)∧b.Lo.X≤1000000∧b.Lo.Y≤1000000∧b.Lo.Z≤1000000
        · rw [Q9 d];simp only [Q2,qh];congr 1;exact decide_eq_decide.2 q0
        · rw [Qb d];simp only [Q1,qh];congr 1;exact (Qb q0).symm
      · simp [a,c,f]
    · simp [a,c]
  · simp [a]
theorem qzt (l : List qw) (m : l.length≤1000000) : q8s l (fun a=>q2v a) = some (decide (¬ ∀ r∈l,vB r)):=by
  have hs : ∀ (k : Nat) (h : k < l.length),q44 l (fun a=>q2v a) (k : Int) = some (if (fun r=>!decide (vB r)) l[k] = true then .inr (.inr (k : Int)) else .inl ((k + 1 : Nat) : Int)):=by
    intro k h;simp only [q44,dlt h,Q2,K5 h,qh,w64s h m,q2v,qzv];by_cases g : vB l[k] <;> simp [g]
  have hd : q44 l (fun a=>q2v a) (l.length : Int) = some (.inr (.inl ())):=by simp only [q44,dnl,Q1]
  unfold q8s qc4;rcases qat l (fun r=>!decide (vB r)) (fun k _=>(k : Int)) () _ hs hd with ⟨c,b⟩ | ⟨k,d,j,_,b⟩
  · rw [b];have : ∀ r∈l,vB r:=fun r f=>by simpa using c r f
    simp [];omega
  · rw [b];have : ¬ ∀ r∈l,vB r:=fun h=>by simp [h _ (Y5 d)] at j
    simp only [qh];rw [Q9 this,Q9 q0]
theorem qm6 (s : Mg qk qw) (a b : Int) (c : List qk) (hl : (s.flat putB).length + c.length≤1000000) :
    q6w (s.flat putB) s.sec (s.done.length : Int) s.hi a b c = some ((addM putB s a b c).sec,((addM putB s a b c).done.length : Int),(addM putB s a b c).hi,(addM putB s a b c).flat putB):=by
  have u : (s.flat putB).length = s.done.length + s.sec.length:=by simp [Mg.flat]
  have d : s.sec.length≤1000000:=by omega
  unfold q6w;rcases q7d putB s a b c with ⟨q,r,t,m⟩ | ⟨q,m⟩
  · have hb : decide ((c.length : Int) > 0) = true:=Q9 (by have:=List.length_pos_iff.2 q;omega);have w : (s.hi == a) = true:=by simpa using t
    rw [r] at hb;rw [m,r];simp only [hb,Q2,w,qh,qdt _ _ d,decide_true]
    have:=qi7 (fun v : qw=>({Lo:=v.Lo,Hi:=({X:=v.Hi.X,Y:=v.Hi.Y,Z:=b} : qm)} : qw)) s.done (s.sec.map (putB s.lo s.hi)) (by simp;omega) (q6x b) (fun k o f y=>by
      have l : (s.done ++ s.sec.map (putB s.lo s.hi)).length = (s.flat putB).length:=rfl
      simp only [q6x,dlt f,Q2,K5 f,qh,w64s f q0,Int.toNat_natCast]) (fun o=>by simp only [q6x,dnl,Q1])
    rw [show s.flat putB = s.done ++ s.sec.map (putB s.lo s.hi) from rfl,this];simp only [qh,Mg.flat,List.map_map];rfl
  · rw [m]
    have x : ((cond (decide ((c.length : Int) > 0)) (some (s.hi == a)) (some false)).bind fun j=>(cond j ((q5w s.sec c).bind fun g=>some g) (some false))) = some false:=by
      by_cases l : c = []
      · subst l;simp
      · have hb : decide ((c.length : Int) > 0) = true:=Q9 (by have:=List.length_pos_iff.2 l;omega);simp only [hb,Q2,qh,qdt _ _ d];by_cases p : s.hi = a
        · have z : s.sec≠c:=fun h=>q ⟨l,h.symm,p⟩;simp [p,z]
        · have : (s.hi == a) = false:=by simpa using p
          simp [this]
    have n:=qjq c (putB a b) (s.flat putB) (fun o=>(c,((s.flat putB).length : Int),b,o)) (q6y c a b (s.flat putB)) (fun k f o y=>by
      simp only [q6y,dlt f,Q2,K5 f,qh,w64s f q0];rw [Z7 (by simp;omega)]
      rfl) (fun o=>by simp only [q6y,dnl,Q1])
    rw [← Option.bind_assoc,x];simp only [qh,Q1,n];simp [Mg.flat]
theorem qga (l : List qw) (o : List Int) (g : l.length≤400) (f : o.length≤10000) : loop (q1q l) (0,o) = some (o ++ zsOf l):=
  q7c l q0 (fun r=>[r.Lo.Z,r.Hi.Z]) o (fun o=>o) (q1q l) (fun k b c a=>by
    have d : c.length = o.length + 2 * k:=by
      rw [a,List.length_append];have:=q33 (l.take k);rw [List.length_take,Nat.min_eq_left q0] at this;unfold zsOf at this;omega
    simp only [q1q,dlt b,Q2,K5 b,qh,w64s b q0]
    rw [Z7 (by simp;omega)]
    rfl) (fun o=>by simp only [q1q,dnl,Q1])
theorem q4r (l : List qw) (g : l.length≤400) (x : Int) : loop (q1r l x) (0,[]) = some (atB l x):=by
  have:=q7c l q0 (fun r=>if covB x r = true then [Jk r] else []) [] (fun o=>o) (q1r l x) (fun k b o d=>by
    have f : o.length≤k:=by rw [d,List.nil_append];have:=q4q (l.take k) x;rw [List.length_take,Nat.min_eq_left q0] at this;exact this
    simp only [q1r,dlt b,Q2,K5 b,qh,w64s b q0];by_cases a : l[k].Lo.Z≤x
    · by_cases c : x < l[k].Hi.Z
      · simp only [a,c,decide_true,Q2,qh,covB,Bool.and_self,if_true];rw [Z7 (by simp;omega)];rfl
      · simp only [a,c,decide_true,decide_false,Q2,Q1,qh,covB,Bool.and_false,if_false,Bool.false_eq_true,List.append_nil]
    · simp only [a,decide_false,Q1,qh,covB,Bool.false_and,if_false,Bool.false_eq_true,List.append_nil]) (fun o=>by simp only [q1r,dnl,Q1])
  rw [List.nil_append] at this;exact this
theorem qlu {kind : Int} {p q : List qw} {xs : List Int} (ad : K2 (zsOf p ++ zsOf q) = xs) (h : p.length + q.length≤800) (F : Int × List qk × Int × Int × List qw→Option ((Int × List qk × Int × Int × List qw) ⊕ ((List qk × Int × Int × List qw) ⊕ (List qw × Int))))
    (aa : ∀ (a b : Int) (k : Nat) (s : Mg qk qw),(s.flat putB).length + 400≤1000000→(h1 : k + 1 < xs.length)→a = xs[k]'(q0)→b = xs[k + 1]'h1→(secB kind p q a).length≤400→
      F (((k + 1 : Nat) : Int),s.sec,(s.done.length : Int),s.hi,s.flat putB) = some (.inl (((k + 1 + 1 : Nat) : Int),(addM putB s a b (secB kind p q a)).sec,((addM putB s a b (secB kind p q a)).done.length : Int),(addM putB s a b (secB kind p q a)).hi,(addM putB s a b (secB kind p q a)).flat putB)))
    (v : ∀ (a : Int) (k : Nat) (s : Mg qk qw),(h1 : k + 1 < xs.length)→a = xs[k]'(q0)→400 < (secB kind p q a).length→
      F (((k + 1 : Nat) : Int),s.sec,(s.done.length : Int),s.hi,s.flat putB) = some (.inr (.inr ([],4))))
    (z : ∀ (k : Nat) (s : Mg qk qw),xs.length≤k + 1→F (((k + 1 : Nat) : Int),s.sec,(s.done.length : Int),s.hi,s.flat putB) = some (.inr (.inl (s.sec,(s.done.length : Int),s.hi,s.flat putB)))) :
    (∃ a b c,loop F (1,[],0,0,[]) = some (.inl (a,b,c,mrgB kind p q)))∨(400 < (mrgB kind p q).length∧loop F (1,[],0,0,[]) = some (.inr ([],4))):=by
  have aj:=q33 p;have ao:=q33 q;obtain ⟨_,ab,d⟩:=q11 (l:=zsOf p ++ zsOf q) (by simp;omega);have d : (K2 (zsOf p ++ zsOf q)).length≤1600:=by simp at d;omega
  have m : ∀ x,(secB kind p q x).length≤(mrgB kind p q).length:=fun x=>qw6 kind q0 x;have ae : mrgB kind p q = (K7 putB K6 (Z5 (K2 (zsOf p ++ zsOf q)) (secB kind p q))).flat putB:=rfl;rw [ae] at m ⊢;rw [ad] at ab d m ⊢;generalize w : Z5 xs (secB kind p q) = steps at m ⊢;have an : steps.length = xs.length - 1:=by rw [← w];exact qcf _ _
  have u : ∀ k (g : k < steps.length),steps[k] = (xs[k]'(q0),xs[k + 1]'(q0),secB kind p q (xs[k]'(q0))):=fun k g=>by subst w;exact qg0 g q0
  have ag : ∀ k,k≤steps.length→(∀ j,j < k→∀ t,steps[j]? = some t→t.2.2.length≤400)→((K7 putB K6 (steps.take k)).flat putB).length≤1600 * 400:=fun k g n=>by
    have h1:=qe1 putB (s0:=K6) (M:=400) (steps:=steps.take k) (fun t r=>by
      obtain ⟨i,hi,rfl⟩:=List.getElem_of_mem r;rw [List.length_take] at hi;rw [List.getElem_take]
      exact n i q0 _ (List.getElem?_eq_getElem q0))
    have y : (steps.take k).length≤1600:=by rw [List.length_take];omega
    have h3 : (K6.flat putB : List qw).length = 0:=rfl;have h4 : (steps.take k).length * 400≤1600 * 400:=Nat.mul_le_mul_right _ y;omega
  have main:=qjo (f:=F) (fun k=>(((k + 1 : Nat) : Int),(K7 putB K6 (steps.take k)).sec,((K7 putB K6 (steps.take k)).done.length : Int),(K7 putB K6 (steps.take k)).hi,(K7 putB K6 (steps.take k)).flat putB))
    steps.length (fun j=>∀ t,steps[j]? = some t→t.2.2.length≤400) (.inl ((K7 putB K6 steps).sec,((K7 putB K6 steps).done.length : Int),(K7 putB K6 steps).hi,(K7 putB K6 steps).flat putB)) (.inr ([],4))
    (fun k g n=>by
      have o : k + 1 < xs.length:=by omega
      have hc:=n k (Nat.le_refl _) _ (List.getElem?_eq_getElem g);have hm:=ag k q0 fun j am=>n j q0;rw [qe2 putB g,u k g] at *;simp only at hc
      exact aa _ _ k (K7 putB K6 (steps.take k)) q0 o rfl rfl hc)
    (fun k g n hb=>by
      have o : k + 1 < xs.length:=by omega
      have ai : k < xs.length:=by omega
      refine v _ k (K7 putB K6 (steps.take k)) o rfl ?_;refine Nat.lt_of_not_le fun h=>hb fun t r=>?_;rw [List.getElem?_eq_getElem g,u k g] at r
      cases r;exact h)
    (fun _=>by
      rw [List.take_length]
      exact z steps.length _ q0)
  have af : ((((0 + 1 : Nat) : Int),(K7 putB K6 (steps.take 0)).sec,((K7 putB K6 (steps.take 0)).done.length : Int),(K7 putB K6 (steps.take 0)).hi,(K7 putB K6 (steps.take 0)).flat putB) : Int × List qk × Int × Int × List qw) = (1,[],0,0,[]):=rfl;rw [af] at main;rcases main with ⟨_,y⟩ | ⟨j,n,hb,y⟩
  · exact .inl ⟨_,_,_,y⟩
  · refine .inr ⟨?_,y⟩;have ak : j < xs.length:=by omega
    have h5 : 400 < (secB kind p q xs[j]).length:=by
      refine Nat.lt_of_not_le fun h=>hb fun t r=>?_;rw [List.getElem?_eq_getElem n,u j n] at r;cases r;exact h
    exact Nat.lt_of_lt_of_le h5 (m xs[j])
theorem quy (l : List qw) (t : l.length≤400) (x : ∀ b∈l,vB b) : q9u l = some (if 400 < (mrgB 2 l []).length then ([],4) else (mrgB 2 l [],0)):=by
  unfold q9u;have w:=q33 l;simp only [show idx [l] 0 = some l from rfl,qh,qga l [] t qe,List.nil_append];rw [qfy _ q0];simp only [qh];have n : zsOf l = zsOf l ++ zsOf []:=by simp [zsOf]
  obtain ⟨_,y,d⟩:=q11 (l:=zsOf l ++ zsOf []) (by rw [← n];omega);have d : (K2 (zsOf l ++ zsOf [])).length≤800:=by rw [← n] at d ⊢;omega
  have h : ∀ z,q1k (atB l z) = some (if 400 < (secB 2 l [] z).length then ([],4) else (secB 2 l [] z,0)):=fun z=>by
    have:=q4q l z;rw [ql0,mkR,qx q0,qs (qmx x z)];rfl
  rw [n]
  have:=qlu (kind:=2) (p:=l) (q:=[]) rfl (by simp;omega) (q4f (K2 (zsOf l ++ zsOf [])) l)
    (fun a b k s hs f r hb u=>by
      have h0 : k < (K2 (zsOf l ++ zsOf [])).length:=by omega
      have m : idx (K2 (zsOf l ++ zsOf [])) (w64 (((k + 1 : Nat) : Int) - 1)) = some a:=by rw [Q5 q0,r];exact Zr q0 q0
      have v : idx (K2 (zsOf l ++ zsOf [])) ((k + 1 : Nat) : Int) = some b:=by rw [hb];exact K5 f
      have g:=h a;rw [qx q0] at g;simp only [q4f,dlt f,Q2,m,v,qh,show idx [l] 0 = some l from rfl,q4r l t,g,show ((0 : Int) != 0) = false from rfl,Q1,qm6 s a b (secB 2 l [] a) q0]
      rw [w64s f q0])
    (fun a k s f r u=>by
      have m : idx (K2 (zsOf l ++ zsOf [])) (w64 (((k + 1 : Nat) : Int) - 1)) = some a:=by rw [Q5 q0,r];exact Zr q0 q0
      have g:=h a;rw [qs u] at g
      simp only [q4f,dlt f,Q2,m,K5 f,qh,show idx [l] 0 = some l from rfl,q4r l t,g,show ((4 : Int) != 0) = true from rfl])
    (fun k s f=>by
      have : decide (((k + 1 : Nat) : Int) < ((K2 (zsOf l ++ zsOf [])).length : Int)) = false:=Qb q0
      simp only [q4f,this,Q1])
  rcases this with ⟨a,b,c,o⟩ | ⟨j,o⟩
  · rw [o];simp only [qh];by_cases j : 400 < (mrgB 2 l []).length
    · rw [Q9 (by omega : ((mrgB 2 l []).length : Int) > 400),qs j];rfl
    · rw [Qb (by omega : ¬ ((mrgB 2 l []).length : Int) > 400),qx j];rfl
  · rw [o,qs j];rfl
theorem qps (p q : List qw) (a : p.length≤1000000) : qbz p q = some (decide (p = q)):=sameBox p q a
theorem qzo (l : List qw) : q6v l = some (Yf l):=by
  unfold q6v Yf;by_cases c : 400 < l.length
  · rw [Q9 (by omega : (l.length : Int) > 400),Q2,qs c]
  rw [Qb (by omega : ¬ (l.length : Int) > 400),Q1,qx c,qzt l q0,qh];by_cases a : ∀ r∈l,vB r
  · rw [Qb (fun h=>h a),Q1,quy l q0 a,qs a,qh];by_cases b : 400 < (mrgB 2 l []).length
    · have d : mrgB 2 l []≠l:=fun h=>by rw [h] at b;exact c b
      rw [qs b,qx d];rfl
    · rw [qx b];simp only [qps (mrgB 2 l []) l q0];by_cases f : mrgB 2 l [] = l <;> simp [f]
  · rw [Q9 a,Q2,qx a]
end Go.Sh
namespace Go.Sh
open Go Go.Am
theorem sj1 : qc8 = q1q:=rfl
theorem sj2 : qc9 = q1q:=rfl
theorem sj4 : qca = q1r:=rfl
theorem sj5 : qcb = q1r:=rfl
theorem qdd {p : List qw} (h : Yf p = 0) (z : Int) : Yj (atB p z) = 0:=by
  obtain ⟨c,b,a⟩:=q3c.1 h;have:=q4q p z;exact q7i.2 ⟨q0,qmx b z,a.at z⟩
theorem qbc {p : List qw} (h : Yf p = 0) (z : Int) : q1k (atB p z) = some (atB p z,0):=by
  obtain ⟨c,b,a⟩:=q7i.1 (qdd h z);rw [ql0,mkR,qx q0,qs b,qk2 q0 a,qx q0]
theorem quz (kind : Int) (g : List qk→List qk→Option (List qk × Int)) (x : ∀ a b,g a b = some (jR kind a b)) (p q : List qw) (hp : Yf p = 0) (m : Yf q = 0) :
    q9t g p q = some (if 400 < (mrgB kind p q).length then ([],4) else (mrgB kind p q,0)):=by
  obtain ⟨t,vp,cp⟩:=q3c.1 hp;obtain ⟨n,vq,cq⟩:=q3c.1 m;unfold q9t;have y:=q33 p;have ab:=q33 q;simp only [show idx [p,q] 0 = some p from rfl,show idx [p,q] 1 = some q from rfl,qh,sj1,sj2,qga p [] t qe,List.nil_append,qga q (zsOf p) n q0];rw [qfy _ (by simp;omega)];simp only [qh];obtain ⟨_,aa,d⟩:=q11 (l:=zsOf p ++ zsOf q) (by simp;omega);have d : (K2 (zsOf p ++ zsOf q)).length≤1600:=by simp at d;omega
  have w : ∀ z,g (atB p z) (atB q z) = some (if 400 < (secB kind p q z).length then ([],4) else (secB kind p q z,0)):=fun z=>by
    rw [x,jR,qx (by simp [qdd hp z]),qx (by simp [qdd m z])];rfl
  have:=qlu (kind:=kind) (p:=p) (q:=q) rfl q0 (q4e (K2 (zsOf p ++ zsOf q)) p q g)
    (fun a b k s hs f u hb v=>by
      have h0 : k < (K2 (zsOf p ++ zsOf q)).length:=by omega
      have r : idx (K2 (zsOf p ++ zsOf q)) (w64 (((k + 1 : Nat) : Int) - 1)) = some a:=by rw [Q5 q0,u];exact Zr q0 q0
      have i2 : idx (K2 (zsOf p ++ zsOf q)) ((k + 1 : Nat) : Int) = some b:=by rw [hb];exact K5 f
      have h:=w a;rw [qx q0] at h;simp only [q4e,dlt f,Q2,r,i2,qh,show idx [p,q] 0 = some p from rfl,show idx [p,q] 1 = some q from rfl,sj4,sj5,q4r p t,q4r q n,qbc hp,qbc m,show ((0 : Int) == 0) = true from rfl,h,show ((0 : Int) != 0) = false from rfl,Q1,qm6 s a b (secB kind p q a) q0]
      rw [w64s f q0])
    (fun a k s f u v=>by
      have r : idx (K2 (zsOf p ++ zsOf q)) (w64 (((k + 1 : Nat) : Int) - 1)) = some a:=by rw [Q5 q0,u];exact Zr q0 q0
      have h:=w a;rw [qs v] at h
      simp only [q4e,dlt f,Q2,r,K5 f,qh,show idx [p,q] 0 = some p from rfl,show idx [p,q] 1 = some q from rfl,sj4,sj5,q4r p t,q4r q n,qbc hp,qbc m,show ((0 : Int) == 0) = true from rfl,h,show ((4 : Int) != 0) = true from rfl])
    (fun k s f=>by
      have : decide (((k + 1 : Nat) : Int) < ((K2 (zsOf p ++ zsOf q)).length : Int)) = false:=Qb q0
      simp only [q4e,this,Q1])
  rcases this with ⟨a,b,c,o⟩ | ⟨j,o⟩
  · rw [o];simp only [qh];by_cases j : 400 < (mrgB kind p q).length
    · rw [Q9 (by omega : ((mrgB kind p q).length : Int) > 400),qs j];rfl
    · rw [Qb (by omega : ¬ ((mrgB kind p q).length : Int) > 400),qx j];rfl
  · rw [o,qs j];rfl
theorem qjb (kind : Int) (g : List qk→List qk→Option (List qk × Int)) (d : ∀ a b,g a b = some (jR kind a b)) (p q : List qw) : q70 p q g = some (jB kind p q):=by
  unfold q70 jB;simp only [qzo,qh];by_cases hp : ¬ Yf p = 0
  · rw [qs hp];have : (Yf p != 0) = true:=by simpa using hp
    rw [this,Q2]
  replace hp:=Classical.not_not.1 hp;by_cases c : ¬ Yf q = 0
  · rw [qx (by simp [hp]),qs c,hp];have : (Yf q != 0) = true:=by simpa using c
    rw [this];rfl
  replace c:=Classical.not_not.1 c;rw [qx (by simp [hp]),qx (by simp [c]),quz kind g d p q hp c,hp,c];rfl
theorem qzr (p q : List qw) : q9r p q = some (jB 2 p q):=by
  unfold q9r;rw [qjb 2 _ (fun a b=>qua a b)];rfl
theorem qzp (p q : List qw) : q9q p q = some (jB 1 p q):=by
  unfold q9q;rw [qjb 1 _ (fun a b=>qu8 a b)];rfl
end Go.Sh
namespace Go.Sh
open Go Go.Am
noncomputable def ind (p : Prop) : Int:=by classical exact if p then 1 else 0
theorem qb5 {p : Prop} (h : ¬ p) : ind p = 0:=by unfold ind;simp [h]
theorem q7z {p q : Prop} (h : p↔q) : ind p = ind q:=by rw [propext h]
theorem qqx {p q : Prop} : ind (p∨q) = ind p + ind q - ind (p∧q):=by
  by_cases hp : p <;> by_cases a : q <;> simp [ind,hp,a]
def sumL {α : Type} (f : α→Int) : List α→Int
  | []=>0
  | a::r=>f a + sumL f r
theorem qmp {α : Type} (f : α→Int) (a b : List α) : sumL f (a ++ b) = sumL f a + sumL f b:=by
  induction a with
  | nil=>simp [sumL]
  | cons x a ih=>rw [List.cons_append,sumL,sumL,ih];omega
def inB (b : qw) (x y z : Int) : Prop:=(b.Lo.X≤x∧x < b.Hi.X)∧(b.Lo.Y≤y∧y < b.Hi.Y)∧(b.Lo.Z≤z∧z < b.Hi.Z)
def inR (r : qk) (x y : Int) : Prop:=(r.X0≤x∧x < r.X1)∧(r.Y0≤y∧y < r.Y1)
def inS (t : qi) (x : Int) : Prop:=t.Lo≤x∧x < t.Hi
noncomputable def cntS (s : List qi) (y : Int) : Int:=sumL (fun t=>ind (inS t y)) s
noncomputable def cntR (l : List qk) (x y : Int) : Int:=sumL (fun t=>ind (inR t x y)) l
noncomputable def cntB (l : List qw) (x y z : Int) : Int:=sumL (fun t=>ind (inB t x y z)) l
theorem qh8 : ∀ {s : List qi},Can s→∀ y,cntS s y = ind (has s y)
  | [],_,y=>by rw [qb5 (q1g y)];rfl
  | a::s,h,y=>by
    have b:=qh8 h.tail y
    unfold cntS at b ⊢
    rw [sumL,b,q7z (Zy (a:=a) (s:=s) (x:=y)),qqx]
    have : ¬ ((a.Lo≤y∧y < a.Hi)∧has s y):=fun ⟨c,h2⟩=>by have:=h.tail_gt h2;omega
    rw [qb5 this];unfold inS;omega
theorem qp1 (l : List qk) (x y : Int) : cntR l x y = cntS (covS l x) y:=by
  unfold cntR cntS
  induction l with
  | nil=>rfl
  | cons r l ih=>
    have e : covS (r::l) x = (if covR x r = true then [ysp r] else []) ++ covS l x:=rfl;rw [sumL,ih,e,qmp];congr 1;by_cases a : covR x r = true
    · rw [qs a];have:=q4u.1 a;simp only [sumL,Int.add_zero];exact q7z ⟨fun h=>h.2,fun h=>⟨this,h⟩⟩
    · rw [qx a];rw [q4u] at a;exact qb5 fun h=>a h.1
theorem qp0 (l : List qw) (x y z : Int) : cntB l x y z = cntR (atB l z) x y:=by
  unfold cntB cntR
  induction l with
  | nil=>rfl
  | cons r l ih=>
    have e : atB (r::l) z = (if covB z r = true then [Jk r] else []) ++ atB l z:=rfl;rw [sumL,ih,e,qmp];congr 1;by_cases a : covB z r = true
    · rw [qs a];have:=q21.1 a;simp only [sumL,Int.add_zero];exact q7z ⟨fun h=>⟨h.1,h.2.1⟩,fun h=>⟨h.1,h.2,this⟩⟩
    · rw [qx a];rw [q21] at a;exact qb5 fun h=>a h.2.2
theorem CanR.cnt {l : List qk} (h : CanR l) (x y : Int) : cntR l x y = ind (hasR l x y):=by
  rw [qp1,qh8 (h.cov x),q7z q54]
theorem CanB.cnt {l : List qw} (h : CanB l) (x y z : Int) : cntB l x y z = ind (hasB l x y z):=by
  rw [qp0,(h.at z).cnt,q7z q3m]
end Go.Sh
namespace Go.Sh
open Go Go.Am
theorem q7x {b : qw} {l : List qw} {x y z : Int} : hasB (b::l) x y z↔inB b x y z∨hasB l x y z:=by
  constructor
  · rintro ⟨c,a,h⟩;rcases List.mem_cons.1 a with rfl | a
    · exact .inl h
    · exact .inr ⟨c,a,h⟩
  · rintro (h | ⟨c,a,h⟩)
    · exact ⟨b,qe,h⟩
    · exact ⟨c,by simp [a],h⟩
instance (b : qw) (x y z : Int) : Decidable (inB b x y z):=by unfold inB;infer_instance
instance qpj : (l : List qw)→(x y z : Int)→Decidable (hasB l x y z)
  | [],x,y,z=>isFalse (q3l x y z)
  | b::l,x,y,z=>by
    have:=qpj l x y z
    exact decidable_of_iff _ q7x.symm
end Go.Sh
namespace Go.Sh
open Go Go.Am
def ltB (b : qw) : Prop:=b.Lo.X < b.Hi.X∧b.Lo.Y < b.Hi.Y∧b.Lo.Z < b.Hi.Z
end Go.Sh
namespace Go.Sh
open Go Go.Am
theorem q129 {n : Int} (h : (Lit.int .u8 n).wf = true) : 0≤n:=by
  simp [Lit.wf,IntKind.min,IntKind.max,IntKind.signed,IntKind.bits] at h;omega
abbrev V3:=qm × qm × qm
def zeroV : qm:=⟨0,0,0⟩
noncomputable def axT (t : Nat) : V3:=match q24 (t : Int) with
  | some m=>m
  | none=>(zeroV,zeroV,zeroV)
theorem qaw : ∀ t : Nat,t < 24→q24 (t : Int) = some (axT t):=by decide +kernel
def Zn (v : qm) : Prop:=-1≤v.X∧v.X≤1∧-1≤v.Y∧v.Y≤1∧-1≤v.Z∧v.Z≤1
instance (v : qm) : Decidable (Zn v):=by unfold Zn;infer_instance
theorem qd3 : ∀ t : Nat,t < 24→Zn (axT t).1∧Zn (axT t).2.1∧Zn (axT t).2.2:=by decide +kernel
theorem qns : ∀ t : Nat,t < 24→∀ u : Nat,u < 24→axT t = axT u→t = u:=by decide +kernel
def mulV (m : V3) (v : qm) : qm:=⟨v.X * m.1.X + v.Y * m.2.1.X + v.Z * m.2.2.X,v.X * m.1.Y + v.Y * m.2.1.Y + v.Z * m.2.2.Y,v.X * m.1.Z + v.Y * m.2.1.Z + v.Z * m.2.2.Z⟩
def addV (a b : qm) : qm:=⟨a.X + b.X,a.Y + b.Y,a.Z + b.Z⟩
def Zg (v : qm) (n : Int) : Prop:=-n≤v.X∧v.X≤n∧-n≤v.Y∧v.Y≤n∧-n≤v.Z∧v.Z≤n
theorem qry {a b : Int} {n : Int} (c : -n≤a∧a≤n) (hb : -1≤b∧b≤1) : -n≤a * b∧a * b≤n:=by
  have : b = -1∨b = 0∨b = 1:=by omega
  rcases this with rfl | rfl | rfl <;> simp <;> omega
theorem qk3 {m : V3} {v : qm} {n : Int} (c : Zn m.1∧Zn m.2.1∧Zn m.2.2) (d : Zg v n) :
    (∀ a∈[v.X * m.1.X,v.Y * m.2.1.X,v.Z * m.2.2.X,v.X * m.1.Y,v.Y * m.2.1.Y,v.Z * m.2.2.Y,v.X * m.1.Z,v.Y * m.2.1.Z,v.Z * m.2.2.Z],-n≤a∧a≤n):=by
  obtain ⟨⟨a1,w,t,l,p,f⟩,⟨b1,h,g,z,q,j⟩,⟨c1,c2,c3,c4,c5,o⟩⟩:=c;obtain ⟨s,x,r,y,u,k⟩:=d;intro a b;simp only [List.mem_cons,List.not_mem_nil,or_false] at b;rcases b with rfl | rfl | rfl | rfl | rfl | rfl | rfl | rfl | rfl <;> exact qry ⟨by assumption,by assumption⟩ ⟨by assumption,by assumption⟩
theorem qrw {m : V3} {v : qm} {n : Int} (a : Zn m.1∧Zn m.2.1∧Zn m.2.2) (c : Zg v n) : Zg (mulV m v) (3 * n):=by
  have b:=qk3 a c;simp only [List.mem_cons,List.not_mem_nil,or_false,forall_eq_or_imp,forall_eq] at b;unfold Zg mulV;simp only;omega
theorem qb0 {m : V3} {v : qm} (a : Zn m.1∧Zn m.2.1∧Zn m.2.2) (c : Zg v 1000000000000) : q51 m v = some (mulV m v):=by
  have b:=qk3 a c;simp only [List.mem_cons,List.not_mem_nil,or_false,forall_eq_or_imp,forall_eq] at b;unfold q51 mulV;congr 2
  · rw [Q5 (x:=v.X * m.1.X) q0,Q5 (x:=v.Y * m.2.1.X) q0,Q5 (x:=v.Z * m.2.2.X) q0,Q5 (x:=v.X * m.1.X + _) q0,Q5 q0]
  · rw [Q5 (x:=v.X * m.1.Y) q0,Q5 (x:=v.Y * m.2.1.Y) q0,Q5 (x:=v.Z * m.2.2.Y) q0,Q5 (x:=v.X * m.1.Y + _) q0,Q5 q0]
  · rw [Q5 (x:=v.X * m.1.Z) q0,Q5 (x:=v.Y * m.2.1.Z) q0,Q5 (x:=v.Z * m.2.2.Z) q0,Q5 (x:=v.X * m.1.Z + _) q0,Q5 q0]
noncomputable def Qv (t : Nat) (at_ v : qm) : qm:=addV (mulV (axT t) v) at_
theorem qio {f : Ki} {t : Nat} {v : qm} (d : f.Turn = t) (h : t < 24) (g : Zg f.At 1000000000000) (a : Zg v 1000000000000) : q3i f v = some (Qv t f.At v):=by
  have c:=qd3 t h;unfold q3i;rw [d,qaw t h];simp only [qh,qb0 c a];have b:=qrw c a;unfold Zg at b g;unfold Qv addV;rw [Q5 q0,Q5 q0,Q5 q0]
theorem qrz {u : Nat} (h : u < 24) : q7v (axT u) = some (u : Int):=by
  have key:=Yg (f:=q50 (axT u)) (σ:=Unit) (fun k _=>(k : Int)) 24 (fun k _=>k≤u) (fun b=>b = .inr (u : Int)) ?_ ?_ (k0:=0) (c0:=()) q0 q0
  · obtain ⟨b,g,rfl⟩:=key;have g : loop (q50 (axT u)) 0 = some (.inr (u : Int)):=g;unfold q7v;rw [g];rfl
  · intro k _ l m;have hb : decide ((k : Int) < 24) = true:=Q9 q0;simp only [q50,hb,Q2,qaw k l,qh];by_cases e : k = u
    · subst e;exact .inr ⟨.inr (k : Int),qe,rfl⟩
    · have j : axT k≠axT u:=fun n=>e (qns k l u h n);refine .inl ⟨(),?_,q0⟩
      have o : IntKind.u8.wrap ((k : Int) + 1) = ((k + 1 : Nat) : Int):=by
        simp [IntKind.wrap,IntKind.bits,IntKind.signed];omega
      have c : ((axT k).1.X == (axT u).1.X && ((axT k).1.Y == (axT u).1.Y && ((axT k).1.Z == (axT u).1.Z && ((axT k).2.1.X == (axT u).2.1.X && ((axT k).2.1.Y == (axT u).2.1.Y && ((axT k).2.1.Z == (axT u).2.1.Z && ((axT k).2.2.X == (axT u).2.2.X && ((axT k).2.2.Y == (axT u).2.2.Y && ((axT k).2.2.Z == (axT u).2.2.Z && true))))))))) = false:=by
        rw [Bool.eq_false_iff];intro d;simp only [Bool.and_eq_true,beq_iff_eq] at d;apply j;generalize axT k = a at d ⊢;generalize axT u = b at d ⊢;obtain ⟨⟨a1,a2,a3⟩,⟨x,z,p⟩,⟨w,a8,y⟩⟩:=a;obtain ⟨⟨b1,t,q⟩,⟨b4,b5,v⟩,⟨b7,s,r⟩⟩:=b;simp only at d;obtain ⟨rfl,rfl,rfl,rfl,rfl,rfl,rfl,rfl,rfl,_⟩:=d;rfl
      rw [c,o];rfl
  · intro _ hi;omega
def qhf (n m : V3) : V3:=(mulV n m.1,mulV n m.2.1,mulV n m.2.2)
noncomputable def U5 (t u : Nat) : Nat:=match (List.range 24).find? (fun v=>decide (axT v = qhf (axT u) (axT t))) with
  | some v=>v
  | none=>0
theorem qp2 : ∀ t : Nat,t < 24→∀ u : Nat,u < 24→U5 t u < 24∧axT (U5 t u) = qhf (axT u) (axT t):=by decide +kernel
theorem qp3 : ∀ u : Nat,u < 24→U5 0 u = u:=by decide +kernel
theorem qg3 {v : qm} (h : Zn v) : Zg v 1000000000000:=by unfold Zn at h;unfold Zg;omega
theorem q11k {f g : Ki} {t u : Nat} (m : f.Turn = t) (c : g.Turn = u) (h : t < 24) (a : u < 24) (p : Zg f.At 1000000000000) (d : Zg g.At 1000000000000) : q7w f g = some ⟨(U5 t u : Nat),Qv u g.At f.At⟩:=by
  have b:=qd3 u a;obtain ⟨b1,k,j⟩:=qd3 t h;unfold q7w;rw [m,c,qaw t h,qaw u a];simp only [qh];have n:=qb0 b (qg3 b1);have l:=qb0 b (qg3 k);have o:=qb0 b (qg3 j)
  have key : loop (q26 (axT u)) (0,[(axT t).1,(axT t).2.1,(axT t).2.2]) = some [mulV (axT u) (axT t).1,mulV (axT u) (axT t).2.1,mulV (axT u) (axT t).2.2]:=by
    rw [Ke (a':=((1 : Int),[mulV (axT u) (axT t).1,(axT t).2.1,(axT t).2.2])) (by simp [q26,idxA,n,Q5])];rw [Ke (a':=((2 : Int),[mulV (axT u) (axT t).1,mulV (axT u) (axT t).2.1,(axT t).2.2])) (by simp [q26,idxA,l,Q5])];rw [Ke (a':=((3 : Int),[mulV (axT u) (axT t).1,mulV (axT u) (axT t).2.1,mulV (axT u) (axT t).2.2])) (by simp [q26,idxA,o,Q5])];exact Kg (by simp [q26])
  rw [key];simp only [qh,arr3];obtain ⟨c1,c2⟩:=qp2 t h u a;have : (mulV (axT u) (axT t).1,mulV (axT u) (axT t).2.1,mulV (axT u) (axT t).2.2) = axT (U5 t u):=c2.symm;rw [this,qrz c1,qio c a d p];rfl
def InV (v : qm) (lo : Int) : Prop:=lo≤v.X∧v.X≤1000000∧lo≤v.Y∧v.Y≤1000000∧lo≤v.Z∧v.Z≤1000000
instance (v : qm) (lo : Int) : Decidable (InV v lo):=by unfold InV;infer_instance
theorem qas (v : qm) (lo : Int) : q25 v lo = some (decide (InV v lo)):=by
  unfold q25;by_cases a : min (min v.X v.Y) v.Z ≥ lo
  · by_cases b : max (max v.X v.Y) v.Z≤1000000
    · have : InV v lo:=by unfold InV;omega
      simp only [Q9 a,Q9 b,Q9 this,Q2,qh]
    · have : ¬ InV v lo:=by unfold InV;omega
      simp only [Q9 a,Qb b,Qb this,Q2,qh]
  · have : ¬ InV v lo:=by unfold InV;omega
    simp only [Qb a,Qb this,Q1,qh]
theorem qgc (v : qm) (lo : Int) : q5g v lo = some (decide (InV v lo)):=by
  unfold q5g InV;by_cases a : v.X ≥ lo <;> by_cases b : v.Y ≥ lo <;> by_cases c : v.Z ≥ lo <;> by_cases d : v.X≤1000000 <;> by_cases e : v.Y≤1000000 <;> by_cases f : v.Z≤1000000 <;> simp [a,b,c,d,e,f] <;> omega
def FOk (f : Ki) : Prop:=f.Turn < 24∧InV f.At (-1000000)
instance (f : Ki) : Decidable (FOk f):=by unfold FOk;infer_instance
def SOk (s : Kb) : Prop:=FOk s.Frame∧InV s.Size 0
instance (s : Kb) : Decidable (SOk s):=by unfold SOk;infer_instance
theorem qak {P Q : Prop} [Decidable P] [Decidable Q] {R : Prop} [Decidable R] (h : R↔P∧Q) : ((cond (decide (¬ P)) (some true) ((some (decide Q)).bind fun a=>some (!a))).bind fun c3=>cond c3 (some (8 : Int)) (some 0)) = some (if R then 0 else 8):=by
  by_cases p : P <;> by_cases q : Q <;> simp [p,q,h]
theorem q7s (f : Ki) : q15 f = some (if FOk f then 0 else 8):=by
  unfold q15;rw [qas];have e : decide (f.Turn ≥ 24) = decide (¬ f.Turn < 24):=by rw [decide_eq_decide];omega
  rw [e];exact qak Iff.rfl
theorem qtx (f : Ki) : q8f f = some (if FOk f then 0 else 8):=by
  unfold q8f;rw [qgc];have e : decide (f.Turn ≥ 24) = decide (¬ f.Turn < 24):=by rw [decide_eq_decide];omega
  rw [e];exact qak Iff.rfl
theorem qk4 {P : Prop} [Decidable P] {a : Int} (h : a≠0) : ((if P then (0 : Int) else a) != 0) = decide (¬ P):=by
  by_cases p : P <;> simp [p,h]
theorem qdv (s : Kb) : q4z s = some (if SOk s then 0 else 8):=by
  unfold q4z;rw [q7s,qas];simp only [qh,qk4 (show (8 : Int)≠0 by omega)];exact qak Iff.rfl
theorem qna (s : Kb) : q8g s = some (if SOk s then 0 else 8):=by
  unfold q8g;rw [qtx,qgc];simp only [qh,qk4 (show (8 : Int)≠0 by omega)];exact qak Iff.rfl
theorem qeg {v : qm} {lo : Int} (h : InV v lo) (a : -1000000≤lo) : Zg v 1000000000000:=by unfold InV at h;unfold Zg;omega
def q11q : Ki:=⟨0,⟨0,0,0⟩⟩
def qn6 : Kb:=⟨⟨0,⟨0,0,0⟩⟩,⟨0,0,0⟩⟩
theorem qnc {f g : Ki} {t u : Nat} (k : f.Turn = t) (l : g.Turn = u) (b : FOk f) (a : FOk g) :
    q7u f g = some (if FOk ⟨(U5 t u : Nat),Qv u g.At f.At⟩ then (⟨(U5 t u : Nat),Qv u g.At f.At⟩,0) else (q11q,16)):=by
  unfold q7u;rw [q7s,q7s,qs b,qs a];have j : ((0 : Int) != 0) = false:=rfl;simp only [qh,j,Q1];have d : t < 24:=by have:=b.1;omega
  have c : u < 24:=by have:=a.1;omega
  rw [q11k k l d c (qeg b.2 q0) (qeg a.2 q0)];simp only [qh,q7s];by_cases h : FOk ⟨(U5 t u : Nat),Qv u g.At f.At⟩
  · simp only [qs h];rfl
  · simp only [qx h];rfl
theorem qn8 {s : Kb} {a z : qm} {t u : Nat} (k : s.Frame.Turn = u) (hs : SOk s) (c : t < 24) (j : InV a (-1000000)) (d : InV z 0) :
    q23 s a z (t : Int) = some (if FOk ⟨(U5 t u : Nat),Qv u s.Frame.At a⟩ then (⟨⟨(U5 t u : Nat),Qv u s.Frame.At a⟩,z⟩,0) else (qn6,16)):=by
  unfold q23;have b : FOk ⟨(t : Int),a⟩:=⟨by show (t : Int) < 24;omega,j⟩
  rw [qdv,qs hs,q7s,qs b,qas,Q9 d];have g : ((0 : Int) != 0) = false:=rfl;simp only [qh,g,Q1,Bool.not_true];rw [qnc (f:=⟨(t : Int),a⟩) rfl k b hs.1];by_cases h : FOk ⟨(U5 t u : Nat),Qv u s.Frame.At a⟩
  · simp only [qs h];rfl
  · simp only [qx h];rfl
theorem qj6 (u : Nat) (a : qm) : Qv u a ⟨0,0,0⟩ = a:=by
  unfold Qv addV mulV;simp
end Go.Sh
namespace Go.Sh
open Go Go.Am
def rowOk (a b c : Int) : Prop:=(a = 1∧b = 0∧c = 0)∨(a = -1∧b = 0∧c = 0)∨(a = 0∧b = 1∧c = 0)∨(a = 0∧b = -1∧c = 0)∨(a = 0∧b = 0∧c = 1)∨(a = 0∧b = 0∧c = -1)
instance (a b c : Int) : Decidable (rowOk a b c):=by unfold rowOk;infer_instance
theorem qnt : ∀ t : Nat,t < 24→rowOk (axT t).1.X (axT t).2.1.X (axT t).2.2.X∧rowOk (axT t).1.Y (axT t).2.1.Y (axT t).2.2.Y∧rowOk (axT t).1.Z (axT t).2.1.Z (axT t).2.2.Z:=by decide +kernel
theorem qfm {a b c x y z u v w : Int} (h : rowOk a b c) (d : x < u) (f : y < v) (g : z < w) : x * a + y * b + z * c≠u * a + v * b + w * c:=by
  rcases h with ⟨rfl,rfl,rfl⟩ | ⟨rfl,rfl,rfl⟩ | ⟨rfl,rfl,rfl⟩ | ⟨rfl,rfl,rfl⟩ | ⟨rfl,rfl,rfl⟩ | ⟨rfl,rfl,rfl⟩ <;> omega
def q9v (p q : qm) : qw:={Lo:=({X:=min p.X q.X,Y:=min p.Y q.Y,Z:=min p.Z q.Z} : qm),Hi:=({X:=max p.X q.X,Y:=max p.Y q.Y,Z:=max p.Z q.Z} : qm)}
noncomputable def qbh (t : Nat) (at_ : qm) (b : qw) : qw:=q9v (Qv t at_ b.Lo) (Qv t at_ b.Hi)
theorem qtq {t : Nat} (h : t < 24) (at_ : qm) {b : qw} (hb : ltB b) : (Qv t at_ b.Lo).X≠(Qv t at_ b.Hi).X∧(Qv t at_ b.Lo).Y≠(Qv t at_ b.Hi).Y∧(Qv t at_ b.Lo).Z≠(Qv t at_ b.Hi).Z:=by
  obtain ⟨a,d,c⟩:=qnt t h;unfold Qv addV mulV;have g:=qfm a hb.1 hb.2.1 hb.2.2;have f:=qfm d hb.1 hb.2.1 hb.2.2;have j:=qfm c hb.1 hb.2.1 hb.2.2;simp only;omega
theorem q11e {t : Nat} (h : t < 24) (at_ : qm) {b : qw} (hb : ltB b) : vB (qbh t at_ b)↔InV (Qv t at_ b.Lo) (-1000000)∧InV (Qv t at_ b.Hi) (-1000000):=by
  obtain ⟨c,d,a⟩:=qtq h at_ hb;unfold qbh q9v vB InV;simp only;omega
noncomputable def place (l : List qw) (f : Ki) : List qw × Int:=
  if Yf l≠0 then ([],Yf l) else if ¬ FOk f then ([],8) else if ∀ b∈l,vB (qbh f.Turn.toNat f.At b) then mkB (l.map (qbh f.Turn.toNat f.At)) else ([],16)
end Go.Sh
namespace Go.Sh
open Go Go.Am
end Go.Sh
namespace Go.Sh
open Go Go.Am
def grpR : List qk→List (Grp qi)
  | []=>[]
  | r::l=>match grpR l with
    | g::gs=>if g.lo = r.X0∧g.hi = r.X1 then ⟨g.lo,g.hi,ysp r::g.sec⟩::gs else ⟨r.X0,r.X1,[ysp r]⟩::g::gs
    | []=>[⟨r.X0,r.X1,[ysp r]⟩]
def grpB : List qw→List (Grp qk)
  | []=>[]
  | r::l=>match grpB l with
    | g::gs=>if g.lo = r.Lo.Z∧g.hi = r.Hi.Z then ⟨g.lo,g.hi,Jk r::g.sec⟩::gs else ⟨r.Lo.Z,r.Hi.Z,[Jk r]⟩::g::gs
    | []=>[⟨r.Lo.Z,r.Hi.Z,[Jk r]⟩]
theorem qj1 : ∀ l : List qk,Y7 putR (grpR l) = l
  | []=>rfl
  | r::l=>by
    have a:=qj1 l
    unfold grpR
    split
    · rename_i g d h
      rw [h] at a
      split
      · rename_i b
        obtain ⟨b,c⟩:=b
        rw [← a]
        simp only [Y7,List.flatMap_cons,List.map_cons,List.cons_append,b,c]
        congr 1
      · rw [← a];rfl
    · rename_i h
      rw [h] at a
      rw [← a];rfl
theorem qj0 : ∀ l : List qw,Y7 putB (grpB l) = l
  | []=>rfl
  | r::l=>by
    have a:=qj0 l
    unfold grpB
    split
    · rename_i g d h
      rw [h] at a
      split
      · rename_i b
        obtain ⟨b,c⟩:=b
        rw [← a]
        simp only [Y7,List.flatMap_cons,List.map_cons,List.cons_append,b,c]
        congr 1
      · rw [← a];rfl
    · rename_i h
      rw [h] at a
      rw [← a];rfl
instance {σ : Type} [DecidableEq σ] (gs : List (Grp σ)) : Decidable (CanG gs):=by unfold CanG;infer_instance
instance (s : List qi) : Decidable (Can s):=by unfold Can;infer_instance
def isR (l : List qk) : Prop:=CanG (grpR l)∧∀ g∈grpR l,Can g.sec
instance (l : List qk) : Decidable (isR l):=by unfold isR;infer_instance
def isB (l : List qw) : Prop:=CanG (grpB l)∧∀ g∈grpB l,isR g.sec
instance (l : List qw) : Decidable (isB l):=by unfold isB;infer_instance
theorem isR.can {l : List qk} (h : isR l) : CanR l:=⟨grpR l,(qj1 l).symm,h.1,h.2⟩
theorem isB.can {l : List qw} (h : isB l) : CanB l:=⟨grpB l,(qj0 l).symm,h.1,fun g a=>(h.2 g a).can⟩
theorem qh0 {l : List qw} (h : l.length≤400∧(∀ b∈l,vB b)∧isB l) : Yf l = 0:=q3c.2 ⟨h.1,h.2.1,h.2.2.can⟩
theorem qrt {kind : Int} {p q out : List qw} (h : p.length + q.length≤100000) (a : CanB out) (b : ∀ x y z,Yd kind (hasB p x y z) (hasB q x y z)↔hasB out x y z) : mrgB kind p q = out:=
  qgw (qf0 kind h) a fun x y z=>by rw [qe8 kind h];exact b x y z
theorem qja {kind : Int} {p q out : List qw} (hp : Yf p = 0) (a : Yf q = 0) (c : CanB out) (g : out.length≤400) (b : ∀ x y z,Yd kind (hasB p x y z) (hasB q x y z)↔hasB out x y z) : jB kind p q = (out,0):=by
  have f:=(q3c.1 hp).1;have d:=(q3c.1 a).1;have e:=qrt (kind:=kind) (p:=p) (q:=q) q0 c b;unfold jB;rw [qx (by simp [hp]),qx (by simp [a]),e,qx q0]
theorem qou : Yf [] = 0:=qh0 qn
instance (kind : Int) (a b : Prop) [Decidable a] [Decidable b] : Decidable (Yd kind a b):=by unfold Yd;infer_instance
end Go.Sh
namespace Go.Sh
open Go Go.Am
end Go.Sh
namespace Go.Sh
open Go Go.Am
def tbl : List V3:=[(⟨1,0,0⟩,⟨0,1,0⟩,⟨0,0,1⟩),(⟨1,0,0⟩,⟨0,-1,0⟩,⟨0,0,-1⟩),(⟨1,0,0⟩,⟨0,0,1⟩,⟨0,-1,0⟩),(⟨1,0,0⟩,⟨0,0,-1⟩,⟨0,1,0⟩),(⟨-1,0,0⟩,⟨0,1,0⟩,⟨0,0,-1⟩),(⟨-1,0,0⟩,⟨0,-1,0⟩,⟨0,0,1⟩),(⟨-1,0,0⟩,⟨0,0,1⟩,⟨0,1,0⟩),(⟨-1,0,0⟩,⟨0,0,-1⟩,⟨0,-1,0⟩),(⟨0,1,0⟩,⟨1,0,0⟩,⟨0,0,-1⟩),(⟨0,1,0⟩,⟨-1,0,0⟩,⟨0,0,1⟩),(⟨0,1,0⟩,⟨0,0,1⟩,⟨1,0,0⟩),(⟨0,1,0⟩,⟨0,0,-1⟩,⟨-1,0,0⟩),(⟨0,-1,0⟩,⟨1,0,0⟩,⟨0,0,1⟩),(⟨0,-1,0⟩,⟨-1,0,0⟩,⟨0,0,-1⟩),(⟨0,-1,0⟩,⟨0,0,1⟩,⟨-1,0,0⟩),(⟨0,-1,0⟩,⟨0,0,-1⟩,⟨1,0,0⟩),(⟨0,0,1⟩,⟨1,0,0⟩,⟨0,1,0⟩),(⟨0,0,1⟩,⟨-1,0,0⟩,⟨0,-1,0⟩),(⟨0,0,1⟩,⟨0,1,0⟩,⟨-1,0,0⟩),(⟨0,0,1⟩,⟨0,-1,0⟩,⟨1,0,0⟩),(⟨0,0,-1⟩,⟨1,0,0⟩,⟨0,-1,0⟩),(⟨0,0,-1⟩,⟨-1,0,0⟩,⟨0,1,0⟩),(⟨0,0,-1⟩,⟨0,1,0⟩,⟨1,0,0⟩),(⟨0,0,-1⟩,⟨0,-1,0⟩,⟨-1,0,0⟩)]
theorem qgs : ∀ t : Nat,t < 24→axT t∈tbl:=by decide +kernel
noncomputable def invI (t : Nat) : Nat:=([0,1,3,2,4,5,6,7,8,12,16,20,9,13,21,17,10,15,22,19,11,14,18,23] : List Nat)[t]?.getD 0
def tbl2 : List (V3 × V3):=[((⟨1,0,0⟩,⟨0,1,0⟩,⟨0,0,1⟩),(⟨1,0,0⟩,⟨0,1,0⟩,⟨0,0,1⟩)),((⟨1,0,0⟩,⟨0,-1,0⟩,⟨0,0,-1⟩),(⟨1,0,0⟩,⟨0,-1,0⟩,⟨0,0,-1⟩)),((⟨1,0,0⟩,⟨0,0,1⟩,⟨0,-1,0⟩),(⟨1,0,0⟩,⟨0,0,-1⟩,⟨0,1,0⟩)),((⟨1,0,0⟩,⟨0,0,-1⟩,⟨0,1,0⟩),(⟨1,0,0⟩,⟨0,0,1⟩,⟨0,-1,0⟩)),((⟨-1,0,0⟩,⟨0,1,0⟩,⟨0,0,-1⟩),(⟨-1,0,0⟩,⟨0,1,0⟩,⟨0,0,-1⟩)),((⟨-1,0,0⟩,⟨0,-1,0⟩,⟨0,0,1⟩),(⟨-1,0,0⟩,⟨0,-1,0⟩,⟨0,0,1⟩)),((⟨-1,0,0⟩,⟨0,0,1⟩,⟨0,1,0⟩),(⟨-1,0,0⟩,⟨0,0,1⟩,⟨0,1,0⟩)),((⟨-1,0,0⟩,⟨0,0,-1⟩,⟨0,-1,0⟩),(⟨-1,0,0⟩,⟨0,0,-1⟩,⟨0,-1,0⟩)),((⟨0,1,0⟩,⟨1,0,0⟩,⟨0,0,-1⟩),(⟨0,1,0⟩,⟨1,0,0⟩,⟨0,0,-1⟩)),((⟨0,1,0⟩,⟨-1,0,0⟩,⟨0,0,1⟩),(⟨0,-1,0⟩,⟨1,0,0⟩,⟨0,0,1⟩)),((⟨0,1,0⟩,⟨0,0,1⟩,⟨1,0,0⟩),(⟨0,0,1⟩,⟨1,0,0⟩,⟨0,1,0⟩)),((⟨0,1,0⟩,⟨0,0,-1⟩,⟨-1,0,0⟩),(⟨0,0,-1⟩,⟨1,0,0⟩,⟨0,-1,0⟩)),((⟨0,-1,0⟩,⟨1,0,0⟩,⟨0,0,1⟩),(⟨0,1,0⟩,⟨-1,0,0⟩,⟨0,0,1⟩)),((⟨0,-1,0⟩,⟨-1,0,0⟩,⟨0,0,-1⟩),(⟨0,-1,0⟩,⟨-1,0,0⟩,⟨0,0,-1⟩)),((⟨0,-1,0⟩,⟨0,0,1⟩,⟨-1,0,0⟩),(⟨0,0,-1⟩,⟨-1,0,0⟩,⟨0,1,0⟩)),((⟨0,-1,0⟩,⟨0,0,-1⟩,⟨1,0,0⟩),(⟨0,0,1⟩,⟨-1,0,0⟩,⟨0,-1,0⟩)),((⟨0,0,1⟩,⟨1,0,0⟩,⟨0,1,0⟩),(⟨0,1,0⟩,⟨0,0,1⟩,⟨1,0,0⟩)),((⟨0,0,1⟩,⟨-1,0,0⟩,⟨0,-1,0⟩),(⟨0,-1,0⟩,⟨0,0,-1⟩,⟨1,0,0⟩)),((⟨0,0,1⟩,⟨0,1,0⟩,⟨-1,0,0⟩),(⟨0,0,-1⟩,⟨0,1,0⟩,⟨1,0,0⟩)),((⟨0,0,1⟩,⟨0,-1,0⟩,⟨1,0,0⟩),(⟨0,0,1⟩,⟨0,-1,0⟩,⟨1,0,0⟩)),((⟨0,0,-1⟩,⟨1,0,0⟩,⟨0,-1,0⟩),(⟨0,1,0⟩,⟨0,0,-1⟩,⟨-1,0,0⟩)),((⟨0,0,-1⟩,⟨-1,0,0⟩,⟨0,1,0⟩),(⟨0,-1,0⟩,⟨0,0,1⟩,⟨-1,0,0⟩)),((⟨0,0,-1⟩,⟨0,1,0⟩,⟨1,0,0⟩),(⟨0,0,1⟩,⟨0,1,0⟩,⟨-1,0,0⟩)),((⟨0,0,-1⟩,⟨0,-1,0⟩,⟨-1,0,0⟩),(⟨0,0,-1⟩,⟨0,-1,0⟩,⟨-1,0,0⟩))]
theorem qr3 : ∀ t : Nat,t < 24→(axT t,axT (invI t))∈tbl2:=by decide +kernel
def uMap (m : V3) (a : qm) (x y z : Int) : qm:=⟨x * m.1.X + y * m.2.1.X + z * m.2.2.X + min 0 (m.1.X + m.2.1.X + m.2.2.X) + a.X,x * m.1.Y + y * m.2.1.Y + z * m.2.2.Y + min 0 (m.1.Y + m.2.1.Y + m.2.2.Y) + a.Y,x * m.1.Z + y * m.2.1.Z + z * m.2.2.Z + min 0 (m.1.Z + m.2.1.Z + m.2.2.Z) + a.Z⟩
def boxM (m : V3) (a : qm) (b : qw) : qw:=q9v (addV (mulV m b.Lo) a) (addV (mulV m b.Hi) a)
theorem qfk {a b c l d g k j f x y z t : Int} (h : rowOk a b c) (m : l < k) (n : d < j) (o : g < f) :
    (min (l * a + d * b + g * c + t) (k * a + j * b + f * c + t)≤x * a + y * b + z * c + min 0 (a + b + c) + t∧x * a + y * b + z * c + min 0 (a + b + c) + t < max (l * a + d * b + g * c + t) (k * a + j * b + f * c + t))↔
      ((a≠0→l≤x∧x < k)∧(b≠0→d≤y∧y < j)∧(c≠0→g≤z∧z < f)):=by
  rcases h with ⟨rfl,rfl,rfl⟩ | ⟨rfl,rfl,rfl⟩ | ⟨rfl,rfl,rfl⟩ | ⟨rfl,rfl,rfl⟩ | ⟨rfl,rfl,rfl⟩ | ⟨rfl,rfl,rfl⟩ <;> omega
def qbg (m : V3) : Prop:=(rowOk m.1.X m.2.1.X m.2.2.X∧rowOk m.1.Y m.2.1.Y m.2.2.Y∧rowOk m.1.Z m.2.1.Z m.2.2.Z)∧
  ((m.1.X≠0∧m.2.1.Y≠0∧m.2.2.Z≠0)∨(m.1.X≠0∧m.2.1.Z≠0∧m.2.2.Y≠0)∨(m.1.Y≠0∧m.2.1.X≠0∧m.2.2.Z≠0)∨(m.1.Y≠0∧m.2.1.Z≠0∧m.2.2.X≠0)∨(m.1.Z≠0∧m.2.1.X≠0∧m.2.2.Y≠0)∨(m.1.Z≠0∧m.2.1.Y≠0∧m.2.2.X≠0))
instance (m : V3) : Decidable (qbg m):=by unfold qbg;infer_instance
theorem qms : ∀ m∈tbl,qbg m:=by decide +kernel
theorem rowOk.one {a b c : Int} (h : rowOk a b c) : (a≠0→b = 0∧c = 0)∧(b≠0→a = 0∧c = 0)∧(c≠0→a = 0∧b = 0):=by unfold rowOk at h;omega
theorem qtp {α : Type} {m : V3} (h : qbg m) (A B C : α) (P : α→α→α→Prop)
    (F : Int→Int→Int→α) (q : ∀ a b c,(a≠0∧b = 0∧c = 0→F a b c = A)∧(a = 0∧b≠0∧c = 0→F a b c = B)∧(a = 0∧b = 0∧c≠0→F a b c = C))
    (o : P A B C∧P A C B∧P B A C∧P C A B∧P B C A∧P C B A) : P (F m.1.X m.2.1.X m.2.2.X) (F m.1.Y m.2.1.Y m.2.2.Y) (F m.1.Z m.2.1.Z m.2.2.Z):=by
  obtain ⟨⟨r,t,s⟩,u⟩:=h;have k:=r.one;have l:=t.one;have j:=s.one;have f1:=q m.1.X m.2.1.X m.2.2.X;have n:=q m.1.Y m.2.1.Y m.2.2.Y;have p:=q m.1.Z m.2.1.Z m.2.2.Z;rcases u with ⟨g,f,d⟩ | ⟨g,f,d⟩ | ⟨g,f,d⟩ | ⟨g,f,d⟩ | ⟨g,f,d⟩ | ⟨g,f,d⟩
  · rw [f1.1 ⟨g,(k.1 g)⟩,n.2.1 ⟨(l.2.1 f).1,f,(l.2.1 f).2⟩,p.2.2 ⟨(j.2.2 d).1,(j.2.2 d).2,d⟩];exact o.1
  · rw [f1.1 ⟨g,(k.1 g)⟩,p.2.1 ⟨(j.2.1 f).1,f,(j.2.1 f).2⟩,n.2.2 ⟨(l.2.2 d).1,(l.2.2 d).2,d⟩];exact o.2.1
  · rw [n.1 ⟨g,(l.1 g)⟩,f1.2.1 ⟨(k.2.1 f).1,f,(k.2.1 f).2⟩,p.2.2 ⟨(j.2.2 d).1,(j.2.2 d).2,d⟩];exact o.2.2.1
  · rw [n.1 ⟨g,(l.1 g)⟩,p.2.1 ⟨(j.2.1 f).1,f,(j.2.1 f).2⟩,f1.2.2 ⟨(k.2.2 d).1,(k.2.2 d).2,d⟩];exact o.2.2.2.1
  · rw [p.1 ⟨g,(j.1 g)⟩,f1.2.1 ⟨(k.2.1 f).1,f,(k.2.1 f).2⟩,n.2.2 ⟨(l.2.2 d).1,(l.2.2 d).2,d⟩];exact o.2.2.2.2.1
  · rw [p.1 ⟨g,(j.1 g)⟩,n.2.1 ⟨(l.2.1 f).1,f,(l.2.1 f).2⟩,f1.2.2 ⟨(k.2.2 d).1,(k.2.2 d).2,d⟩];exact o.2.2.2.2.2
theorem qqw (m : V3) (k : m∈tbl) (a : qm) (b : qw) (x y z : Int) (h : ltB b) : inB (boxM m a b) (uMap m a x y z).X (uMap m a x y z).Y (uMap m a x y z).Z↔inB b x y z:=by
  have hp:=qms m k;obtain ⟨g,n,j⟩:=hp.1;have o:=qfk (x:=x) (y:=y) (z:=z) (t:=a.X) g h.1 h.2.1 h.2.2;have f:=qfk (x:=x) (y:=y) (z:=z) (t:=a.Y) n h.1 h.2.1 h.2.2;have l:=qfk (x:=x) (y:=y) (z:=z) (t:=a.Z) j h.1 h.2.1 h.2.2;unfold inB boxM q9v addV mulV uMap;simp only;rw [o,f,l]
  refine qtp hp (b.Lo.X≤x∧x < b.Hi.X) (b.Lo.Y≤y∧y < b.Hi.Y) (b.Lo.Z≤z∧z < b.Hi.Z) (fun p q r=>(p∧q∧r)↔_)
    (fun a d c=>(a≠0→b.Lo.X≤x∧x < b.Hi.X)∧(d≠0→b.Lo.Y≤y∧y < b.Hi.Y)∧(c≠0→b.Lo.Z≤z∧z < b.Hi.Z)) (fun a b c=>⟨fun h=>?_,fun h=>?_,fun h=>?_⟩) ?_
  · simp [h.1,h.2.1,h.2.2]
  · simp [h.1,h.2.1,h.2.2]
  · simp [h.1,h.2.1,h.2.2]
  · exact ⟨Iff.rfl,⟨fun h=>⟨h.1,h.2.2,h.2.1⟩,fun h=>⟨h.1,h.2.2,h.2.1⟩⟩,⟨fun h=>⟨h.2.1,h.1,h.2.2⟩,fun h=>⟨h.2.1,h.1,h.2.2⟩⟩,⟨fun h=>⟨h.2.1,h.2.2,h.1⟩,fun h=>⟨h.2.2,h.1,h.2.1⟩⟩,⟨fun h=>⟨h.2.2,h.1,h.2.1⟩,fun h=>⟨h.2.1,h.2.2,h.1⟩⟩,⟨fun h=>⟨h.2.2,h.2.1,h.1⟩,fun h=>⟨h.2.2,h.2.1,h.1⟩⟩⟩
theorem q11c : ∀ p∈tbl2,∀ (a : qm) (x y z : Int),uMap p.2 ⟨-(mulV p.2 a).X,-(mulV p.2 a).Y,-(mulV p.2 a).Z⟩ (uMap p.1 a x y z).X (uMap p.1 a x y z).Y (uMap p.1 a x y z).Z = ⟨x,y,z⟩∧
    uMap p.1 a (uMap p.2 ⟨-(mulV p.2 a).X,-(mulV p.2 a).Y,-(mulV p.2 a).Z⟩ x y z).X (uMap p.2 ⟨-(mulV p.2 a).X,-(mulV p.2 a).Y,-(mulV p.2 a).Z⟩ x y z).Y (uMap p.2 ⟨-(mulV p.2 a).X,-(mulV p.2 a).Y,-(mulV p.2 a).Z⟩ x y z).Z = ⟨x,y,z⟩:=by
  intro p hp;simp only [tbl2,List.mem_cons,List.not_mem_nil,or_false] at hp
  rcases hp with rfl | rfl | rfl | rfl | rfl | rfl | rfl | rfl | rfl | rfl | rfl | rfl | rfl | rfl | rfl | rfl | rfl | rfl | rfl | rfl | rfl | rfl | rfl | rfl <;>
    (intro a x y z;unfold uMap mulV;simp only [qm.mk.injEq];omega)
noncomputable def invF (t : Nat) (a : qm) : qm:=⟨-(mulV (axT (invI t)) a).X,-(mulV (axT (invI t)) a).Y,-(mulV (axT (invI t)) a).Z⟩
theorem q11b {t : Nat} (h : t < 24) (a : qm) (x y z : Int) : uMap (axT t) a (uMap (axT (invI t)) (invF t a) x y z).X (uMap (axT (invI t)) (invF t a) x y z).Y (uMap (axT (invI t)) (invF t a) x y z).Z = ⟨x,y,z⟩:=(q11c _ (qr3 t h) a x y z).2
end Go.Sh
namespace Go.Sh
open Go Go.Am
theorem qfl {a b c x y z X Y Z t : Int} (h : rowOk a b c) (d : 0≤x∧x≤X) (f : 0≤y∧y≤Y) (g : 0≤z∧z≤Z) :
    min (0 * a + 0 * b + 0 * c + t) (X * a + Y * b + Z * c + t)≤x * a + y * b + z * c + t∧x * a + y * b + z * c + t≤max (0 * a + 0 * b + 0 * c + t) (X * a + Y * b + Z * c + t):=by
  rcases h with ⟨rfl,rfl,rfl⟩ | ⟨rfl,rfl,rfl⟩ | ⟨rfl,rfl,rfl⟩ | ⟨rfl,rfl,rfl⟩ | ⟨rfl,rfl,rfl⟩ | ⟨rfl,rfl,rfl⟩ <;> omega
noncomputable def cor (u : Nat) (s : Kb) (i j l : Int) : qm:=Qv u s.Frame.At ⟨i * s.Size.X,j * s.Size.Y,l * s.Size.Z⟩
theorem qj7 {u : Nat} (a : u < 24) (A : qm) {v V : qm} (b : 0≤v.X∧v.X≤V.X) (c : 0≤v.Y∧v.Y≤V.Y) (d : 0≤v.Z∧v.Z≤V.Z) :
    (min (Qv u A ⟨0,0,0⟩).X (Qv u A V).X≤(Qv u A v).X∧(Qv u A v).X≤max (Qv u A ⟨0,0,0⟩).X (Qv u A V).X)∧
    (min (Qv u A ⟨0,0,0⟩).Y (Qv u A V).Y≤(Qv u A v).Y∧(Qv u A v).Y≤max (Qv u A ⟨0,0,0⟩).Y (Qv u A V).Y)∧
    (min (Qv u A ⟨0,0,0⟩).Z (Qv u A V).Z≤(Qv u A v).Z∧(Qv u A v).Z≤max (Qv u A ⟨0,0,0⟩).Z (Qv u A V).Z):=by
  obtain ⟨⟨f,h,g⟩,_⟩:=qms _ (qgs u a);exact ⟨qfl f b c d,qfl h b c d,qfl g b c d⟩
theorem q3n {u : Nat} (d : u < 24) {A : qm} {v V : qm} (f : 0≤v.X∧v.X≤V.X) (g : 0≤v.Y∧v.Y≤V.Y) (h : 0≤v.Z∧v.Z≤V.Z) (j : InV (Qv u A ⟨0,0,0⟩) (-1000000)) (k : InV (Qv u A V) (-1000000)) : InV (Qv u A v) (-1000000):=by
  obtain ⟨a,b,c⟩:=qj7 d A f g h;unfold InV at *;omega
section
variable {s : Kb} {u : Nat}
abbrev Z8 : (qm × qm × qm × qm × qm × qm × qm × qm):=(({X:=0,Y:=0,Z:=0} : qm),({X:=0,Y:=0,Z:=0} : qm),({X:=0,Y:=0,Z:=0} : qm),({X:=0,Y:=0,Z:=0} : qm),({X:=0,Y:=0,Z:=0} : qm),({X:=0,Y:=0,Z:=0} : qm),({X:=0,Y:=0,Z:=0} : qm),({X:=0,Y:=0,Z:=0} : qm))
theorem qhi (y : s.Frame.Turn = u) (f : u < 24) (b : SOk s) {k : Nat} (hk : k < 8) {i j l : Int}
    (hi : Int.tmod (k : Int) 2 = i) (hj : Int.tmod (w64 (Int.tdiv (k : Int) 2)) 2 = j) (hl : w64 (Int.tdiv (k : Int) 4) = l) (t : i = 0∨i = 1) (z : j = 0∨j = 1) (bl : l = 0∨l = 1) {out : List qm} (ho : out.length = 8) :
    Je s ((k : Int),out) = some (if InV (cor u s i j l) (-1000000) then .inl (((k + 1 : Nat) : Int),out.set k (cor u s i j l)) else .inr (.inr (Z8,16))):=by
  have x:=b.2;unfold InV at x
  have c : Zg (⟨i * s.Size.X,j * s.Size.Y,l * s.Size.Z⟩ : qm) 1000000:=by
    unfold Zg;refine ⟨?_,?_,?_,?_,?_,?_⟩ <;> rcases t with rfl | rfl <;> rcases z with rfl | rfl <;> rcases bl with rfl | rfl <;> simp only <;> omega
  have g:=qio (v:=⟨i * s.Size.X,j * s.Size.Y,l * s.Size.Z⟩) y f (qeg b.1.2 q0) (by unfold Zg at c ⊢;omega);have w1 : w64 (i * s.Size.X) = i * s.Size.X:=by obtain ⟨n,q,m,r,o,h⟩:=c;simp only at n q;exact Q5 q0
  have w : w64 (j * s.Size.Y) = j * s.Size.Y:=by obtain ⟨n,q,m,r,o,h⟩:=c;simp only at m r;exact Q5 q0
  have w3 : w64 (l * s.Size.Z) = l * s.Size.Z:=by obtain ⟨n,q,m,r,o,h⟩:=c;simp only at o h;exact Q5 q0
  have hd : decide ((k : Int) < 8) = true:=Q9 q0;have hw : w64 ((k : Int) + 1) = ((k + 1 : Nat) : Int):=by rw [Q5 q0];omega
  have p : ∃ v,idxA 8 out (k : Int) = some v:=by
    unfold idxA;rw [qs ⟨q0,q0⟩];exact ⟨_,List.getElem?_eq_getElem (by simpa using (by omega : k < out.length))⟩
  obtain ⟨v,p⟩:=p
  have i2 : idxA 8 (out.set k (cor u s i j l)) (k : Int) = some (cor u s i j l):=by
    unfold idxA;rw [qs ⟨q0,q0⟩,Int.toNat_natCast,List.getElem?_set_self q0]
  have a : q3i s.Frame ⟨i * s.Size.X,j * s.Size.Y,l * s.Size.Z⟩ = some (cor u s i j l):=g;simp only [Je,hd,Q2,hi,hj,hl,w1,w,w3,a,qh,p,Int.toNat_natCast,i2,qas,hw];by_cases d : InV (cor u s i j l) (-1000000)
  · rw [Q9 d,qs d];rfl
  · rw [Qb d,qx d];rfl
theorem qpc (b : u < 24) (d : SOk s) (a : InV (cor u s 0 0 0) (-1000000)) (c : InV (cor u s 1 1 1) (-1000000)) {i j l : Int} (f : i = 0∨i = 1) (k : j = 0∨j = 1) (h : l = 0∨l = 1) : InV (cor u s i j l) (-1000000):=by
  have g:=d.2;unfold InV at g;unfold cor at a c ⊢;simp only [Int.zero_mul,Int.one_mul] at a c;exact q3n b (V:=s.Size) (by rcases f with rfl | rfl <;> simp only <;> omega) (by rcases k with rfl | rfl <;> simp only <;> omega) (by rcases h with rfl | rfl <;> simp only <;> omega) a c
theorem qhj (r : s.Frame.Turn = u) (b : u < 24) (a : SOk s) (o : InV (cor u s 0 0 0) (-1000000)) (q : InV (cor u s 1 1 1) (-1000000)) :
    q3h s = some ((cor u s 0 0 0,cor u s 1 0 0,cor u s 0 1 0,cor u s 1 1 0,cor u s 0 0 1,cor u s 1 0 1,cor u s 0 1 1,cor u s 1 1 1),0):=by
  unfold q3h;rw [qdv,qs a];have p : ((0 : Int) != 0) = false:=rfl;simp only [qh,p,Q1]
  have st : ∀ {k : Nat} (m : k < 8) {i j l : Int} (hi : Int.tmod (k : Int) 2 = i) (n : Int.tmod (w64 (Int.tdiv (k : Int) 2)) 2 = j) (h : w64 (Int.tdiv (k : Int) 4) = l) (c : i = 0∨i = 1) (f : j = 0∨j = 1) (d : l = 0∨l = 1) {out : List qm} (g : out.length = 8),Je s ((k : Int),out) = some (.inl (((k + 1 : Nat) : Int),out.set k (cor u s i j l))):=
    @fun k m i j l hi n h c f d out g=>by rw [qhi r b a m hi n h c f d g,qs (qpc b a o q c f d)]
  have e : loop (Je s) (((0 : Nat) : Int),[zeroV,zeroV,zeroV,zeroV,zeroV,zeroV,zeroV,zeroV]) = some (.inl [cor u s 0 0 0,cor u s 1 0 0,cor u s 0 1 0,cor u s 1 1 0,cor u s 0 0 1,cor u s 1 0 1,cor u s 0 1 1,cor u s 1 1 1]):=by
    rw [Ke (st (k:=0) (i:=0) (j:=0) (l:=0) q0 (by decide +kernel) (by decide +kernel) (by decide +kernel) qn qn qn rfl)];rw [Ke (st (k:=1) (i:=1) (j:=0) (l:=0) q0 (by decide +kernel) (by decide +kernel) (by decide +kernel) qn qn qn rfl)];rw [Ke (st (k:=2) (i:=0) (j:=1) (l:=0) q0 (by decide +kernel) (by decide +kernel) (by decide +kernel) qn qn qn rfl)];rw [Ke (st (k:=3) (i:=1) (j:=1) (l:=0) q0 (by decide +kernel) (by decide +kernel) (by decide +kernel) qn qn qn rfl)];rw [Ke (st (k:=4) (i:=0) (j:=0) (l:=1) q0 (by decide +kernel) (by decide +kernel) (by decide +kernel) qn qn qn rfl)];rw [Ke (st (k:=5) (i:=1) (j:=0) (l:=1) q0 (by decide +kernel) (by decide +kernel) (by decide +kernel) qn qn qn rfl)];rw [Ke (st (k:=6) (i:=0) (j:=1) (l:=1) q0 (by decide +kernel) (by decide +kernel) (by decide +kernel) qn qn qn rfl)];rw [Ke (st (k:=7) (i:=1) (j:=1) (l:=1) q0 (by decide +kernel) (by decide +kernel) (by decide +kernel) qn qn qn rfl)];exact Kg rfl
  have e : loop (Je s) (0,[zeroV,zeroV,zeroV,zeroV,zeroV,zeroV,zeroV,zeroV]) = some (.inl [cor u s 0 0 0,cor u s 1 0 0,cor u s 0 1 0,cor u s 1 1 0,cor u s 0 0 1,cor u s 1 0 1,cor u s 0 1 1,cor u s 1 1 1]):=e;unfold zeroV at e;rw [e];rfl
theorem qpd (v : s.Frame.Turn = u) (b : u < 24) (a : SOk s) (hn : ¬ (InV (cor u s 0 0 0) (-1000000)∧InV (cor u s 1 1 1) (-1000000))) : ∃ z,q3h s = some (z,16):=by
  unfold q3h;rw [qdv,qs a];have hz : ((0 : Int) != 0) = false:=rfl;simp only [qh,hz,Q1]
  have st : ∀ {k : Nat} (f : k < 8) {i j l : Int} (hi : Int.tmod (k : Int) 2 = i) (p : Int.tmod (w64 (Int.tdiv (k : Int) 2)) 2 = j) (n : w64 (Int.tdiv (k : Int) 4) = l) (d : i = 0∨i = 1) (m : j = 0∨j = 1) (o : l = 0∨l = 1) {out : List qm} (c : out.length = 8),
      (InV (cor u s i j l) (-1000000)→(∀ out : List qm,out.length = 8→loop (Je s) (((k + 1 : Nat) : Int),out) = some (.inr (Z8,16)))→loop (Je s) ((k : Int),out) = some (.inr (Z8,16)))∧(¬ InV (cor u s i j l) (-1000000)→loop (Je s) ((k : Int),out) = some (.inr (Z8,16))):=
    @fun k f i j l hi p n d m o out c=>by
      have e:=qhi v b a f hi p n d m o c;refine ⟨fun h g=>?_,fun h=>?_⟩
      · rw [qs h] at e;rw [Ke e];exact g _ (by simpa using c)
      · rw [qx h] at e;exact Kg e
  have go : ∀ (P : Prop) (A B : Prop),(P→A→B)∧(¬ P→B)→(P→A)→B:=fun P A B h g=>by
    by_cases hp : P
    · exact h.1 hp (g hp)
    · exact h.2 hp
  have key : ∀ out : List qm,out.length = 8→loop (Je s) (((0 : Nat) : Int),out) = some (.inr (Z8,16)):=by
    intro o0 y;refine go _ _ _ (st (k:=0) (i:=0) (j:=0) (l:=0) q0 (by decide +kernel) (by decide +kernel) (by decide +kernel) qn qn qn y) fun h0 o1 w=>?_;refine go _ _ _ (st (k:=1) (i:=1) (j:=0) (l:=0) q0 (by decide +kernel) (by decide +kernel) (by decide +kernel) qn qn qn w) fun _ o2 t=>?_;refine go _ _ _ (st (k:=2) (i:=0) (j:=1) (l:=0) q0 (by decide +kernel) (by decide +kernel) (by decide +kernel) qn qn qn t) fun _ o3 l3=>?_;refine go _ _ _ (st (k:=3) (i:=1) (j:=1) (l:=0) q0 (by decide +kernel) (by decide +kernel) (by decide +kernel) qn qn qn l3) fun _ o4 q=>?_;refine go _ _ _ (st (k:=4) (i:=0) (j:=0) (l:=1) q0 (by decide +kernel) (by decide +kernel) (by decide +kernel) qn qn qn q) fun _ o5 x=>?_;refine go _ _ _ (st (k:=5) (i:=1) (j:=0) (l:=1) q0 (by decide +kernel) (by decide +kernel) (by decide +kernel) qn qn qn x) fun _ o6 l6=>?_;refine go _ _ _ (st (k:=6) (i:=0) (j:=1) (l:=1) q0 (by decide +kernel) (by decide +kernel) (by decide +kernel) qn qn qn l6) fun _ o7 r=>?_;exact (st (k:=7) (i:=1) (j:=1) (l:=1) q0 (by decide +kernel) (by decide +kernel) (by decide +kernel) qn qn qn r).2 fun h=>hn ⟨h0,h⟩
  have e : loop (Je s) (0,[zeroV,zeroV,zeroV,zeroV,zeroV,zeroV,zeroV,zeroV]) = some (.inr (Z8,16)):=key _ rfl;unfold zeroV at e;rw [e];exact ⟨_,rfl⟩
theorem mn8 {c0 c1 c2 c3 c4 c b a : Int} (d : min c0 a≤c1) (k : min c0 a≤c2) (j : min c0 a≤c3) (g : min c0 a≤c4) (f : min c0 a≤c) (h : min c0 a≤b) :
    min (min (min (min (min (min (min (min c0 c0) c1) c2) c3) c4) c) b) a = min c0 a:=by omega
theorem mx8 {c0 c1 c2 c3 c4 c b a : Int} (d : c1≤max c0 a) (k : c2≤max c0 a) (j : c3≤max c0 a) (g : c4≤max c0 a) (f : c≤max c0 a) (h : b≤max c0 a) :
    max (max (max (max (max (max (max (max c0 c0) c1) c2) c3) c4) c) b) a = max c0 a:=by omega
end
end Go.Sh
namespace Go.Sh
open Go Go.Am
theorem qeh (s : List Int) (d : s.length≤1000000) : q3u s s = some true:=by
  have:=Yg (f:=q3v s s) (σ:=Unit) (fun k _=>(k : Int)) s.length (fun k _=>True) (fun b=>b = .inl ()) ?_ ?_ (k0:=0) (c0:=()) q0 trivial
  · obtain ⟨b,a,rfl⟩:=this;have a : loop (q3v s s) 0 = some (.inl ()):=a;unfold q3u;simp [a]
  · intro k _ c _;have hb : decide ((k : Int) < (s.length : Int)) = true:=Q9 q0;refine .inl ⟨(),?_,trivial⟩;simp only [q3v,hb,Q2,K5 c,qh];rw [Q5 q0];simp
  · intro _ _;have hb : decide ((s.length : Int) < (s.length : Int)) = false:=Qb q0;exact ⟨_,by simp only [q3v,hb,Q1],rfl⟩
def NN (l : List Int) : Prop:=∀ x∈l,0≤x
theorem qee (l : List Int) (p : l.length≤1000000) : ∃ r : Int,q8w l (fun c=>q30 c) = some r∧((r = -1∧NN l)∨(0≤r∧¬ NN l)):=by
  have:=Yg (f:=q45 l (fun c=>q30 c)) (σ:=Unit) (fun k _=>(k : Int)) l.length (fun k _=>∀ i (h : i < l.length),i < k→0≤l[i]) (fun b=>(b = .inl ()∧NN l)∨∃ k : Nat,b = .inr (k : Int)∧¬ NN l) ?_ ?_ (k0:=0) (c0:=()) q0 (fun i _ h=>q0)
  · obtain ⟨b,g,a⟩:=this;have g : loop (q45 l (fun c=>q30 c)) 0 = some b:=g;unfold q8w;rw [g];rcases a with ⟨rfl,a⟩ | ⟨k,rfl,a⟩
    · exact ⟨-1,rfl,.inl ⟨rfl,a⟩⟩
    · exact ⟨k,rfl,.inr ⟨q0,a⟩⟩
  · intro k _ j d;have hb : decide ((k : Int) < (l.length : Int)) = true:=Q9 q0;simp only [q45,hb,Q2,K5 j,qh,q30];by_cases h : l[k] < 0
    · refine .inr ⟨_,by simp only [h,decide_true,Q2],.inr ⟨k,rfl,fun n=>?_⟩⟩;have:=n _ (Y5 j);omega
    · refine .inl ⟨(),?_,fun i hi o=>?_⟩
      · simp only [h,decide_false,Q1];rw [Q5 q0];rfl
      · by_cases e : i = k
        · subst e;omega
        · exact d i hi q0
  · intro _ d;have hb : decide ((l.length : Int) < (l.length : Int)) = false:=Qb q0;refine ⟨_,by simp only [q45,hb,Q1],.inl ⟨rfl,fun x m=>?_⟩⟩;obtain ⟨i,hi,rfl⟩:=List.mem_iff_getElem.1 m;exact d i hi hi
def Ql (l : List Int) (k : Nat) : Int:=(l.take k).sum
theorem q31 {l : List Int} {k : Nat} (h : k < l.length) : Ql l (k + 1) = Ql l k + l[k]:=by
  unfold Ql;rw [List.take_succ_eq_append_getElem h,List.sum_append];simp
def Yb (l : List Int) (k : Nat) : List Int:=(List.range (k + 1)).map (Ql l)
theorem qdp (l : List Int) (k : Nat) : (Yb l k).length = k + 1:=by simp [Yb]
theorem qdo {l : List Int} {k : Nat} : idx (Yb l k) (k : Int) = some (Ql l k):=by
  rw [q7y];simp [Yb]
theorem qhq (l : List Int) (k : Nat) : Yb l (k + 1) = Yb l k ++ [Ql l (k + 1)]:=by
  unfold Yb;rw [List.range_succ,List.map_append];rfl
def Inc (l : List Int) : Prop:=∀ i (h : i + 1 < l.length),l[i]≤l[i + 1]
theorem qrd (a b : Int) : Yw a b = some (decide (a < b)):=by
  unfold Yw q4t;have : (a != a) = false:=by simp
  simp []
theorem q100 (l : List Int) (s : l.length≤1000000) (m : l≠[]) : ∃ b,q8x l = some b∧(b = true↔Inc l):=by
  have g : 0 < l.length:=List.length_pos_iff.2 m;have q : w64 ((l.length : Int) - 1) = ((l.length - 1 : Nat) : Int):=by rw [Q5 q0];omega
  unfold q8x;rw [q];have:=qel (f:=q5x l) (fun a : Int=>∃ k : Nat,a = k∧k < l.length∧∀ i (h : i + 1 < l.length),k≤i→l[i]≤l[i + 1]) (fun a=>a.toNat) (fun b=>(b = .inl ()∧Inc l)∨(b = .inr false∧¬ Inc l)) ?_ (a:=((l.length - 1 : Nat) : Int)) ⟨l.length - 1,rfl,q0,fun i h o=>q0⟩
  · obtain ⟨b,n,c⟩:=this;rw [n];rcases c with ⟨rfl,c⟩ | ⟨rfl,c⟩
    · exact ⟨true,rfl,by simp [c]⟩
    · exact ⟨false,rfl,by simp [c]⟩
  · rintro a ⟨k,rfl,j,d⟩
    cases k with
    | zero=>exact .inr ⟨.inl (),by simp [q5x],.inl ⟨rfl,fun i h=>d i h q0⟩⟩
    | succ k=>
      have p : decide (((k + 1 : Nat) : Int) > 0) = true:=Q9 q0;have r : idx l (w64 (((k + 1 : Nat) : Int) - 1)) = some (l[k]'(q0)):=by rw [Q5 q0];exact Zr q0 q0
      simp only [q5x,p,Q2,K5 j,r,qh,qrd];by_cases h : l[k+1] < l[k]
      · refine .inr ⟨.inr false,by simp only [h,decide_true,Q2],.inr ⟨rfl,fun hi=>?_⟩⟩;have:=hi k j;omega
      · refine .inl ⟨(k : Int),?_,⟨k,rfl,q0,fun i hi o=>?_⟩,q0⟩
        · simp only [h,decide_false,Q1];rw [Q5 q0];congr 2;omega
        · by_cases e : i = k
          · subst e;omega
          · exact d i hi q0
end Go.Sh
namespace Go.Sh
open Go Go.Am
theorem u64w (n : Int) : IntKind.u64.wrap n = n % 18446744073709551616:=by simp [IntKind.wrap,IntKind.bits,IntKind.signed]
theorem qwe {x : Int} (h : I64 x) : q5h x = some (x.natAbs : Int):=by
  unfold q5h;unfold I64 at h;rw [u64w,u64w];by_cases a : x < 0
  · simp only [a,decide_true,Q2];congr 1;omega
  · simp only [a,decide_false,Q1];congr 1;omega
theorem q118 (k m : Nat) : (k : Int).tmod (m : Int) = ((k % m : Nat) : Int):=by
  rw [Int.tmod_eq_emod_of_nonneg q0];simp
theorem qqi : ∀ (m k : Nat),loop q3w ((k : Int),(m : Int)) = some ((Nat.gcd k m : Nat) : Int):=by
  intro m
  induction m using Nat.strongRecOn with
  | _ m ih=>
    intro k;by_cases h : m = 0
    · subst h;exact Kg (by simp [q3w])
    · have a : (((m : Int)) != 0) = true:=by simp;omega
      have hs : q3w ((k : Int),(m : Int)) = some (.inl ((m : Int),((k % m : Nat) : Int))):=by
        simp only [q3w,a,Q2,remK];rw [qx q0,q118];rfl
      rw [Ke hs,ih (k % m) (Nat.mod_lt _ q0) m,Nat.gcd_comm m,← Nat.gcd_rec m k,Nat.gcd_comm]
def ROk (r : U4) : Prop:=1≤r.Den∧r.Den≤1000000000∧-1000000000≤r.Num∧r.Num≤1000000000∧Nat.gcd r.Num.natAbs r.Den.natAbs = 1
instance (r : U4) : Decidable (ROk r):=by unfold ROk;infer_instance
theorem qu1 {r : U4} (h : I64 r.Num) : q8h r = some (if ROk r then 0 else 8):=by
  unfold q8h;rw [qwe h];by_cases a : r.Den < 1
  · rw [qx (fun h=>by have:=h.1;omega)];simp [a]
  by_cases b : r.Den > 1000000000
  · rw [qx (fun h=>by have:=h.2.1;omega)];simp [a,b]
  by_cases c : (r.Num.natAbs : Int) > 1000000000
  · rw [qx (fun h=>by obtain ⟨_,_,k,l,_⟩:=h;omega)];have d : decide ((r.Num.natAbs : Int) > 1000000000) = true:=Q9 c;have f : decide (r.Den < 1) = false:=Qb a;have b1 : decide (r.Den > 1000000000) = false:=Qb b;simp only [f,b1,d,Q1,Q2,qh]
  have j : IntKind.u64.wrap r.Den = ((r.Den.natAbs : Nat) : Int):=by rw [u64w];omega
  have e : q8i (r.Num.natAbs : Int) (IntKind.u64.wrap r.Den) = some ((Nat.gcd r.Num.natAbs r.Den.natAbs : Nat) : Int):=by
    unfold q8i;rw [j,qqi];rfl
  have d : decide ((r.Num.natAbs : Int) > 1000000000) = false:=Qb c;have f : decide (r.Den < 1) = false:=Qb a;have b1 : decide (r.Den > 1000000000) = false:=Qb b;simp only [f,b1,d,e,Q1,qh];by_cases g : Nat.gcd r.Num.natAbs r.Den.natAbs = 1
  · rw [qs ⟨q0,q0,q0,q0,g⟩,g];rfl
  · rw [qx (fun h=>g h.2.2.2.2)]
    have : (((Nat.gcd r.Num.natAbs r.Den.natAbs : Nat) : Int) != 1) = true:=by
      rw [bne_iff_ne];intro e;exact g (by exact_mod_cast e)
    rw [this];rfl
def VOk (p : Qx) : Prop:=(p.Kind = 1∧0≤p.Size∧p.Size≤1000000∧p.Share.Num = 0∧p.Share.Den = 0)∨(p.Kind = 3∧1≤p.Size∧p.Size≤1000000∧p.Share.Num = 0∧p.Share.Den = 0)∨
  (p.Kind = 2∧p.Size = 0∧ROk p.Share∧0≤p.Share.Num∧p.Share.Num≤p.Share.Den)
instance (p : Qx) : Decidable (VOk p):=by unfold VOk;infer_instance
theorem yes {P : Prop} [Decidable P] (h : P) : some true = some (decide P):=by rw [Q9 h]
theorem no {P : Prop} [Decidable P] (h : ¬ P) : some false = some (decide P):=by rw [Qb h]
theorem q11r {r : U4} : ((r.Num == 0) && ((r.Den == 0) && true)) = decide (r.Num = 0∧r.Den = 0):=by
  by_cases a : r.Num = 0 <;> by_cases b : r.Den = 0 <;> simp [a,b]
theorem q10p {p : Qx} (h : I64 p.Share.Num) : qa2 p = some (decide (VOk p)):=by
  unfold qa2;rw [qu1 h,q11r];by_cases l : p.Kind = 1
  · have d : (p.Kind == 1) = true:=by simpa using l
    simp only [d,Q2];by_cases a : p.Size ≥ 0
    · by_cases b : p.Size≤1000000
      · by_cases c : p.Share.Num = 0∧p.Share.Den = 0
        · simp only [Q9 a,Q9 b,Q9 c,Q2,qh];exact yes (.inl ⟨l,a,b,c⟩)
        · simp only [Q9 a,Q9 b,Qb c,Q2,qh];exact no (fun h=>by unfold VOk at h;omega)
      · simp only [Q9 a,Qb b,Q2,Q1,qh];exact no (fun h=>by unfold VOk at h;omega)
    · simp only [Qb a,Q1,qh];exact no (fun h=>by unfold VOk at h;omega)
  have d : (p.Kind == 1) = false:=by simpa using l
  by_cases k : p.Kind = 3
  · have f : (p.Kind == 3) = true:=by simpa using k
    simp only [d,f,Q2,Q1];by_cases a : p.Size ≥ 1
    · by_cases b : p.Size≤1000000
      · by_cases c : p.Share.Num = 0∧p.Share.Den = 0
        · simp only [Q9 a,Q9 b,Q9 c,Q2,qh];exact yes (.inr (.inl ⟨k,a,b,c⟩))
        · simp only [Q9 a,Q9 b,Qb c,Q2,qh];exact no (fun h=>by unfold VOk at h;omega)
      · simp only [Q9 a,Qb b,Q2,Q1,qh];exact no (fun h=>by unfold VOk at h;omega)
    · simp only [Qb a,Q1,qh];exact no (fun h=>by unfold VOk at h;omega)
  have f : (p.Kind == 3) = false:=by simpa using k
  by_cases j : p.Kind = 2
  · have g : (p.Kind == 2) = true:=by simpa using j
    simp only [d,g,f,Q2,Q1,qh];by_cases s : p.Size = 0
    · have es : (p.Size == 0) = true:=by simpa using s
      simp only [es,Q2,qh];by_cases r : ROk p.Share
      · have m : ((if ROk p.Share then (0 : Int) else 8) == 0) = true:=by rw [qs r];rfl
        simp only [m,Q2,qh];by_cases a : p.Share.Num ≥ 0
        · by_cases b : p.Share.Num≤p.Share.Den
          · simp only [Q9 a,Q9 b,Q2,qh];exact yes (.inr (.inr ⟨j,s,r,a,b⟩))
          · simp only [Q9 a,Qb b,Q2,qh];exact no (fun h=>by unfold VOk at h;omega)
        · simp only [Qb a,Q1,qh];exact no (fun h=>by unfold VOk at h;omega)
      · have m : ((if ROk p.Share then (0 : Int) else 8) == 0) = false:=by rw [qx r];rfl
        simp only [m,Q1,qh];exact no (fun h=>h.elim (fun h=>q0) (fun h=>h.elim (fun h=>q0) (fun h=>r h.2.2.1)))
    · have es : (p.Size == 0) = false:=by simpa using s
      simp only [es,Q1,qh];exact no (fun h=>by unfold VOk at h;omega)
  · have g : (p.Kind == 2) = false:=by simpa using j
    simp only [d,g,f,Q1];exact no (fun h=>by unfold VOk at h;omega)
def Jo (l : List Qx) : Prop:=∀ p∈l,VOk p
instance (l : List Qx) : Decidable (Jo l):=by unfold Jo;infer_instance
def chk (l : List Qx) : Int:=if 200 < l.length then 4 else if Jo l then 0 else 8
def qcw (p : Qx) : Prop:=I64 p.Size∧I64 p.Share.Num∧I64 p.Share.Den
theorem q10h (l : List Qx) (o : ∀ p∈l,qcw p) : qa1 l = some (chk l):=by
  unfold qa1 chk;by_cases h : 200 < l.length
  · have : decide ((l.length : Int) > 200) = true:=Q9 q0;simp only [this,Q2,h,if_true]
  have : decide ((l.length : Int) > 200) = false:=Qb q0;simp only [this,Q1,h,if_false];have key:=Yg (f:=q41 l (fun j=>q4j j)) (σ:=Unit) (fun k _=>(k : Int)) l.length (fun k _=>∀ i (h : i < l.length),i < k→VOk l[i]) (fun b=>(b = .inl ()∧Jo l)∨∃ k : Nat,b = .inr (k : Int)∧¬ Jo l) ?_ ?_ (k0:=0) (c0:=()) q0 (fun i _ h=>q0)
  · obtain ⟨b,g,a⟩:=key;have g : loop (q41 l (fun j=>q4j j)) 0 = some b:=g;unfold qbx qc1;rw [g];rcases a with ⟨rfl,a⟩ | ⟨k,rfl,a⟩
    · simp only [qh,a,if_true];rfl
    · have : decide ((k : Int) ≥ 0) = true:=Q9 q0;simp only [qh,a,if_false,this,Q2]
  · intro k _ d c;have hb : decide ((k : Int) < (l.length : Int)) = true:=Q9 q0;simp only [q41,hb,Q2,K5 d,qh,q4j,q10p (o _ (Y5 d)).2.1];by_cases h : VOk l[k]
    · refine .inl ⟨(),?_,fun i hi q=>?_⟩
      · simp only [h,decide_true,Bool.not_true,Q1];rw [Q5 q0];rfl
      · by_cases e : i = k
        · subst e;exact h
        · exact c i hi q0
    · exact .inr ⟨_,by simp only [h,decide_false,Bool.not_false,Q2],.inr ⟨k,rfl,fun n=>h (n _ (Y5 d))⟩⟩
  · intro _ c;have hb : decide ((l.length : Int) < (l.length : Int)) = false:=Qb q0;refine ⟨_,by simp only [q41,hb,Q1],.inl ⟨rfl,fun x m=>?_⟩⟩;obtain ⟨i,hi,rfl⟩:=List.mem_iff_getElem.1 m;exact c i hi hi
end Go.Sh
namespace Go.Sh
open Go Go.Am
def own (w : Int) (p : Qx) : Int:=if p.Kind = 2 then (w * p.Share.Num).tdiv p.Share.Den else p.Size
def fixS (w : Int) (l : List Qx) (k : Nat) : Int:=((l.take k).map fun p=>if p.Kind = 3 then 0 else own w p).sum
def wtS (l : List Qx) (k : Nat) : Int:=((l.take k).map fun p=>if p.Kind = 3 then p.Size else 0).sum
def Ko (w : Int) (l : List Qx) (k : Nat) : Int:=w - fixS w l k
theorem qid {w : Int} {l : List Qx} {k : Nat} (h : k < l.length) : fixS w l (k + 1) = fixS w l k + if l[k].Kind = 3 then 0 else own w l[k]:=by
  unfold fixS;rw [List.take_succ_eq_append_getElem h,List.map_append,List.sum_append];simp
theorem qck {l : List Qx} {k : Nat} (h : k < l.length) : wtS l (k + 1) = wtS l k + if l[k].Kind = 3 then l[k].Size else 0:=by
  unfold wtS;rw [List.take_succ_eq_append_getElem h,List.map_append,List.sum_append];simp
theorem qfa {w : Int} {p : Qx} (a : 0≤w∧w≤1000000) (hp : VOk p) (_ : p.Kind≠3) : 0≤own w p∧own w p≤1000000∧(p.Kind = 2→J7 (w64 (w * p.Share.Num)) p.Share.Den = some (own w p)):=by
  unfold own;rcases hp with h | h | ⟨c,n,g,d,k⟩
  · rw [qx q0];omega
  · omega
  · rw [qs c];obtain ⟨l,f,m,r,_⟩:=g;have b : 0≤w * p.Share.Num:=Int.mul_nonneg a.1 d;have j : w * p.Share.Num≤w * p.Share.Den:=Int.mul_le_mul_of_nonneg_left k a.1;have q : w * p.Share.Den≤1000000 * 1000000000:=Int.mul_le_mul a.2 f q0 q0;have e : (w * p.Share.Num).tdiv p.Share.Den = (w * p.Share.Num) / p.Share.Den:=Int.tdiv_eq_ediv_of_nonneg b;have s : 0≤(w * p.Share.Num) / p.Share.Den:=Int.ediv_nonneg b q0;have o : (w * p.Share.Num) / p.Share.Den≤w:=Int.ediv_le_of_le_mul q0 j;refine ⟨q0,q0,fun _=>?_⟩;rw [Q5 q0];unfold J7;rw [qx q0,Q5 q0]
theorem qau {w : Int} {l : List Qx} (a : 0≤w∧w≤1000000) (b : Jo l) : ∀ k,k≤l.length→0≤fixS w l k∧fixS w l k≤k * 1000000
  | 0,_=>by simp [fixS]
  | k + 1,h=>by
    have d:=qau a b k q0
    rw [qid (show k < l.length by omega)]
    split
    · omega
    · rename_i c
      have:=qfa a (b _ (Y5 (show k < l.length by omega))) c
      omega
theorem qlr {p : Qx} (hp : VOk p) (a : p.Kind = 3) : 1≤p.Size∧p.Size≤1000000:=by
  unfold VOk at hp;omega
theorem qcl {l : List Qx} (b : Jo l) {k : Nat} (h : k < l.length) : wtS l k≤wtS l (k + 1)∧wtS l (k + 1)≤wtS l k + 1000000∧(l[k].Kind = 3→wtS l k < wtS l (k + 1)):=by
  rw [qck h];split
  · rename_i a;have:=qlr (b _ (Y5 h)) a;omega
  · rename_i a;omega
theorem qa9 {l : List Qx} (a : Jo l) : ∀ k,k≤l.length→0≤wtS l k∧wtS l k≤k * 1000000
  | 0,_=>by simp [wtS]
  | k + 1,h=>by
    have b:=qa9 a k q0
    have:=qcl a (show k < l.length by omega)
    omega
theorem qg6 {l : List Qx} (a : Jo l) {i : Nat} : ∀ k,i≤k→k≤l.length→wtS l i≤wtS l k
  | 0, h, _ => by obtain rfl : i = 0 := by omega
                  exact Int.le_refl _
  | k + 1,h,hk=>by
    by_cases e : i = k + 1
    · subst e;exact Int.le_refl _
    · have b:=qg6 a (i:=i) k q0 q0
      have:=qcl a (show k < l.length by omega)
      omega
def cutR (R W s : Int) : Int:=(R * s).tdiv W
theorem qho {R W s : Int} (a : 0≤R∧R≤1000000) (hs : 0≤s∧s≤W) (d : 0 < W∧W≤200000000) : J7 (w64 (R * s)) W = some (cutR R W s)∧0≤cutR R W s∧cutR R W s≤R:=by
  have b : 0≤R * s:=Int.mul_nonneg a.1 hs.1;have c : R * s≤R * W:=Int.mul_le_mul_of_nonneg_left hs.2 a.1;have f : R * W≤1000000 * 200000000:=Int.mul_le_mul a.2 d.2 q0 q0;have e : cutR R W s = (R * s) / W:=Int.tdiv_eq_ediv_of_nonneg b;have g : 0≤(R * s) / W:=Int.ediv_nonneg b q0;have h : (R * s) / W≤R:=Int.ediv_le_of_le_mul q0 c;refine ⟨?_,q0,q0⟩;rw [Q5 q0];unfold J7;rw [qx q0];change some (w64 (cutR R W s)) = _;rw [Q5 q0]
def szI (w : Int) (l : List Qx) (i : Nat) : Int:=match l[i]? with
  | some p=>if p.Kind = 3 then cutR (Ko w l l.length) (wtS l l.length) (wtS l (i + 1)) - cutR (Ko w l l.length) (wtS l l.length) (wtS l i) else own w p
  | none=>0
theorem q112 {w : Int} {l : List Qx} {i : Nat} (h : i < l.length) (a : l[i].Kind = 3) : szI w l i = cutR (Ko w l l.length) (wtS l l.length) (wtS l (i + 1)) - cutR (Ko w l l.length) (wtS l l.length) (wtS l i):=by
  unfold szI;rw [List.getElem?_eq_getElem h];simp [a]
theorem q113 {w : Int} {l : List Qx} {i : Nat} (h : i < l.length) (a : l[i].Kind≠3) : szI w l i = own w l[i]:=by
  unfold szI;rw [List.getElem?_eq_getElem h];simp [a]
def q40 (w : Int) (l : List Qx) (k : Nat) : List Int:=(List.range k).map (szI w l)
theorem qwf (w : Int) (l : List Qx) (k : Nat) : (q40 w l k).length = k:=by simp [q40]
def at3 (l : List Qx) (i : Nat) : Bool:=match l[i]? with
  | some p=>decide (p.Kind = 3)
  | none=>false
theorem q10 {l : List Qx} {i : Nat} (h : i < l.length) : at3 l i = decide (l[i].Kind = 3):=by unfold at3;rw [List.getElem?_eq_getElem h]
def K3 (l : List Qx) (k : Nat) : List Nat:=(List.range k).filter (at3 l)
theorem q1z (l : List Qx) (k : Nat) : K3 l (k + 1) = K3 l k ++ if at3 l k then [k] else []:=by
  unfold K3;rw [List.range_succ,List.filter_append];congr 1;cases h : at3 l k <;> simp [h]
theorem qcv (l : List Qx) (k : Nat) : (K3 l k).length≤k:=by
  unfold K3;have:=List.length_filter_le (at3 l) (List.range k);simpa using this
theorem qgd (l : List Qx) (i : Nat) : ∀ n,i≤n→∃ r,K3 l n = K3 l i ++ r
  | 0, h => by obtain rfl : i = 0 := by omega
               exact ⟨[],qe⟩
  | n + 1,h=>by
    by_cases e : i = n + 1
    · subst e;exact ⟨[],qe⟩
    · obtain ⟨r,a⟩:=qgd l i n q0
      exact ⟨_,by rw [q1z,a,List.append_assoc]⟩
def q8n (l : List Qx) (i : Nat) : Int:=match l[i]? with
  | some p=>p.Size
  | none=>0
def wts (l : List Qx) (k : Nat) : List Int:=(K3 l k).map (q8n l)
def ats (l : List Qx) (k : Nat) : List Int:=(K3 l k).map fun (i : Nat)=>(i : Int)
theorem qcm {l : List Qx} : ∀ k,k≤l.length→(wts l k).sum = wtS l k
  | 0,_=>by simp [wts,K3,wtS]
  | k + 1,h=>by
    rw [qck (show k < l.length by omega),← qcm k q0]
    unfold wts
    rw [q1z,q10 (show k < l.length by omega),List.map_append,List.sum_append]
    by_cases a : l[k].Kind = 3
    · simp [a,q8n,List.getElem?_eq_getElem (show k < l.length by omega)]
    · simp [a]
theorem qnr {l : List Qx} {i n : Nat} (a : i < l.length) (hi : i < n) (c : l[i].Kind = 3) : (wts l n)[(K3 l i).length]? = some l[i].Size∧(ats l n).drop (K3 l i).length = (i : Int)::(ats l n).drop ((K3 l i).length + 1)∧(K3 l (i + 1)).length = (K3 l i).length + 1:=by
  obtain ⟨r,b⟩:=qgd l (i + 1) n q0;have hs : K3 l (i + 1) = K3 l i ++ [i]:=by rw [q1z,q10 a];simp [c]
  have b : K3 l n = K3 l i ++ i::r:=by rw [b,hs];simp
  refine ⟨?_,?_,by rw [hs];simp⟩
  · unfold wts;rw [b,List.map_append,List.getElem?_append_right qe];simp [q8n,List.getElem?_eq_getElem a]
  · unfold ats;rw [← List.map_drop,← List.map_drop,b];simp
theorem qwc {a : List Int} (n : a.length≤200) (hb : ∀ x∈a,0≤x∧x≤1000000) : loop (q4n a) (0,0) = some a.sum:=by
  have h : ∀ k,k≤a.length→0≤Ql a k∧Ql a k≤k * 1000000:=by
    intro k
    induction k with
    | zero=>intro _;simp [Ql]
    | succ k ih=>
      intro o;have:=ih q0;have:=hb _ (Y5 (show k < a.length by omega));rw [q31 (show k < a.length by omega)];omega
  have:=Yg (f:=q4n a) (σ:=Unit) (fun j _=>((j : Int),Ql a j)) a.length (fun j c=>True) (fun b=>b = a.sum) ?_ ?_ (k0:=0) (c0:=()) q0 trivial
  · obtain ⟨b,l,rfl⟩:=this;exact l
  · rintro j _ g _;have d : decide ((j : Int) < (a.length : Int)) = true:=Q9 q0;refine .inl ⟨(),?_,trivial⟩;simp only [q4n,d,Q2,K5 g,qh];have b1:=h j q0;have m:=h (j + 1) q0;have e:=q31 g;rw [Q5 q0,Q5 q0,← e];rfl
  · rintro _ _;have d : decide ((a.length : Int) < (a.length : Int)) = false:=Qb q0;exact ⟨Ql a a.length,by simp only [q4n,d,Q1],by simp [Ql]⟩
theorem qwg {w : Int} {l : List Qx} (q : 0≤w∧w≤1000000) (hn : l.length≤200) (u : Jo l) :
    ∃ out : List Int,loop (q1u l w) (0,w,[],List.replicate l.length 0,[]) = some (Ko w l l.length,wts l l.length,out,ats l l.length)∧out.length = l.length∧∀ i (h : i < l.length),l[i].Kind≠3→out[i]? = some (own w l[i]):=by
  have:=Yg (f:=q1u l w) (σ:=List Int) (fun k out=>((k : Int),Ko w l k,wts l k,out,ats l k)) l.length
    (fun k out=>out.length = l.length∧∀ i (h : i < l.length),i < k→l[i].Kind≠3→out[i]? = some (own w l[i]))
    (fun b=>∃ out : List Int,b = (Ko w l l.length,wts l l.length,out,ats l l.length)∧out.length = l.length∧∀ i (h : i < l.length),l[i].Kind≠3→out[i]? = some (own w l[i])) ?_ ?_ (k0:=0) (c0:=List.replicate l.length 0) q0 ⟨qe,fun i h h'=>q0⟩
  · obtain ⟨b,h1,out,rfl,h2,c⟩:=this;have e : Ko w l 0 = w:=by simp [Ko,fixS]
    rw [e] at h1;exact ⟨out,h1,h2,c⟩
  · rintro k out a ⟨p,m⟩;have hb : decide ((k : Int) < (l.length : Int)) = true:=Q9 q0;have s:=u _ (Y5 a);have hs : w64 ((k : Int) + 1) = ((k + 1 : Nat) : Int):=by rw [Q5 q0];omega
    have f1:=qau q u k q0;have f2:=qau q u (k + 1) q0;have fs:=qid (w:=w) a
    have g : ∀ x,own w l[k] = x→l[k].Kind≠3→w64 (Ko w l k - x) = Ko w l (k + 1)∧wts l (k + 1) = wts l k∧ats l (k + 1) = ats l k∧q77 (k : Int) x out (Ko w l k) = some (out.set k x,w64 (Ko w l k - x)):=by
      intro x hx c;have ob:=qfa q s c;rw [qx c] at fs;refine ⟨?_,?_,?_,?_⟩
      · unfold Ko;rw [Q5 q0];omega
      · unfold wts;rw [q1z,q10 a];simp [c]
      · unfold ats;rw [q1z,q10 a];simp [c]
      · unfold q77;rw [Zr rfl (show k < out.length by omega)];rfl
    have inv : ∀ x,own w l[k] = x→l[k].Kind≠3→(out.set k x).length = l.length∧∀ i (h : i < l.length),i < k + 1→l[i].Kind≠3→(out.set k x)[i]? = some (own w l[i]):=by
      intro x hx c;refine ⟨by simpa using p,fun i hi v d=>?_⟩;by_cases e : i = k
      · subst e;rw [List.getElem?_set_self q0,hx]
      · rw [List.getElem?_set_ne q0];exact m i hi q0 d
    refine .inl ?_;by_cases k1 : l[k].Kind = 1
    · have n : (l[k].Kind == 1) = true:=by simpa using k1
      have j : own w l[k] = l[k].Size:=by unfold own;rw [qx q0]
      obtain ⟨s1,t,r,s4⟩:=g _ j q0;refine ⟨out.set k l[k].Size,?_,inv _ j q0⟩;simp only [q1u,hb,Q2,K5 a,qh,n,s4,hs,Qu,List.length_set,if_true,s1,t,r]
    have n : (l[k].Kind == 1) = false:=by simpa using k1
    by_cases y : l[k].Kind = 2
    · have z : (l[k].Kind == 2) = true:=by simpa using y
      obtain ⟨s1,t,r,s4⟩:=g _ rfl q0;refine ⟨out.set k (own w l[k]),?_,inv _ rfl q0⟩;simp only [q1u,hb,Q2,Q1,K5 a,qh,n,z,(qfa q s q0).2.2 y,s4,hs,Qu,List.length_set,if_true,s1,t,r]
    have z : (l[k].Kind == 2) = false:=by simpa using y
    have o : l[k].Kind = 3:=by unfold VOk at s;omega
    refine ⟨out,?_,p,fun i hi v d=>m i hi (by
      by_cases e : i = k
      · subst e;exact absurd o d
      · omega) d⟩
    have kl:=qcv l k
    have a1 : app 8 (wts l k) [l[k].Size] = some (wts l (k + 1)):=by
      rw [Z7 (by simp [wts];omega)];unfold wts;rw [q1z,q10 a];simp [o,q8n,List.getElem?_eq_getElem a]
    have a2 : app 8 (ats l k) [(k : Int)] = some (ats l (k + 1)):=by
      rw [Z7 (by simp [ats];omega)];unfold ats;rw [q1z,q10 a];simp [o]
    have r1 : Ko w l (k + 1) = Ko w l k:=by
      rw [qs o] at fs;unfold Ko;omega
    simp only [q1u,hb,Q2,Q1,K5 a,qh,n,z,a1,a2,hs,r1]
  · rintro out ⟨p,m⟩;have hb : decide ((l.length : Int) < (l.length : Int)) = false:=Qb q0;exact ⟨_,by simp only [q1u,hb,Q1],out,rfl,p,fun i hi c=>m i hi hi c⟩
theorem qwh {w : Int} {l : List Qx} (_ : 0≤w∧w≤1000000) (hn : l.length≤200) (f : Jo l) (x : 0≤Ko w l l.length∧Ko w l l.length≤1000000) : ∀ m i (out : List Int),l.length - i = m→i≤l.length→out.length = l.length→
    (∀ j (h : j < l.length),j < i∨l[j].Kind≠3→out[j]? = some (szI w l j))→
    loop (q1v (wts l l.length,Ko w l l.length,wtS l l.length)) (wtS l i,cutR (Ko w l l.length) (wtS l l.length) (wtS l i),((K3 l i).length : Int),(ats l l.length).drop (K3 l i).length,out) = some (q40 w l l.length):=by
  intro m
  induction m with
  | zero=>
    intro i out hm hi p d;obtain rfl : i = l.length:=by omega
    have hb : decide (((K3 l l.length).length : Int) < ((wts l l.length).length : Int)) = false:=Qb (by simp [wts]);refine Kg ?_;simp only [q1v,hb,Q1];congr 2;apply List.ext_getElem?;intro j;by_cases h : j < l.length
    · rw [d j h (.inl h)];simp [q40,h]
    · rw [List.getElem?_eq_none q0,List.getElem?_eq_none (by rw [qwf];omega)]
  | succ m ih=>
    intro i out hm hi p d;have a : i < l.length:=by omega
    by_cases b : l[i].Kind = 3
    · have o:=qcl f a;have w0:=qa9 f i q0;have wn:=qa9 f l.length q0;have y:=qg6 f (i:=i + 1) l.length q0 q0;have z:=o.2.2 b;have u : 0 < wtS l l.length∧wtS l l.length≤200000000:=⟨q0,q0⟩
      obtain ⟨c1,c2,c3⟩:=qho x (s:=wtS l i) ⟨w0.1,q0⟩ u;obtain ⟨d1,d2,d3⟩:=qho x (s:=wtS l (i + 1)) ⟨q0,y⟩ u;obtain ⟨g,v,t⟩:=qnr (n:=l.length) a a b
      have r : (K3 l i).length < (wts l l.length).length:=by
        rcases Nat.lt_or_ge (K3 l i).length (wts l l.length).length with h | h
        · exact h
        · rw [List.getElem?_eq_none h] at g;cases g
      have hb : decide (((K3 l i).length : Int) < ((wts l l.length).length : Int)) = true:=Q9 q0;have e1 : idx (wts l l.length) ((K3 l i).length : Int) = some l[i].Size:=by rw [q7y];exact g
      have k:=qck a;rw [qs b] at k;have e2 : w64 (wtS l i + l[i].Size) = wtS l (i + 1):=by rw [Q5 q0];omega
      have e3 : idx ((ats l l.length).drop (K3 l i).length) 0 = some (i : Int):=by rw [v];rfl
      have e4 : idx out (i : Int) = some (out[i]'(q0)):=K5 q0
      have e5 : slc ((ats l l.length).drop (K3 l i).length) 1 (((ats l l.length).drop (K3 l i).length).length : Int) = some ((ats l l.length).drop ((K3 l i).length + 1)):=by
        rw [v];unfold slc;rw [qs ⟨q0,by simp only [List.length_cons];omega,q0⟩];congr 1;simp;exact List.take_of_length_le qe
      have kl:=qcv l i;have e6 : w64 (((K3 l i).length : Int) + 1) = ((K3 l (i + 1)).length : Int):=by rw [Q5 q0,t];omega
      have e7 : w64 (cutR (Ko w l l.length) (wtS l l.length) (wtS l (i + 1)) - cutR (Ko w l l.length) (wtS l l.length) (wtS l i)) = szI w l i:=by rw [Q5 q0,q112 a b]
      have step : q1v (wts l l.length,Ko w l l.length,wtS l l.length) (wtS l i,cutR (Ko w l l.length) (wtS l l.length) (wtS l i),((K3 l i).length : Int),(ats l l.length).drop (K3 l i).length,out) =
          some (.inl (wtS l (i + 1),cutR (Ko w l l.length) (wtS l l.length) (wtS l (i + 1)),((K3 l (i + 1)).length : Int),(ats l l.length).drop (K3 l (i + 1)).length,out.set i (szI w l i))):=by
        simp only [q1v,hb,Q2,e1,qh,e2,d1,e3,e4,e5,e6,e7,t]
        rfl
      rw [Ke step];refine ih (i + 1) _ q0 q0 (by simpa using p) fun j q c=>?_;by_cases e : j = i
      · subst e;rw [List.getElem?_set_self q0]
      · rw [List.getElem?_set_ne q0];refine d j q ?_;rcases c with h | h
        · exact .inl q0
        · exact .inr h
    · have ks : K3 l (i + 1) = K3 l i:=by rw [q1z,q10 a];simp [b]
      have k:=qck a;rw [qx b] at k;have:=ih (i + 1) out q0 q0 p fun j q c=>?_
      · rw [ks,show wtS l (i + 1) = wtS l i by omega] at this;exact this
      · refine d j q ?_;rcases c with h | h
        · by_cases e : j = i
          · subst e;exact .inr b
          · exact .inl q0
        · exact .inr h
def qls (w : Int) (l : List Qx) : List Int × Int:=
  if chk l≠0 then ([],chk l) else if w < 0∨w > 1000000 then ([],2) else if Ko w l l.length < 0 then ([],16) else if Ko w l l.length > 0∧wtS l l.length = 0 then ([],28) else (q40 w l l.length,0)
theorem qow {l : List Qx} (h : chk l = 0) : l.length≤200∧Jo l:=by
  unfold chk at h;split at h
  · omega
  · split at h
    · exact ⟨q0,by assumption⟩
    · omega
theorem q10m (w : Int) (l : List Qx) (hI : ∀ p∈l,qcw p) : q76 w l = some (qls w l):=by
  unfold q76 qls;rw [q10h l hI];simp only [qh];by_cases m : chk l = 0
  · have e : (chk l != 0) = false:=by simpa using m
    obtain ⟨hn,c⟩:=qow m;rw [qx (by simpa using m)];simp only [e,Q1];by_cases z : w < 0∨w > 1000000
    · rw [qs z];by_cases o : w < 0
      · simp [o]
      · have s : w > 1000000:=by omega
        simp [o,s]
    · rw [qx z];have o : ¬ w < 0:=by omega
      have s : ¬ w > 1000000:=by omega
      simp only [Qb o,Qb s,Q1,qh];have d : 0≤w∧w≤1000000:=⟨q0,q0⟩
      have hm : mks 8 (l.length : Int) (0 : Int) = some (List.replicate l.length 0):=by
        unfold mks;rw [qs ⟨q0,q0⟩];simp
      obtain ⟨out,g1,g2,g3⟩:=qwg d hn c;rw [hm];simp only [qh];rw [g1];simp only [qh];have fb:=qau d c l.length q0;have wb:=qa9 c l.length q0;by_cases q : Ko w l l.length < 0
      · rw [qs q];simp only [Q9 q,Q2]
      · rw [qx q];simp only [Qb q,Q1];have hR : 0≤Ko w l l.length∧Ko w l l.length≤1000000:=⟨q0,by unfold Ko;omega⟩
        have k : q79 (Ko w l l.length) (wts l l.length) = some (wts l l.length,Ko w l l.length,wtS l l.length):=by
          unfold q79;rw [qwc (by have:=qcv l l.length;simp [wts];omega) (fun x u=>?_),qcm l.length q0]
          · rfl
          · unfold wts at u;obtain ⟨i,hi,rfl⟩:=List.mem_map.1 u;unfold K3 at hi;obtain ⟨hi,g⟩:=List.mem_filter.1 hi;have hi : i < l.length:=by simpa using hi
            rw [q10 hi] at g;have:=qlr (c _ (Y5 hi)) (by simpa using g);unfold q8n;rw [List.getElem?_eq_getElem hi];simp only;omega
        have fin:=qwh d hn c hR l.length 0 out q0 q0 g2 (fun j hj h=>by
          rcases h with h | h
          · omega
          · rw [g3 j hj h,q113 hj h])
        have c0 : cutR (Ko w l l.length) (wtS l l.length) (wtS l 0) = 0:=by simp [cutR,wtS]
        rw [c0] at fin;have fin : loop (q1v (wts l l.length,Ko w l l.length,wtS l l.length)) (0,0,0,ats l l.length,out) = some (q40 w l l.length):=fin
        have a : ((q79 (Ko w l l.length) (wts l l.length)).bind fun b=>(Qu b.1.length (wts l l.length).length).bind fun v=>((loop (q1v b) (0,0,0,ats l l.length,out)).bind fun x0=>some x0).bind fun n=>some (n,(0 : Int))) = some (q40 w l l.length,0):=by
          rw [k];simp only [qh,Qu,if_true,fin]
        have y : ((ats l l.length).length : Int) = 0↔wtS l l.length = 0:=by
          rw [← qcm l.length q0];have e1 : (ats l l.length).length = (K3 l l.length).length:=by simp [ats]
          constructor
          · intro h;have : K3 l l.length = []:=List.eq_nil_of_length_eq_zero q0;simp [wts,this]
          · intro h;rw [qcm l.length q0] at h
            have : K3 l l.length = []:=by
              rw [List.eq_nil_iff_forall_not_mem];intro i hi;unfold K3 at hi;obtain ⟨hi,g⟩:=List.mem_filter.1 hi;have hi : i < l.length:=by simpa using hi
              rw [q10 hi] at g;have:=(qcl c hi).2.2 (by simpa using g);have:=qa9 c i q0;have:=qg6 c (i:=i + 1) l.length q0 q0;omega
            simp [ats,this]
        by_cases f : Ko w l l.length > 0
        · by_cases r : wtS l l.length = 0
          · have t : (((ats l l.length).length : Int) == 0) = true:=by simpa using y.2 r
            rw [qs ⟨f,r⟩];simp only [Q9 f,Q2,qh,t]
          · have t : (((ats l l.length).length : Int) == 0) = false:=by
              rw [beq_eq_false_iff_ne];exact fun h=>r (y.1 h)
            rw [qx (fun h=>r h.2)];simp only [Q9 f,Q2,qh,t,Q1,a]
        · rw [qx (fun h=>f h.1)];simp only [Qb f,Q1,qh,a]
  · have e : (chk l != 0) = true:=by simpa using m
    rw [qs m];simp only [e,Q2]
end Go.Sh
