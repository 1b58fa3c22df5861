/- Rs2 Rs3 Qb1 Rs4 Qb2 Pf3 Rs5 Rs6 Rs7 Rt1 Rt2 Rt3 Rt4 Rm1 Rt5 Rt6 Rt8 -/
import Derived.Test.YtiejlbckgihckaaK11
namespace Go.Sh
open Go Go.Am
theorem qwc (v : Qe) : q66 v = some (decide ((-1000000≤v.X∧-1000000≤v.Y∧-1000000≤v.Z)∧v.X≤1000000∧v.Y≤1000000∧v.Z≤1000000)):=by
  unfold q66;by_cases a : min (min v.X v.Y) v.Z ≥ -1000000
  · by_cases b : max (max v.X v.Y) v.Z≤1000000
    · rw [Q6 a,Q6 b,qw,qj];congr 1;exact (Q6 q6).symm
    · rw [Q6 a,Q9 b,qw,qj];congr 1;exact (Q9 q6).symm
  · rw [Q9 a,qv,qj];congr 1;exact (Q9 q6).symm
theorem qjn (b : qf) : q67 b = some (decide (vB b)):=by
  unfold q67 vB;simp only [qwc,qj];by_cases a : b.Lo.X < b.Hi.X
  · by_cases c : b.Lo.Y < b.Hi.Y
    · by_cases d : b.Lo.Z < b.Hi.Z
      · simp only [a,c,d,decide_true,qw,qj,true_and];by_cases f : (-1000000≤b.Lo.X∧-1000000≤b.Lo.Y∧-1000000≤b.Lo.Z)∧b.Lo.X≤1000000∧b.Lo.Y≤1000000∧b.Lo.Z≤1000000
        · rw [Q6 f];simp only [qw,qj];congr 1;exact decide_eq_decide.2 q6
        · rw [Q9 f];simp only [qv,qj];congr 1;exact (Q9 q6).symm
      · simp [a,c,d]
    · simp [a,c]
  · simp [a]
theorem qqn (v : Qe) (n : Int) : q4u v n = some (decide ((n≤v.X∧n≤v.Y∧n≤v.Z)∧v.X≤1000000∧v.Y≤1000000∧v.Z≤1000000)):=by
  unfold q4u
  by_cases a : v.X ≥ n <;> by_cases c : v.Y ≥ n <;> by_cases d : v.Z ≥ n <;> by_cases b : v.X≤1000000 <;> by_cases f : v.Y≤1000000 <;> by_cases g : v.Z≤1000000 <;>
    simp [a,c,d,b,f,g] <;> omega
theorem qqx (b : qf) : q7g b = some (decide (vB b)):=by
  unfold q7g vB;simp only [qqn,qj];by_cases a : (-1000000≤b.Lo.X∧-1000000≤b.Lo.Y∧-1000000≤b.Lo.Z)∧b.Lo.X≤1000000∧b.Lo.Y≤1000000∧b.Lo.Z≤1000000
  · rw [Q6 a];simp only [qw,qj];by_cases c : (-1000000≤b.Hi.X∧-1000000≤b.Hi.Y∧-1000000≤b.Hi.Z)∧b.Hi.X≤1000000∧b.Hi.Y≤1000000∧b.Hi.Z≤1000000
    · rw [Q6 c];by_cases d : b.Lo.X < b.Hi.X <;> by_cases f : b.Lo.Y < b.Hi.Y <;> by_cases g : b.Lo.Z < b.Hi.Z <;> simp [d,f,g] <;> omega
    · rw [Q9 c];simp only [qv,qj];congr 1;exact (Q9 q6).symm
  · rw [Q9 a];simp only [qv,qj];congr 1;exact (Q9 q6).symm
theorem qwb (l : List qf) (c : l.length≤1000000) : q7n l (fun a=>q2b a) = some (decide (¬ ∀ r∈l,vB r)):=by
  have hs : ∀ (k : Nat) (h : k < l.length),q3f l (fun a=>q2b a) (k : Int) = some (if (fun r=>!decide (vB r)) l[k] = true then .inr (.inr (k : Int)) else .inl ((k + 1 : Nat) : Int)):=by
    intro k h;simp only [q3f,dlt h,qw,Qp h,qj,w64s h c,q2b,qjn];by_cases g : vB l[k] <;> simp [g]
  have hd : q3f l (fun a=>q2b a) (l.length : Int) = some (.inr (.inl ())):=by simp only [q3f,dnl,qv]
  unfold q7n qai;rcases q2o l (fun r=>!decide (vB r)) (fun k _=>(k : Int)) () _ hs hd with ⟨d,b⟩ | ⟨k,m,j,_,b⟩
  · rw [b];have : ∀ r∈l,vB r:=fun r f=>by simpa using d r f
    simp [];omega
  · rw [b];have : ¬ ∀ r∈l,vB r:=fun h=>by simp [h _ (Kw m)] at j
    simp only [qj];rw [Q6 this,Q6 q6]
theorem qwa (l : List qf) (c : l.length≤1000000) : q7p l (fun a=>q2a a) = some (decide (¬ ∀ r∈l,vB r)):=by
  have hs : ∀ (k : Nat) (h : k < l.length),q3h l (fun a=>q2a a) (k : Int) = some (if (fun r=>!decide (vB r)) l[k] = true then .inr (.inr (k : Int)) else .inl ((k + 1 : Nat) : Int)):=by
    intro k h;simp only [q3h,dlt h,qw,Qp h,qj,w64s h c,q2a,qjn];by_cases g : vB l[k] <;> simp [g]
  have hd : q3h l (fun a=>q2a a) (l.length : Int) = some (.inr (.inl ())):=by simp only [q3h,dnl,qv]
  unfold q7p qak;rcases q2o l (fun r=>!decide (vB r)) (fun k _=>(k : Int)) () _ hs hd with ⟨d,b⟩ | ⟨k,m,j,_,b⟩
  · rw [b];have : ∀ r∈l,vB r:=fun r f=>by simpa using d r f
    simp [];omega
  · rw [b];have : ¬ ∀ r∈l,vB r:=fun h=>by simp [h _ (Kw m)] at j
    simp only [qj];rw [Q6 this,Q6 q6]
theorem qw6 (s : Mg ql qf) (a b : Int) (c : List ql) (hl : (s.flat putB).length + c.length≤1000000) :
    q8o (s.flat putB) s.sec (s.done.length : Int) s.hi a b c = some ((addM putB s a b c).sec,((addM putB s a b c).done.length : Int),(addM putB s a b c).hi,(addM putB s a b c).flat putB):=by
  have z : (s.flat putB).length = s.done.length + s.sec.length:=by simp [Mg.flat]
  have d : s.sec.length≤1000000:=by omega
  unfold q8o;rcases Ug putB s a b c with ⟨m,r,t,n⟩ | ⟨m,n⟩
  · have hb : decide ((c.length : Int) > 0) = true:=Q6 (by have:=List.length_pos_iff.2 m;omega);have u : (s.hi == a) = true:=by simpa using t
    rw [r] at hb;rw [n,r];simp only [hb,qw,u,qj,qfq _ _ d,decide_true]
    have:=q9o (fun v : qf=>({Lo:=v.Lo,Hi:=({X:=v.Hi.X,Y:=v.Hi.Y,Z:=b} : Qe)} : qf)) s.done (s.sec.map (putB s.lo s.hi)) (by simp;omega) (q63 b) (fun k o f y=>by
      have l : (s.done ++ s.sec.map (putB s.lo s.hi)).length = (s.flat putB).length:=rfl
      simp only [q63,dlt f,qw,Qp f,qj,w64s f q6,Int.toNat_natCast]) (fun o=>by simp only [q63,dnl,qv])
    rw [show s.flat putB = s.done ++ s.sec.map (putB s.lo s.hi) from rfl,this];simp only [qj,Mg.flat,List.map_map];rfl
  · rw [n]
    have w : ((cond (decide ((c.length : Int) > 0)) (some (s.hi == a)) (some false)).bind fun j=>(cond j ((q7r s.sec c).bind fun g=>some g) (some false))) = some false:=by
      by_cases l : c = []
      · subst l;simp
      · have hb : decide ((c.length : Int) > 0) = true:=Q6 (by have:=List.length_pos_iff.2 l;omega);simp only [hb,qw,qj,qfq _ _ d];by_cases q : s.hi = a
        · have x : s.sec≠c:=fun h=>m ⟨l,h.symm,q⟩;simp [q,x]
        · have : (s.hi == a) = false:=by simpa using q
          simp [this]
    have p:=q6y c (putB a b) (s.flat putB) (fun o=>(c,((s.flat putB).length : Int),b,o)) (q64 c a b (s.flat putB)) (fun k f o y=>by
      simp only [q64,dlt f,qw,Qp f,qj,w64s f q6];rw [Ku (by simp;omega)]
      rfl) (fun o=>by simp only [q64,dnl,qv])
    rw [← Option.bind_assoc,w];simp only [qj,qv,p];simp [Mg.flat]
theorem qxo (l : List qf) (o : List Int) (d : l.length≤400) (f : o.length≤10000) : loop (q3r l) (0,o) = some (o ++ zsOf l):=
  Jd l q6 (fun r=>[r.Lo.Z,r.Hi.Z]) o (fun o=>o) (q3r l) (fun k b c a=>by
    have g : c.length = o.length + 2 * k:=by
      rw [a,List.length_append];have:=Zw (l.take k);rw [List.length_take,Nat.min_eq_left q6] at this;unfold zsOf at this;omega
    simp only [q3r,dlt b,qw,Qp b,qj,w64s b q6]
    rw [Ku (by simp;omega)]
    rfl) (fun o=>by simp only [q3r,dnl,qv])
theorem qem (l : List qf) (f : l.length≤400) (x : Int) : loop (q3t l x) (0,[]) = some (atB l x):=by
  have:=Jd l q6 (fun r=>if covB x r = true then [Zt r] else []) [] (fun o=>o) (q3t l x) (fun k b o d=>by
    have g : o.length≤k:=by rw [d,List.nil_append];have:=Jq (l.take k) x;rw [List.length_take,Nat.min_eq_left q6] at this;exact this
    simp only [q3t,dlt b,qw,Qp b,qj,w64s b q6];by_cases a : l[k].Lo.Z≤x
    · by_cases c : x < l[k].Hi.Z
      · simp only [a,c,decide_true,qw,qj,covB,Bool.and_self,if_true];rw [Ku (by simp;omega)];rfl
      · simp only [a,c,decide_true,decide_false,qw,qv,qj,covB,Bool.and_false,if_false,Bool.false_eq_true,List.append_nil]
    · simp only [a,decide_false,qv,qj,covB,Bool.false_and,if_false,Bool.false_eq_true,List.append_nil]) (fun o=>by simp only [q3t,dnl,qv])
  rw [List.nil_append] at this;exact this
theorem qsz {kind : Int} {p q : List qf} {xs : List Int} (aa : Qr (zsOf p ++ zsOf q) = xs) (h : p.length + q.length≤800) (F : Int × List ql × Int × Int × List qf→Option ((Int × List ql × Int × Int × List qf) ⊕ ((List ql × Int × Int × List qf) ⊕ (List qf × Int))))
    (af : ∀ (a b : Int) (k : Nat) (s : Mg ql qf),(s.flat putB).length + 400≤1000000→(h1 : k + 1 < xs.length)→a = xs[k]'(q6)→b = xs[k + 1]'h1→(secB kind p q a).length≤400→
      F (((k + 1 : Nat) : Int),s.sec,(s.done.length : Int),s.hi,s.flat putB) = some (.inl (((k + 1 + 1 : Nat) : Int),(addM putB s a b (secB kind p q a)).sec,((addM putB s a b (secB kind p q a)).done.length : Int),(addM putB s a b (secB kind p q a)).hi,(addM putB s a b (secB kind p q a)).flat putB)))
    (v : ∀ (a : Int) (k : Nat) (s : Mg ql qf),(h1 : k + 1 < xs.length)→a = xs[k]'(q6)→400 < (secB kind p q a).length→
      F (((k + 1 : Nat) : Int),s.sec,(s.done.length : Int),s.hi,s.flat putB) = some (.inr (.inr ([],4))))
    (y : ∀ (k : Nat) (s : Mg ql qf),xs.length≤k + 1→F (((k + 1 : Nat) : Int),s.sec,(s.done.length : Int),s.hi,s.flat putB) = some (.inr (.inl (s.sec,(s.done.length : Int),s.hi,s.flat putB)))) :
    (∃ a b c,loop F (1,[],0,0,[]) = some (.inl (a,b,c,mrgB kind p q)))∨(400 < (mrgB kind p q).length∧loop F (1,[],0,0,[]) = some (.inr ([],4))):=by
  have ai:=Zw p;have aj:=Zw q;obtain ⟨_,ac,d⟩:=Js (l:=zsOf p ++ zsOf q) (by simp;omega);have d : (Qr (zsOf p ++ zsOf q)).length≤1600:=by simp at d;omega
  have m : ∀ x,(secB kind p q x).length≤(mrgB kind p q).length:=fun x=>qj4 kind q6 x;have ag : mrgB kind p q = (K2 putB K0 (Yh (Qr (zsOf p ++ zsOf q)) (secB kind p q))).flat putB:=rfl;rw [ag] at m ⊢;rw [aa] at ac d m ⊢;generalize w : Yh xs (secB kind p q) = steps at m ⊢;have am : steps.length = xs.length - 1:=by rw [← w];exact q8w _ _
  have o : ∀ k (g : k < steps.length),steps[k] = (xs[k]'(q6),xs[k + 1]'(q6),secB kind p q (xs[k]'(q6))):=fun k g=>by subst w;exact q8v g q6
  have ab : ∀ k,k≤steps.length→(∀ j,j < k→∀ t,steps[j]? = some t→t.2.2.length≤400)→((K2 putB K0 (steps.take k)).flat putB).length≤1600 * 400:=fun k g n=>by
    have h1:=qbv putB (s0:=K0) (M:=400) (steps:=steps.take k) (fun t r=>by
      obtain ⟨i,hi,rfl⟩:=List.getElem_of_mem r;rw [List.length_take] at hi;rw [List.getElem_take]
      exact n i q6 _ (List.getElem?_eq_getElem q6))
    have z : (steps.take k).length≤1600:=by rw [List.length_take];omega
    have h3 : (K0.flat putB : List qf).length = 0:=rfl;have h4 : (steps.take k).length * 400≤1600 * 400:=Nat.mul_le_mul_right _ z;omega
  have main:=qh4 (f:=F) (fun k=>(((k + 1 : Nat) : Int),(K2 putB K0 (steps.take k)).sec,((K2 putB K0 (steps.take k)).done.length : Int),(K2 putB K0 (steps.take k)).hi,(K2 putB K0 (steps.take k)).flat putB))
    steps.length (fun j=>∀ t,steps[j]? = some t→t.2.2.length≤400) (.inl ((K2 putB K0 steps).sec,((K2 putB K0 steps).done.length : Int),(K2 putB K0 steps).hi,(K2 putB K0 steps).flat putB)) (.inr ([],4))
    (fun k g n=>by
      have u : k + 1 < xs.length:=by omega
      have hc:=n k (Nat.le_refl _) _ (List.getElem?_eq_getElem g);have hm:=ab k q6 fun j ak=>n j q6;rw [q4d putB g,o k g] at *;simp only at hc
      exact af _ _ k (K2 putB K0 (steps.take k)) q6 u rfl rfl hc)
    (fun k g n hb=>by
      have u : k + 1 < xs.length:=by omega
      have ao : k < xs.length:=by omega
      refine v _ k (K2 putB K0 (steps.take k)) u rfl ?_;refine Nat.lt_of_not_le fun h=>hb fun t r=>?_;rw [List.getElem?_eq_getElem g,o k g] at r
      cases r;exact h)
    (fun _=>by
      rw [List.take_length]
      exact y steps.length _ q6)
  have ae : ((((0 + 1 : Nat) : Int),(K2 putB K0 (steps.take 0)).sec,((K2 putB K0 (steps.take 0)).done.length : Int),(K2 putB K0 (steps.take 0)).hi,(K2 putB K0 (steps.take 0)).flat putB) : Int × List ql × Int × Int × List qf) = (1,[],0,0,[]):=rfl;rw [ae] at main;rcases main with ⟨_,z⟩ | ⟨j,n,hb,z⟩
  · exact .inl ⟨_,_,_,z⟩
  · refine .inr ⟨?_,z⟩;have al : j < xs.length:=by omega
    have h5 : 400 < (secB kind p q xs[j]).length:=by
      refine Nat.lt_of_not_le fun h=>hb fun t r=>?_;rw [List.getElem?_eq_getElem n,o j n] at r;cases r;exact h
    exact Nat.lt_of_lt_of_le h5 (m xs[j])
theorem qiw (l : List qf) (m : l.length≤400) (y : ∀ b∈l,vB b) : q68 l = some (if 400 < (mrgB 2 l []).length then ([],4) else (mrgB 2 l [],0)):=by
  unfold q68;have v:=Zw l;simp only [show idx [l] 0 = some l from rfl,qj,qxo l [] m qb,List.nil_append];rw [qwd _ q6];simp only [qj];have r : zsOf l = zsOf l ++ zsOf []:=by simp [zsOf]
  obtain ⟨_,x,d⟩:=Js (l:=zsOf l ++ zsOf []) (by rw [← r];omega);have d : (Qr (zsOf l ++ zsOf [])).length≤800:=by rw [← r] at d ⊢;omega
  have g : ∀ z,q50 (atB l z) = some (if 400 < (secB 2 l [] z).length then ([],4) else (secB 2 l [] z,0)):=fun z=>by
    have:=Jq l z;rw [qr5,mkR,qs q6,qp (qxa y z)];rfl
  rw [r]
  have:=qsz (kind:=2) (p:=l) (q:=[]) rfl (by simp;omega) (q3s (Qr (zsOf l ++ zsOf [])) l)
    (fun a b k s hs f o hb u=>by
      have h0 : k < (Qr (zsOf l ++ zsOf [])).length:=by omega
      have n : idx (Qr (zsOf l ++ zsOf [])) (w64 (((k + 1 : Nat) : Int) - 1)) = some a:=by rw [Qc q6,o];exact Ux q6 q6
      have w : idx (Qr (zsOf l ++ zsOf [])) ((k + 1 : Nat) : Int) = some b:=by rw [hb];exact Qp f
      have h:=g a;rw [qs q6] at h;simp only [q3s,dlt f,qw,n,w,qj,show idx [l] 0 = some l from rfl,qem l m,h,show ((0 : Int) != 0) = false from rfl,qv,qw6 s a b (secB 2 l [] a) q6]
      rw [w64s f q6])
    (fun a k s f o u=>by
      have n : idx (Qr (zsOf l ++ zsOf [])) (w64 (((k + 1 : Nat) : Int) - 1)) = some a:=by rw [Qc q6,o];exact Ux q6 q6
      have h:=g a;rw [qp u] at h
      simp only [q3s,dlt f,qw,n,Qp f,qj,show idx [l] 0 = some l from rfl,qem l m,h,show ((4 : Int) != 0) = true from rfl])
    (fun k s f=>by
      have : decide (((k + 1 : Nat) : Int) < ((Qr (zsOf l ++ zsOf [])).length : Int)) = false:=Q9 q6
      simp only [q3s,this,qv])
  rcases this with ⟨a,b,c,t⟩ | ⟨j,t⟩
  · rw [t];simp only [qj];by_cases j : 400 < (mrgB 2 l []).length
    · rw [Q6 (by omega : ((mrgB 2 l []).length : Int) > 400),qp j];rfl
    · rw [Q9 (by omega : ¬ ((mrgB 2 l []).length : Int) > 400),qs j];rfl
  · rw [t,qp j];rfl
theorem qw3 (l : List qf) : q8m l = some (mkB l):=by
  unfold q8m mkB;by_cases b : 400 < l.length
  · rw [Q6 (by omega : (l.length : Int) > 400),qw,qp b]
  rw [Q9 (by omega : ¬ (l.length : Int) > 400),qv,qs b,qwb l q6,qj];by_cases a : ∀ r∈l,vB r
  · rw [Q9 (fun h=>h a),qv,qiw l q6 a,qp a];rfl
  · rw [Q6 a,qw,qs a]
theorem qml (p q : List qf) (a : p.length≤1000000) : qag p q = some (decide (p = q)):=sameBox p q a
theorem qw0 (l : List qf) : q8l l = some (Yd l):=by
  unfold q8l Yd;by_cases c : 400 < l.length
  · rw [Q6 (by omega : (l.length : Int) > 400),qw,qp c]
  rw [Q9 (by omega : ¬ (l.length : Int) > 400),qv,qs c,qwa l q6,qj];by_cases a : ∀ r∈l,vB r
  · rw [Q9 (fun h=>h a),qv,qiw l q6 a,qp a,qj];by_cases b : 400 < (mrgB 2 l []).length
    · have d : mrgB 2 l []≠l:=fun h=>by rw [h] at b;exact c b
      rw [qp b,qs d];rfl
    · rw [qs b];simp only [qml (mrgB 2 l []) l q6];by_cases f : mrgB 2 l [] = l <;> simp [f]
  · rw [Q6 a,qw,qs a]
end Go.Sh
namespace Go.Sh
open Go Go.Am
def q42 (kind : Int) (p q : List qf) (z : Int) : Prop:=400 < (secB kind p q z).length∨400 < (secB 2 p [] z).length∨400 < (secB 2 q [] z).length
theorem qnn (kind : Int) {p q : List qf} (h : p.length + q.length≤800) (u : ∀ z,(atB p z).length + (atB q z).length≤490) {xs : List Int} (t : xs.length≤1000000) {i : Nat} (hi : i + 1 < xs.length) (hb : q42 kind p q (xs[i]'(q6))) (a : Int) (c : List ql) (o : List qf) :
    q12 xs p q kind (c,a,(i : Int),o) = some (.inr (.inr ([],false))):=by
  have b : i < xs.length:=by omega
  have k : w64 ((i : Int) + 1) = ((i + 1 : Nat) : Int):=w64s b t;have y:=Jq p xs[i];have w:=Jq q xs[i];have v:=u xs[i];have m : Ja p xs[i] = some (atB p xs[i]):=qa7 p q6 _;have aq : Ja q xs[i] = some (atB q xs[i]):=qa7 q q6 _;have j : Zs kind (atB p xs[i]) (atB q xs[i]) = some (secB kind p q xs[i]):=q4s kind q6;have s : Zs 2 (atB p xs[i]) [] = some (secB 2 p [] xs[i]):=q4s 2 (by simp;omega);have l : Zs 2 (atB q xs[i]) [] = some (secB 2 q [] xs[i]):=q4s 2 (by simp;omega);unfold q12;simp only [k,dlt hi,qw,Qp b,m,aq,j,s,l,qj];by_cases g : 400 < (secB kind p q xs[i]).length
  · have d : decide (((secB kind p q xs[i]).length : Int) > 400) = true:=Q6 q6;simp only [d,qw,qj]
  have d : decide (((secB kind p q xs[i]).length : Int) > 400) = false:=Q9 q6;by_cases r : 400 < (secB 2 p [] xs[i]).length
  · have f : decide (((secB 2 p [] xs[i]).length : Int) > 400) = true:=Q6 q6;simp only [d,f,qw,qv,qj]
  have f : decide (((secB 2 p [] xs[i]).length : Int) > 400) = false:=Q9 q6;have x : 400 < (secB 2 q [] xs[i]).length:=by rcases hb with h | h | h <;> first | exact absurd h g | exact absurd h r | exact h
  have n : decide (((secB 2 q [] xs[i]).length : Int) > 400) = true:=Q6 q6;simp only [d,f,n,qw,qv,qj]
theorem qqv (kind : Int) {p q : List qf} (h : p.length + q.length≤800) (hz : ∀ z,(atB p z).length + (atB q z).length≤490) :
    q1x kind p q = some (mrgB kind p q,decide (((mrgB kind p q).length : Int)≤400))∨(q1x kind p q = some ([],false)∧∃ z,q42 kind p q z):=by
  unfold q1x;rw [qqr q6];simp only [qj];have ac:=Zw p;have ad:=Zw q;obtain ⟨_,ah,o⟩:=Js (l:=zsOf p ++ zsOf q) (by simp;omega);have v : (Qr (zsOf p ++ zsOf q)).length≤1600:=by simp at o;omega
  unfold mrgB;generalize Qr (zsOf p ++ zsOf q) = xs at v ⊢;generalize n : Yh xs (secB kind p q) = steps;have aj : steps.length = xs.length - 1:=by rw [← n];exact q8w _ _
  have a : ∀ k (b : k < steps.length),steps[k] = (xs[k]'(q6),xs[k + 1]'(q6),secB kind p q (xs[k]'(q6))):=fun k b=>by subst n;exact q8v b q6
  have w : ∀ k,k≤steps.length→(∀ j,j < k→∀ t,steps[j]? = some t→¬ q42 kind p q t.1)→((K2 putB K0 (steps.take k)).flat putB).length≤1600 * 400:=fun k b d=>by
    have h1:=qbv putB (s0:=K0) (M:=400) (steps:=steps.take k) (fun t c=>by
      obtain ⟨i,hi,rfl⟩:=List.getElem_of_mem c;rw [List.length_take] at hi;rw [List.getElem_take];have:=d i q6 _ (List.getElem?_eq_getElem q6);rw [a i q6] at this ⊢
      exact Nat.le_of_not_lt fun h=>this (.inl h))
    have s : (steps.take k).length≤1600:=by rw [List.length_take];omega
    have h3 : (K0.flat putB : List qf).length = 0:=rfl;have h4 : (steps.take k).length * 400≤1600 * 400:=Nat.mul_le_mul_right _ s;omega
  have main:=qh4 (f:=q12 xs p q kind) (fun k=>((K2 putB K0 (steps.take k)).sec,((K2 putB K0 (steps.take k)).done.length : Int),(k : Int),(K2 putB K0 (steps.take k)).flat putB))
    steps.length (fun j=>∀ t,steps[j]? = some t→¬ q42 kind p q t.1) (.inl ((K2 putB K0 steps).flat putB)) (.inr ([],false)) (fun k b d=>by
      have g : k + 1 < xs.length:=by omega
      have u:=d k (Nat.le_refl _) _ (List.getElem?_eq_getElem b);have hm:=w k q6 fun j af=>d j q6;rw [a k b] at u
      have r : qe2 kind p q xs[k]:=by
        refine ⟨hz _,?_,?_,?_⟩
        · exact Nat.le_of_not_lt fun h=>u (.inl h)
        · exact Nat.le_of_not_lt fun h=>u (.inr (.inl h))
        · exact Nat.le_of_not_lt fun h=>u (.inr (.inr h))
      have:=qno kind q6 (xs:=xs) q6 g r (K2 putB K0 (steps.take k)) q6 (fun h0=>by subst h0;rfl) (fun aa=>by
        obtain ⟨m,rfl⟩ : ∃ m,k = m + 1:=⟨k - 1,q6⟩
        rw [q4d putB q6,qe4,a m q6])
      rw [this,q4d putB b,a k b])
    (fun k b _ hb=>by
      have g : k + 1 < xs.length:=by omega
      have ak : k < xs.length:=by omega
      refine qnn kind h hz q6 g ?_ _ _ _;refine Classical.byContradiction fun y=>hb fun t c=>?_;rw [List.getElem?_eq_getElem b,a k b] at c
      cases c;exact y)
    (fun _=>by
      rw [List.take_length]
      have hb : decide (w64 ((steps.length : Int) + 1) < (xs.length : Int)) = false:=by
        rw [Qc q6];exact Q9 q6
      unfold q12
      simp only [hb,qv])
  have x : (((K2 putB K0 (steps.take 0)).sec,((K2 putB K0 (steps.take 0)).done.length : Int),((0 : Nat) : Int),(K2 putB K0 (steps.take 0)).flat putB) : List ql × Int × Int × List qf) = ([],0,0,[]):=rfl;rw [x] at main;rcases main with ⟨h1,s⟩ | ⟨j,d,hb,s⟩
  · exact .inl (by rw [s];rfl)
  · refine .inr ⟨by rw [s];rfl,?_⟩;have ag : j < xs.length:=by omega
    refine ⟨xs[j],?_⟩;refine Classical.byContradiction fun y=>hb fun t c=>?_;rw [List.getElem?_eq_getElem d,a j d] at c;cases c;exact y
theorem qen {p q : List qf} (h : p.length + q.length≤490) (z : Int) : (atB p z).length + (atB q z).length≤490:=by
  have a:=Jq p z;have b:=Jq q z;omega
theorem qsw (kind : Int) (z : Int) : secB kind [] [] z = []:=qcq kind
theorem qii (kind : Int) {p q : List qf} (h : p.length + q.length≤800) (b : ∀ z,(atB p z).length + (atB q z).length≤490) (hs : ∀ z,q42 kind p q z→400 < (mrgB kind p q).length) :
    ∃ o,q1x kind p q = some (o,decide ((mrgB kind p q).length≤400))∧((mrgB kind p q).length≤400→o = mrgB kind p q):=by
  rcases qqv kind h b with a | ⟨a,z,b⟩
  · refine ⟨_,?_,fun _=>rfl⟩;rw [a];have : decide (((mrgB kind p q).length : Int)≤400) = decide ((mrgB kind p q).length≤400):=decide_eq_decide.2 q6;rw [this]
  · have:=hs z b;refine ⟨[],?_,fun h=>absurd h q6⟩;rw [a,Q9 q6]
theorem qja {l : List qf} (h : l.length≤100000) : ∀ z,q42 2 l [] z→400 < (mrgB 2 l []).length:=by
  intro z a;have b:=qj4 2 (p:=l) (q:=[]) (by simpa using h) z;rcases a with a | a | a
  · omega
  · omega
  · rw [qsw] at a;simp at a
theorem qqz (l : List qf) (n : l.length≤1000000) {γ : Type} (f : Int→Option (Int ⊕ (Unit ⊕ γ))) (e : γ) (g : ∀ k (h : k < l.length),f (k : Int) = some (if (fun r=>!decide (vB r)) l[k] = true then .inr (.inr e) else .inl ((k + 1 : Nat) : Int))) (hd : f (l.length : Int) = some (.inr (.inl ()))) :
    loop f 0 = some (if ∀ b∈l,vB b then .inl () else .inr e):=by
  rcases q2o l (fun r=>!decide (vB r)) (fun k _=>e) () f g hd with ⟨c,a⟩ | ⟨k,m,j,_,a⟩
  · have : ∀ r∈l,vB r:=fun r d=>by simpa using c r d
    rw [qp this];exact a
  · have : ¬ ∀ r∈l,vB r:=fun h=>by simp [h _ (Kw m)] at j
    rw [qs this];exact a
theorem qqp (l : List qf) : q4w l = some (Yd l):=by
  unfold q4w Yd;by_cases b : 400 < l.length
  · rw [Q6 (by omega : (l.length : Int) > 400),qw,qp b]
  rw [Q9 (by omega : ¬ (l.length : Int) > 400),qv,qs b]
  rw [qqz l q6 (q4x l) 8 (fun k c=>by
    simp only [q4x,dlt c,qw,Qp c,qj,qqx,w64s c q6]
    by_cases a : vB l[k] <;> simp [a]) (by simp only [q4x,dnl,qv])]
  by_cases a : ∀ r∈l,vB r
  · rw [qp a,qp a];obtain ⟨o,g,m⟩:=qii 2 (p:=l) (q:=[]) (by simp;omega) (qen (by simp;omega)) (qja q6);simp only [qj,g];by_cases f : 400 < (mrgB 2 l []).length
    · have d : mrgB 2 l []≠l:=fun h=>by rw [h] at f;exact b f
      rw [Q9 q6,qs d];rfl
    · rw [Q6 q6,m q6,sameBox _ l q6];by_cases j : mrgB 2 l [] = l <;> simp [j]
  · rw [qs a,qs a];rfl
end Go.Sh
namespace Go.Sh
open Go Go.Am
noncomputable def ind (p : Prop) : Int:=by classical exact if p then 1 else 0
theorem qgq {p : Prop} (h : p) : ind p = 1:=by unfold ind;simp [h]
theorem q9u {p : Prop} (h : ¬ p) : ind p = 0:=by unfold ind;simp [h]
theorem q6t {p q : Prop} (h : p↔q) : ind p = ind q:=by rw [propext h]
theorem qnf {p q : Prop} : ind (p∨q) = ind p + ind q - ind (p∧q):=by
  by_cases hp : p <;> by_cases a : q <;> simp [ind,hp,a]
theorem q9t {p : Prop} : 0≤ind p∧ind p≤1:=by by_cases hp : p <;> simp [ind,hp]
def sumL {α : Type} (f : α→Int) : List α→Int
  | []=>0
  | a::r=>f a + sumL f r
theorem qjx {α : Type} (f : α→Int) (a b : List α) : sumL f (a ++ b) = sumL f a + sumL f b:=by
  induction a with
  | nil=>simp [sumL]
  | cons x a ih=>rw [List.cons_append,sumL,sumL,ih];omega
def inB (b : qf) (x y z : Int) : Prop:=(b.Lo.X≤x∧x < b.Hi.X)∧(b.Lo.Y≤y∧y < b.Hi.Y)∧(b.Lo.Z≤z∧z < b.Hi.Z)
def inR (r : ql) (x y : Int) : Prop:=(r.X0≤x∧x < r.X1)∧(r.Y0≤y∧y < r.Y1)
def inS (t : qm) (x : Int) : Prop:=t.Lo≤x∧x < t.Hi
noncomputable def cntS (s : List qm) (y : Int) : Int:=sumL (fun t=>ind (inS t y)) s
noncomputable def cntR (l : List ql) (x y : Int) : Int:=sumL (fun t=>ind (inR t x y)) l
noncomputable def cntB (l : List qf) (x y z : Int) : Int:=sumL (fun t=>ind (inB t x y z)) l
theorem qf2 : ∀ {s : List qm},Can s→∀ y,cntS s y = ind (has s y)
  | [],_,y=>by rw [q9u (Uw y)];rfl
  | a::s,h,y=>by
    have b:=qf2 h.tail y
    unfold cntS at b ⊢
    rw [sumL,b,q6t (Z9 (a:=a) (s:=s) (x:=y)),qnf]
    have : ¬ ((a.Lo≤y∧y < a.Hi)∧has s y):=fun ⟨c,h2⟩=>by have:=h.tail_gt h2;omega
    rw [q9u this];unfold inS;omega
theorem qlw (l : List ql) (x y : Int) : cntR l x y = cntS (covS l x) y:=by
  unfold cntR cntS
  induction l with
  | nil=>rfl
  | cons r l ih=>
    have e : covS (r::l) x = (if covR x r = true then [ysp r] else []) ++ covS l x:=rfl;rw [sumL,ih,e,qjx];congr 1;by_cases a : covR x r = true
    · rw [qp a];have:=q48.1 a;simp only [sumL,Int.add_zero];exact q6t ⟨fun h=>h.2,fun h=>⟨this,h⟩⟩
    · rw [qs a];rw [q48] at a;exact q9u fun h=>a h.1
theorem qlv (l : List qf) (x y z : Int) : cntB l x y z = cntR (atB l z) x y:=by
  unfold cntB cntR
  induction l with
  | nil=>rfl
  | cons r l ih=>
    have e : atB (r::l) z = (if covB z r = true then [Zt r] else []) ++ atB l z:=rfl;rw [sumL,ih,e,qjx];congr 1;by_cases a : covB z r = true
    · rw [qp a];have:=q1g.1 a;simp only [sumL,Int.add_zero];exact q6t ⟨fun h=>⟨h.1,h.2.1⟩,fun h=>⟨h.1,h.2,this⟩⟩
    · rw [qs a];rw [q1g] at a;exact q9u fun h=>a h.2.2
theorem CanR.cnt {l : List ql} (h : CanR l) (x y : Int) : cntR l x y = ind (hasR l x y):=by
  rw [qlw,qf2 (h.cov x),q6t J6]
theorem CanB.cnt {l : List qf} (h : CanB l) (x y z : Int) : cntB l x y z = ind (hasB l x y z):=by
  rw [qlv,(h.at z).cnt,q6t Uv]
end Go.Sh
namespace Go.Sh
open Go Go.Am
theorem qnc {b : qf} {l : List qf} {x y z : Int} : hasB (b::l) x y z↔inB b x y z∨hasB l x y z:=by
  constructor
  · rintro ⟨c,a,h⟩;rcases List.mem_cons.1 a with rfl | a
    · exact .inl h
    · exact .inr ⟨c,a,h⟩
  · rintro (h | ⟨c,a,h⟩)
    · exact ⟨b,qb,h⟩
    · exact ⟨c,by simp [a],h⟩
instance (b : qf) (x y z : Int) : Decidable (inB b x y z):=by unfold inB;infer_instance
instance qmb : (l : List qf)→(x y z : Int)→Decidable (hasB l x y z)
  | [],x,y,z=>isFalse (q9q x y z)
  | b::l,x,y,z=>by
    have:=qmb l x y z
    exact decidable_of_iff _ qnc.symm
theorem qqt (l : List qf) : q7d l = some (decide ((30 < l.length∧l.length≤400)∨420 < l.length)):=by
  unfold q7d;by_cases a : 30 < l.length
  · rw [Q6 (by omega : (l.length : Int) > 30),qw];by_cases b : l.length≤400
    · rw [Q6 (by omega : (l.length : Int)≤400)];simp only [qj,qw];congr 1;exact (Q6 (.inl ⟨a,b⟩)).symm
    · rw [Q9 (by omega : ¬ (l.length : Int)≤400)];simp only [qj,qv];congr 1;exact decide_eq_decide.2 q6
  · rw [Q9 (by omega : ¬ (l.length : Int) > 30),qv];simp only [qj,qv];congr 1;exact decide_eq_decide.2 q6
end Go.Sh
namespace Go.Sh
open Go Go.Am
def Zk (a b : qf) : Int:=
  let x:=min a.Hi.X b.Hi.X - max a.Lo.X b.Lo.X
  let y:=min a.Hi.Y b.Hi.Y - max a.Lo.Y b.Lo.Y
  let z:=min a.Hi.Z b.Hi.Z - max a.Lo.Z b.Lo.Z
  if x = 0∧y > 0∧z > 0 then y * z else if x > 0∧y = 0∧z > 0 then x * z else if x > 0∧y > 0∧z = 0 then x * y else 0
theorem qm3 (a b : qf) : Zk a b = Zk b a:=by
  unfold Zk;simp only [Int.min_comm b.Hi.X,Int.max_comm b.Lo.X,Int.min_comm b.Hi.Y,Int.max_comm b.Lo.Y,Int.min_comm b.Hi.Z,Int.max_comm b.Lo.Z]
def ltB (b : qf) : Prop:=b.Lo.X < b.Hi.X∧b.Lo.Y < b.Hi.Y∧b.Lo.Z < b.Hi.Z
theorem qlx {l : List qf} (f : ∀ x y z,cntB l x y z = ind (hasB l x y z)) : l.Pairwise fun b c=>∀ x y z,¬ (inB b x y z∧inB c x y z):=by
  have key : ∀ l : List qf,(∀ x y z,cntB l x y z≤1)→l.Pairwise fun b c=>∀ x y z,¬ (inB b x y z∧inB c x y z):=by
    intro l
    induction l with
    | nil=>intro _;exact .nil
    | cons b l ih=>
      intro h
      have nn : ∀ (l : List qf) x y z,0≤cntB l x y z:=fun l x y z=>by
        unfold cntB;induction l with
        | nil=>exact Int.le_refl _
        | cons c l ih=>have:=(q9t (p:=inB c x y z)).1;rw [sumL];omega
      have g : ∀ x y z,ind (inB b x y z) + cntB l x y z≤1:=h;refine List.pairwise_cons.2 ⟨fun c f x y z ⟨j,h2⟩=>?_,ih fun x y z=>by have:=g x y z;have:=(q9t (p:=inB b x y z)).1;omega⟩;have m:=g x y z;rw [qgq j] at m
      have k : ∀ l : List qf,c∈l→1≤cntB l x y z:=by
        intro l
        induction l with
        | nil=>intro h;cases h
        | cons d l ih2=>
          intro a;have e : cntB (d::l) x y z = ind (inB d x y z) + cntB l x y z:=rfl;rcases List.mem_cons.1 a with rfl | a
          · have:=nn l x y z;rw [e,qgq h2];omega
          · have:=ih2 a;have:=(q9t (p:=inB d x y z)).1;rw [e];omega
      have:=k l f;omega
  exact key l fun x y z=>by rw [f];exact q9t.2
end Go.Sh
namespace Go.Sh
open Go Go.Am
abbrev V3:=Qe × Qe × Qe
def zeroV : Qe:=⟨0,0,0⟩
noncomputable def axT (t : Nat) : V3:=match qn4 (t : Int) with
  | some m=>m
  | none=>(zeroV,zeroV,zeroV)
def qe3 (v : Qe) : Prop:=-1≤v.X∧v.X≤1∧-1≤v.Y∧v.Y≤1∧-1≤v.Z∧v.Z≤1
instance (v : Qe) : Decidable (qe3 v):=by unfold qe3;infer_instance
def mulV (m : V3) (v : Qe) : Qe:=⟨v.X * m.1.X + v.Y * m.2.1.X + v.Z * m.2.2.X,v.X * m.1.Y + v.Y * m.2.1.Y + v.Z * m.2.2.Y,v.X * m.1.Z + v.Y * m.2.1.Z + v.Z * m.2.2.Z⟩
def addV (a b : Qe) : Qe:=⟨a.X + b.X,a.Y + b.Y,a.Z + b.Z⟩
noncomputable def qgp (t : Nat) (at_ v : Qe) : Qe:=addV (mulV (axT t) v) at_
def InV (v : Qe) (lo : Int) : Prop:=lo≤v.X∧v.X≤1000000∧lo≤v.Y∧v.Y≤1000000∧lo≤v.Z∧v.Z≤1000000
instance (v : Qe) (lo : Int) : Decidable (InV v lo):=by unfold InV;infer_instance
def FOk (f : q9a) : Prop:=f.Turn < 24∧InV f.At (-1000000)
instance (f : q9a) : Decidable (FOk f):=by unfold FOk;infer_instance
def SOk (s : qee) : Prop:=FOk s.Frame∧InV s.Size 0
instance (s : qee) : Decidable (SOk s):=by unfold SOk;infer_instance
end Go.Sh
namespace Go.Sh
open Go Go.Am
def qkb : qf:={Lo:=({X:=0,Y:=0,Z:=0} : Qe),Hi:=({X:=0,Y:=0,Z:=0} : Qe)}
def rowOk (a b c : Int) : Prop:=(a = 1∧b = 0∧c = 0)∨(a = -1∧b = 0∧c = 0)∨(a = 0∧b = 1∧c = 0)∨(a = 0∧b = -1∧c = 0)∨(a = 0∧b = 0∧c = 1)∨(a = 0∧b = 0∧c = -1)
instance (a b c : Int) : Decidable (rowOk a b c):=by unfold rowOk;infer_instance
def qwh (p q : Qe) : qf:={Lo:=({X:=min p.X q.X,Y:=min p.Y q.Y,Z:=min p.Z q.Z} : Qe),Hi:=({X:=max p.X q.X,Y:=max p.Y q.Y,Z:=max p.Z q.Z} : Qe)}
noncomputable def qi7 (t : Nat) (at_ : Qe) (b : qf) : qf:=qwh (qgp t at_ b.Lo) (qgp t at_ b.Hi)
noncomputable def place (l : List qf) (f : q9a) : List qf × Int:=
  if Yd l≠0 then ([],Yd l) else if ¬ FOk f then ([],8) else if ∀ b∈l,vB (qi7 f.Turn.toNat f.At b) then mkB (l.map (qi7 f.Turn.toNat f.At)) else ([],16)
end Go.Sh
namespace Go.Sh
open Go Go.Am
theorem qd6 {x y : Int} (j : -2000002≤x∧x≤2000002) (g : -2000002≤y∧y≤2000002) : -4000008000004≤x * y∧x * y≤4000008000004:=by
  by_cases h : 0≤x
  · by_cases c : 0≤y
    · have:=Int.mul_le_mul j.2 g.2 c q6;have:=Int.mul_nonneg h c;omega
    · have d : 0≤-y:=by omega
      have b:=Int.mul_le_mul j.2 (show -y≤2000002 by omega) d q6;have f:=Int.mul_nonneg h d;rw [Int.mul_neg] at b f;omega
  · have a : 0≤-x:=by omega
    by_cases c : 0≤y
    · have b:=Int.mul_le_mul (show -x≤2000002 by omega) g.2 c q6;have f:=Int.mul_nonneg a c;rw [Int.neg_mul] at b f;omega
    · have d : 0≤-y:=by omega
      have b:=Int.mul_le_mul (show -x≤2000002 by omega) (show -y≤2000002 by omega) d q6;have f:=Int.mul_nonneg a d;rw [Int.neg_mul_neg] at b f;omega
theorem qw8 {b c : qf} (hb : vB b) (q : vB c) : q65 b c = some (Zk b c):=by
  unfold q65 Zk;unfold vB at hb q;have o : w64 (min b.Hi.X c.Hi.X - max b.Lo.X c.Lo.X) = min b.Hi.X c.Hi.X - max b.Lo.X c.Lo.X:=Qc q6;have n : w64 (min b.Hi.Y c.Hi.Y - max b.Lo.Y c.Lo.Y) = min b.Hi.Y c.Hi.Y - max b.Lo.Y c.Lo.Y:=Qc q6;have p : w64 (min b.Hi.Z c.Hi.Z - max b.Lo.Z c.Lo.Z) = min b.Hi.Z c.Hi.Z - max b.Lo.Z c.Lo.Z:=Qc q6;simp only [o,n,p];have bx : -2000002≤min b.Hi.X c.Hi.X - max b.Lo.X c.Lo.X∧min b.Hi.X c.Hi.X - max b.Lo.X c.Lo.X≤2000002:=by omega
  have k : -2000002≤min b.Hi.Y c.Hi.Y - max b.Lo.Y c.Lo.Y∧min b.Hi.Y c.Hi.Y - max b.Lo.Y c.Lo.Y≤2000002:=by omega
  have l : -2000002≤min b.Hi.Z c.Hi.Z - max b.Lo.Z c.Lo.Z∧min b.Hi.Z c.Hi.Z - max b.Lo.Z c.Lo.Z≤2000002:=by omega
  generalize min b.Hi.X c.Hi.X - max b.Lo.X c.Lo.X = x at *;generalize min b.Hi.Y c.Hi.Y - max b.Lo.Y c.Lo.Y = y at *;generalize min b.Hi.Z c.Hi.Z - max b.Lo.Z c.Lo.Z = z at *;have r:=qd6 k l;have p2:=qd6 bx l;have p3:=qd6 bx k;rw [Qc (x:=y * z) q6,Qc (x:=x * z) q6,Qc (x:=x * y) q6];by_cases f : x = 0
  · subst f;by_cases a : y > 0 <;> by_cases d : z > 0 <;> simp [a,d]
  · have ex : (x == 0) = false:=by simpa using f
    by_cases g : x > 0
    · by_cases a : y = 0
      · subst a;by_cases d : z > 0 <;> simp [f,ex,g,d]
      · have h : (y == 0) = false:=by simpa using a
        by_cases j : y > 0
        · by_cases d : z = 0
          · subst d;simp [f,ex,g,a,h,j]
          · have m : (z == 0) = false:=by simpa using d
            simp [f,ex,g,a,h,j,d,m]
        · simp [f,ex,g,a,h,j]
    · simp [f,ex,g]
end Go.Sh
namespace Go.Sh
open Go Go.Am
def grpR : List ql→List (Grp qm)
  | []=>[]
  | r::l=>match grpR l with
    | g::gs=>if g.lo = r.X0∧g.hi = r.X1 then ⟨g.lo,g.hi,ysp r::g.sec⟩::gs else ⟨r.X0,r.X1,[ysp r]⟩::g::gs
    | []=>[⟨r.X0,r.X1,[ysp r]⟩]
def grpB : List qf→List (Grp ql)
  | []=>[]
  | r::l=>match grpB l with
    | g::gs=>if g.lo = r.Lo.Z∧g.hi = r.Hi.Z then ⟨g.lo,g.hi,Zt r::g.sec⟩::gs else ⟨r.Lo.Z,r.Hi.Z,[Zt r]⟩::g::gs
    | []=>[⟨r.Lo.Z,r.Hi.Z,[Zt r]⟩]
theorem qgi : ∀ l : List ql,Qv putR (grpR l) = l
  | []=>rfl
  | r::l=>by
    have a:=qgi l
    unfold grpR
    split
    · rename_i g d h
      rw [h] at a
      split
      · rename_i b
        obtain ⟨b,c⟩:=b
        rw [← a]
        simp only [Qv,List.flatMap_cons,List.map_cons,List.cons_append,b,c]
        congr 1
      · rw [← a];rfl
    · rename_i h
      rw [h] at a
      rw [← a];rfl
theorem qgh : ∀ l : List qf,Qv putB (grpB l) = l
  | []=>rfl
  | r::l=>by
    have a:=qgh l
    unfold grpB
    split
    · rename_i g d h
      rw [h] at a
      split
      · rename_i b
        obtain ⟨b,c⟩:=b
        rw [← a]
        simp only [Qv,List.flatMap_cons,List.map_cons,List.cons_append,b,c]
        congr 1
      · rw [← a];rfl
    · rename_i h
      rw [h] at a
      rw [← a];rfl
instance {σ : Type} [DecidableEq σ] (gs : List (Grp σ)) : Decidable (CanG gs):=by unfold CanG;infer_instance
instance (s : List qm) : Decidable (Can s):=by unfold Can;infer_instance
def isR (l : List ql) : Prop:=CanG (grpR l)∧∀ g∈grpR l,Can g.sec
instance (l : List ql) : Decidable (isR l):=by unfold isR;infer_instance
def isB (l : List qf) : Prop:=CanG (grpB l)∧∀ g∈grpB l,isR g.sec
instance (l : List qf) : Decidable (isB l):=by unfold isB;infer_instance
theorem isR.can {l : List ql} (h : isR l) : CanR l:=⟨grpR l,(qgi l).symm,h.1,h.2⟩
theorem isB.can {l : List qf} (h : isB l) : CanB l:=⟨grpB l,(qgh l).symm,h.1,fun g a=>(h.2 g a).can⟩
theorem qod {kind : Int} {p q out : List qf} (h : p.length + q.length≤100000) (a : CanB out) (b : ∀ x y z,Kz kind (hasB p x y z) (hasB q x y z)↔hasB out x y z) : mrgB kind p q = out:=
  qb9 (q4n kind h) a fun x y z=>by rw [qc1 kind h];exact b x y z
def bx (x y z u v w : Int) : qf:={Lo:=({X:=x,Y:=y,Z:=z} : Qe),Hi:=({X:=u,Y:=v,Z:=w} : Qe)}
instance (kind : Int) (a b : Prop) [Decidable a] [Decidable b] : Decidable (Kz kind a b):=by unfold Kz;infer_instance
end Go.Sh
namespace Go.Sh
open Go Go.Am
section
def PreG {σ : Type} (gs : List (Grp σ)) : Prop:=(∀ g∈gs,g.lo < g.hi)∧gs.Pairwise (fun g h=>g.hi≤h.lo)
variable {σ β : Type}
def Zq [DecidableEq σ] : List (Grp σ)→List (Grp σ)
  | []=>[]
  | g::r=>if g.sec = [] then Zq r else match Zq r with
    | []=>[g]
    | h::t=>if g.hi = h.lo∧g.sec = h.sec then ⟨g.lo,h.hi,g.sec⟩::t else g::h::t
theorem PreG.tail {g : Grp σ} {r : List (Grp σ)} (h : PreG (g::r)) : PreG r:=⟨fun k a=>h.1 k (by simp [a]),(List.pairwise_cons.1 h.2).2⟩
theorem PreG.nxt {g : Grp σ} {r : List (Grp σ)} (h : PreG (g::r)) : ∀ k∈r,g.hi≤k.lo:=(List.pairwise_cons.1 h.2).1
theorem qcj [DecidableEq σ] (put : Int→Int→σ→β) : ∀ {d : List (Grp σ)},PreG d→CanG (Zq d)∧(∀ x,secG (Zq d) x = secG d x)∧(∀ h∈Zq d,∃ g∈d,h.sec = g.sec)∧(∀ y,(∀ g∈d,y≤g.lo)→∀ h∈Zq d,y≤h.lo)∧(Qv put (Zq d)).length≤(Qv put d).length
  | [],_=>by simp [Zq,CanG,Qv]
  | g::r,hp=>by
    obtain ⟨f,i2,v,q,i5⟩:=qcj put hp.tail
    have p:=hp.1 g qb
    have hn:=hp.nxt
    have j:=q g.hi hn
    have b : ∀ x,secG (g::r) x = if g.lo≤x∧x < g.hi then g.sec else secG (Zq r) x:=fun x=>by rw [secG,i2]
    have aa : (Qv put (g::r)).length = g.sec.length + (Qv put r).length:=by simp [Qv]
    unfold Zq
    by_cases o : g.sec = []
    · rw [qp o]
      refine ⟨f,fun x=>?_,fun h l=>?_,fun y c=>q y fun k a=>c k (by simp [a]),q6⟩
      · rw [b]
        split
        · rename_i s
          rw [o,Jm j s.2]
        · rfl
      · obtain ⟨k,a,e⟩:=v h l
        exact ⟨k,by simp [a],e⟩
    · rw [qs o]
      generalize Zq r = m at *
      cases m with
      | nil=>
        refine ⟨⟨by simpa using ⟨p,o⟩,qb⟩,fun x=>by rw [b];rfl,fun h l=>⟨g,qb,by simp at l;rw [l]⟩,fun y c h l=>by simp at l;rw [l];exact c g qb,?_⟩
        rw [aa];simp [Qv]
      | cons h t=>
        simp only
        have l:=f.1 h qb
        have hl:=j h qb
        have e5 : (Qv put (h::t)).length = h.sec.length + (Qv put t).length:=by simp [Qv]
        split
        · rename_i u
          obtain ⟨q1,q2⟩:=u
          refine ⟨⟨fun k a=>?_,?_⟩,fun x=>?_,fun k a=>?_,fun y c k a=>?_,?_⟩
          · rcases List.mem_cons.1 a with rfl | a
            · exact ⟨by simp only;omega,o⟩
            · exact f.1 k (by simp [a])
          · rw [List.pairwise_cons]
            exact ⟨fun k a=>by have:=f.nxt k a;rw [← q2] at this;exact this,f.tail.2⟩
          · rw [b,secG,secG]
            by_cases s : g.lo≤x∧x < g.hi
            · rw [qp (by simp only;omega),qp s]
            · rw [qs s]
              by_cases c : h.lo≤x∧x < h.hi
              · rw [qp (by simp only;omega),qp c,q2]
              · rw [qs (by simp only;omega),qs c]
          · rcases List.mem_cons.1 a with rfl | a
            · exact ⟨g,qb,rfl⟩
            · obtain ⟨k',n,e⟩:=v k (by simp [a])
              exact ⟨k',by simp [n],e⟩
          · rcases List.mem_cons.1 a with rfl | a
            · exact c g qb
            · exact q y (fun z w=>c z (by simp [w])) k (by simp [a])
          · have : (Qv put (⟨g.lo,h.hi,g.sec⟩::t)).length = g.sec.length + (Qv put t).length:=by simp [Qv]
            omega
        · rename_i u
          refine ⟨⟨fun k a=>?_,?_⟩,fun x=>by rw [b];rfl,fun k a=>?_,fun y c k a=>?_,?_⟩
          · rcases List.mem_cons.1 a with rfl | a
            · exact ⟨p,o⟩
            · exact f.1 k a
          · rw [List.pairwise_cons]
            refine ⟨fun k a=>?_,f.2⟩
            rcases List.mem_cons.1 a with rfl | a
            · exact ⟨hl,fun e1 e2=>u ⟨e1,e2⟩⟩
            · have:=(f.nxt k a).1
              exact ⟨q6,fun e=>q6⟩
          · rcases List.mem_cons.1 a with rfl | a
            · exact ⟨_,List.mem_cons_self,rfl⟩
            · obtain ⟨k',n,e⟩:=v k a
              exact ⟨k',by simp [n],e⟩
          · rcases List.mem_cons.1 a with rfl | a
            · exact c _ List.mem_cons_self
            · exact q y (fun z w=>c z (by simp [w])) k a
          · have : (Qv put (g::h::t)).length = g.sec.length + (Qv put (h::t)).length:=by simp [Qv]
            omega
theorem qds (put : Int→Int→σ→β) : ∀ {d : List (Grp σ)} {l : List β},CanG d→l.Sublist (Qv put d)→∃ a,l = Qv put a∧PreG a∧(∀ f∈a,∃ g∈d,f.sec.Sublist g.sec)∧∀ y,(∀ g∈d,y≤g.lo)→∀ f∈a,y≤f.lo
  | [],l,_,hl=>⟨[],by simpa [Qv] using hl,⟨qb,qb⟩,qb,qb⟩
  | g::r,l,hc,hl=>by
    have e : Qv put (g::r) = g.sec.map (put g.lo g.hi) ++ Qv put r:=by simp [Qv]
    rw [e] at hl
    obtain ⟨o,p,rfl,m,n⟩:=List.sublist_append_iff.1 hl
    obtain ⟨s,hs,rfl⟩:=List.sublist_map_iff.1 m
    obtain ⟨a,rfl,j,p2,p3⟩:=qds put hc.tail n
    refine ⟨⟨g.lo,g.hi,s⟩::a,by simp [Qv],⟨fun k b=>?_,?_⟩,fun k b=>?_,fun y h k b=>?_⟩
    · rcases List.mem_cons.1 b with rfl | b
      · exact (hc.1 g qb).1
      · exact j.1 k b
    · rw [List.pairwise_cons]
      exact ⟨fun k b=>p3 g.hi (fun z c=>(hc.nxt z c).1) k b,j.2⟩
    · rcases List.mem_cons.1 b with rfl | b
      · exact ⟨g,qb,hs⟩
      · obtain ⟨z,c,q⟩:=p2 k b
        exact ⟨z,by simp [c],q⟩
    · rcases List.mem_cons.1 b with rfl | b
      · exact h g qb
      · exact p3 y (fun z c=>h z (by simp [c])) k b
end
theorem ql3 {s t : List qm} (h : Can t) (hs : s.Sublist t) : Can s:=⟨fun x a=>h.1 x (hs.subset a),h.2.sublist hs⟩
theorem qfe : ∀ {a : List (Grp qm)},PreG a→∀ x,covS (Qv putR a) x = secG a x
  | [],_,x=>rfl
  | g::r,h,x=>by
    have e : Qv putR (g::r) = g.sec.map (putR g.lo g.hi) ++ Qv putR r:=by simp [Qv]
    rw [e,qfc,qff,qfe h.tail,secG]
    split
    · rename_i b
      rw [Jm h.nxt b.2,List.append_nil]
    · rfl
theorem qek : ∀ {a : List (Grp ql)},PreG a→∀ x,atB (Qv putB a) x = secG a x
  | [],_,x=>rfl
  | g::r,h,x=>by
    have e : Qv putB (g::r) = g.sec.map (putB g.lo g.hi) ++ Qv putB r:=by simp [Qv]
    rw [e,qeh,qel,qek h.tail,secG]
    split
    · rename_i b
      rw [Jm h.nxt b.2,List.append_nil]
    · rfl
theorem ql1 {r l : List ql} (p : CanR r) (j : l.Sublist r) : ∃ m,CanR m∧m.length≤l.length∧∀ x y,hasR m x y↔hasR l x y:=by
  obtain ⟨v,rfl,h,s⟩:=p;obtain ⟨a,rfl,c,p2,_⟩:=qds putR h j;obtain ⟨b,d,t,_,n⟩:=qcj putR c;refine ⟨Qv putR (Zq a),⟨_,rfl,b,fun g f=>?_⟩,n,fun x y=>?_⟩
  · obtain ⟨k,o,e⟩:=t g f;obtain ⟨z,u,q⟩:=p2 k o;rw [e];exact ql3 (s z u) q
  · rw [← J6,← J6,q49 b,qfe c,d]
open Classical in
theorem ql0 {s l : List qf} (hs : CanB s) (hl : l.Sublist s) : ∃ m,CanB m∧m.length≤l.length∧∀ x y z,hasB m x y z↔hasB l x y z:=by
  obtain ⟨gs,rfl,h1,h2⟩:=hs;obtain ⟨a,rfl,t,p2,_⟩:=qds putB h1 hl
  have hex : ∀ g∈a,∃ m,CanR m∧m.length≤g.sec.length∧∀ x y,hasR m x y↔hasR g.sec x y:=fun g b=>by
    obtain ⟨k,c,q⟩:=p2 g b;exact ql1 (h2 k c) q
  let f : List ql→List ql:=fun r=>if h : ∃ m,CanR m∧m.length≤r.length∧∀ x y,hasR m x y↔hasR r x y then h.choose else []
  have v : ∀ g∈a,CanR (f g.sec)∧(f g.sec).length≤g.sec.length∧∀ x y,hasR (f g.sec) x y↔hasR g.sec x y:=fun g b=>by
    have h:=hex g b;have e : f g.sec = h.choose:=dif_pos h;rw [e];exact h.choose_spec
  let d : List (Grp ql):=a.map fun g=>⟨g.lo,g.hi,f g.sec⟩
  have q1 : PreG d:=⟨fun k c=>by
    obtain ⟨g,b,rfl⟩:=List.mem_map.1 c;exact t.1 g b,by
    rw [List.pairwise_map];exact t.2⟩
  have n : ∀ (a : List (Grp ql)) (z : Int),secG (a.map fun g=>⟨g.lo,g.hi,f g.sec⟩) z = []∧secG a z = []∨∃ g∈a,secG (a.map fun g=>(⟨g.lo,g.hi,f g.sec⟩ : Grp ql)) z = f g.sec∧secG a z = g.sec:=by
    intro a z
    induction a with
    | nil=>exact .inl ⟨rfl,rfl⟩
    | cons g r ih=>
      rw [List.map_cons,secG,secG];by_cases j : g.lo≤z∧z < g.hi
      · rw [qp j,qp j];exact .inr ⟨g,qb,rfl,rfl⟩
      · rw [qs j,qs j];rcases ih with h | ⟨k,c,h⟩
        · exact .inl h
        · exact .inr ⟨k,by simp [c],h⟩
  obtain ⟨w,m2,m3,_,m5⟩:=qcj putB q1
  have o : ∀ a : List (Grp ql),(∀ g∈a,(f g.sec).length≤g.sec.length)→(Qv putB (a.map fun g=>(⟨g.lo,g.hi,f g.sec⟩ : Grp ql))).length≤(Qv putB a).length:=by
    intro a h
    induction a with
    | nil=>simp [Qv]
    | cons g r ih=>
      have:=ih fun k c=>h k (by simp [c]);have:=h g qb;simp only [Qv,List.map_cons,List.flatMap_cons,List.length_append,List.length_map] at *;omega
  refine ⟨Qv putB (Zq d),⟨_,rfl,w,fun g b=>?_⟩,Nat.le_trans m5 (o a fun g b=>(v g b).2.1),fun x y z=>?_⟩
  · obtain ⟨k,c,e⟩:=m3 g b;obtain ⟨z,j,rfl⟩:=List.mem_map.1 c;rw [e];exact (v z j).1
  · rw [← Uv,← Uv,q45 w,qek t,m2];rcases n a z with ⟨p,u⟩ | ⟨g,b,p,u⟩
    · rw [show secG d z = [] from p,u]
    · rw [show secG d z = f g.sec from p,u];exact (v g b).2.2 x y
theorem qx2 {s l : List qf} (hs : CanB s) (a : l.Sublist s) (h : l.length≤100000) : (mrgB 2 l []).length≤l.length:=by
  obtain ⟨m,b,c,d⟩:=ql0 hs a;have : mrgB 2 l [] = m:=qod (by simpa using h) b fun x y z=>by rw [qgm,d];simp [q9q]
  rw [this];exact c
end Go.Sh
namespace Go.Sh
open Go Go.Am
inductive Cn (adj : Nat→Nat→Prop) : Nat→Nat→Prop
  | refl (i : Nat) : Cn adj i i
  | step {i j k : Nat} : Cn adj i j→adj j k→Cn adj i k
section
variable {adj : Nat→Nat→Prop}
theorem Cn.trans {i j k : Nat} (h : Cn adj i j) (g : Cn adj j k) : Cn adj i k:=by
  induction g with
  | refl=>exact h
  | step _ h2 ih=>exact .step ih h2
theorem Cn.symm (hs : ∀ i k,adj i k→adj k i) {i j : Nat} (h : Cn adj i j) : Cn adj j i:=by
  induction h with
  | refl=>exact .refl _
  | step _ h2 ih=>exact (Cn.step (.refl _) (hs _ _ h2)).trans ih
theorem Cn.lt {n : Nat} (a : ∀ i k,adj i k→k < n) {i j : Nat} (h : Cn adj i j) (hi : i < n) : j < n:=by
  induction h with
  | refl=>exact hi
  | step _ h2 _=>exact a _ _ h2
theorem Cn.closed {S : Nat→Prop} (a : ∀ i k,S i→adj i k→S k) {i j : Nat} (h : Cn adj i j) (hi : S i) : S j:=by
  induction h with
  | refl=>exact hi
  | step _ h2 ih=>exact a _ _ ih h2
end
def adjB (s : List qf) (i k : Nat) : Prop:=∃ a b,s[i]? = some a∧s[k]? = some b∧Zk a b > 0
theorem q43 (s : List qf) (i k : Nat) (h : adjB s i k) : adjB s k i:=by
  obtain ⟨a,b,c,d,f⟩:=h;exact ⟨b,a,d,c,by rw [qm3];exact f⟩
theorem qe7 (s : List qf) (i k : Nat) (h : adjB s i k) : k < s.length:=by
  obtain ⟨a,b,d,c,f⟩:=h;exact (List.getElem?_eq_some_iff.1 c).1
theorem q99 {s : List qf} {i k : Nat} (hi : i < s.length) (f : k < s.length) : adjB s i k↔Zk s[i] s[k] > 0:=by
  constructor
  · rintro ⟨a,b,c,d,g⟩;rw [List.getElem?_eq_getElem hi] at c;rw [List.getElem?_eq_getElem f] at d;cases c;cases d;exact g
  · intro h;exact ⟨_,_,List.getElem?_eq_getElem hi,List.getElem?_eq_getElem f,h⟩
open Classical in
noncomputable def pick (s : List qf) (P : Nat→Prop) : List qf:=((List.range s.length).filter fun j=>decide (P j)).filterMap fun j=>s[j]?
theorem qr0 (s : List qf) : (List.range s.length).filterMap (fun j=>s[j]?) = s:=by
  have key : ∀ n,n≤s.length→(List.range n).filterMap (fun j=>s[j]?) = s.take n:=by
    intro n
    induction n with
    | zero=>intro _;simp
    | succ n ih=>
      intro h;rw [List.range_succ,List.filterMap_append,ih q6,List.take_succ_eq_append_getElem q6];simp [List.getElem?_eq_getElem (show n < s.length by omega)]
  rw [key _ (Nat.le_refl _),List.take_length]
theorem qd5 (s : List qf) (P : Nat→Prop) : (pick s P).Sublist s:=by
  have h:=List.Sublist.filterMap (fun j=>s[j]?) (List.filter_sublist (p:=fun j=>@decide (P j) (Classical.propDecidable _)) (l:=List.range s.length));rw [qr0] at h;exact h
theorem qq9 {s : List qf} {P : Nat→Prop} {b : qf} : b∈pick s P↔∃ j,∃ h : j < s.length,P j∧s[j] = b:=by
  unfold pick;simp only [List.mem_filterMap,List.mem_filter,List.mem_range,decide_eq_true_eq];constructor
  · rintro ⟨j,⟨a,d⟩,c⟩;rw [List.getElem?_eq_getElem a] at c;exact ⟨j,a,d,by simpa using c⟩
  · rintro ⟨j,a,d,c⟩;exact ⟨j,⟨a,d⟩,by rw [List.getElem?_eq_getElem a,c]⟩
noncomputable def comp (s : List qf) (i : Nat) : List qf:=pick s (Cn (adjB s) i)
def repI (s : List qf) (i : Nat) : Prop:=∀ j,j < i→¬ Cn (adjB s) j i
open Classical in
noncomputable def q73 (s : List qf) : List (List qf):=((List.range s.length).filter fun i=>decide (repI s i)).map fun i=>mrgB 2 (comp s i) []
noncomputable def q10 (s : List qf) : List (List qf) × Int:=if Yd s≠0 then ([],Yd s) else (q73 s,0)
theorem qof {l m : List qf} (a : l.length≤100000) (c : m.length≤100000) (h : ∀ b,b∈l↔b∈m) : mrgB 2 l [] = mrgB 2 m []:=by
  refine qb9 (q4n 2 (by simpa using a)) (q4n 2 (by simpa using c)) fun x y z=>?_;rw [qc0 a,qc0 c];constructor
  · rintro ⟨b,hb,q⟩;exact ⟨b,(h b).1 hb,q⟩
  · rintro ⟨b,hb,q⟩;exact ⟨b,(h b).2 hb,q⟩
theorem qd4 {s : List qf} (hs : Yd s = 0) (P : Nat→Prop) : Yd (mrgB 2 (pick s P) []) = 0∧(mrgB 2 (pick s P) []).length≤s.length∧mkB (pick s P) = (mrgB 2 (pick s P) [],0):=by
  obtain ⟨j,f,g⟩:=Uh.1 hs;have a:=qd5 s P;have h:=a.length_le;have d : ∀ b∈pick s P,vB b:=fun b hb=>f b (a.subset hb);have hb:=qx2 g a q6;have c:=q4n 2 (p:=pick s P) (q:=[]) (by simp;omega);refine ⟨Uh.2 ⟨q6,c.vB (InB.mrg (by simp;omega) (qx9 d) InB.nil),c⟩,q6,?_⟩;unfold mkB;rw [qs q6,qp d,qs q6]
def qws (c d : Qe) : Prop:=(c.Y = d.Y∧c.Z = d.Z∧(d.X = c.X + 1∨d.X = c.X - 1))∨(c.X = d.X∧c.Z = d.Z∧(d.Y = c.Y + 1∨d.Y = c.Y - 1))∨(c.X = d.X∧c.Y = d.Y∧(d.Z = c.Z + 1∨d.Z = c.Z - 1))
def inC (b : qf) (c : Qe) : Prop:=inB b c.X c.Y c.Z
inductive CC (P : Qe→Prop) : Qe→Qe→Prop
  | refl (c : Qe) : CC P c c
  | step {c d e : Qe} : CC P c d→qws d e→P e→CC P c e
theorem CC.trans {P : Qe→Prop} {c d e : Qe} (h : CC P c d) (g : CC P d e) : CC P c e:=by
  induction g with
  | refl=>exact h
  | step _ h2 h3 ih=>exact .step ih h2 h3
theorem CC.mono {P Q : Qe→Prop} (a : ∀ c,P c→Q c) {c d : Qe} (h : CC P c d) : CC Q c d:=by
  induction h with
  | refl=>exact .refl _
  | step _ h2 h3 ih=>exact .step ih h2 (a _ h3)
theorem qcr {a b : Int} (c : 0 < a) (hb : 0 < b) : 0 < a * b:=Int.mul_pos c hb
theorem qm4 (a b : qf) : Zk a b > 0↔
    (min a.Hi.X b.Hi.X - max a.Lo.X b.Lo.X = 0∧min a.Hi.Y b.Hi.Y - max a.Lo.Y b.Lo.Y > 0∧min a.Hi.Z b.Hi.Z - max a.Lo.Z b.Lo.Z > 0)∨
    (min a.Hi.X b.Hi.X - max a.Lo.X b.Lo.X > 0∧min a.Hi.Y b.Hi.Y - max a.Lo.Y b.Lo.Y = 0∧min a.Hi.Z b.Hi.Z - max a.Lo.Z b.Lo.Z > 0)∨
    (min a.Hi.X b.Hi.X - max a.Lo.X b.Lo.X > 0∧min a.Hi.Y b.Hi.Y - max a.Lo.Y b.Lo.Y > 0∧min a.Hi.Z b.Hi.Z - max a.Lo.Z b.Lo.Z = 0):=by
  unfold Zk;simp only;generalize min a.Hi.X b.Hi.X - max a.Lo.X b.Lo.X = x;generalize min a.Hi.Y b.Hi.Y - max a.Lo.Y b.Lo.Y = y;generalize min a.Hi.Z b.Hi.Z - max a.Lo.Z b.Lo.Z = z;split
  · rename_i h;exact ⟨fun _=>.inl h,fun _=>qcr h.2.1 h.2.2⟩
  · split
    · rename_i h;exact ⟨fun _=>.inr (.inl h),fun _=>qcr h.1 h.2.2⟩
    · split
      · rename_i h;exact ⟨fun _=>.inr (.inr h),fun _=>qcr h.1 h.2.1⟩
      · rename_i d f c;exact ⟨fun h=>absurd h Q0,fun h=>(h.elim (fun h=>absurd h d) fun h=>h.elim (fun h=>absurd h f) fun h=>absurd h c)⟩
end Go.Sh
namespace Go.Sh
open Go Go.Am
def disB (l : List qf) : Prop:=∀ i k (hi : i < l.length) (hk : k < l.length),i≠k→∀ c,¬ (inC l[i] c∧inC l[k] c)
theorem qmc {l : List qf} (h : CanB l) : disB l:=by
  have hp:=qlx h.cnt;have key : ∀ i k (hi : i < l.length) (a : k < l.length),i < k→∀ c,¬ (inC l[i] c∧inC l[k] c):=fun i k hi a f c=>List.pairwise_iff_getElem.1 hp i k hi a f c.X c.Y c.Z;intro i k hi a b c d;rcases Nat.lt_or_gt_of_ne b with h | h
  · exact key i k hi a h c d
  · exact key k i a hi h c ⟨d.2,d.1⟩
def pts (l : List qf) (c : Qe) : Prop:=hasB l c.X c.Y c.Z
end Go.Sh
namespace Go.Sh
open Go Go.Am
theorem qrk (s : List qf) : ∀ k : Nat,∃ r,r≤k∧repI s r∧Cn (adjB s) r k:=by
  intro k
  induction k using Nat.strongRecOn with
  | ind k ih=>
    by_cases h : repI s k
    · exact ⟨k,Nat.le_refl _,h,.refl _⟩
    · obtain ⟨j,b⟩:=Classical.not_forall.1 h;obtain ⟨a,f⟩:=Classical.not_imp.1 b;obtain ⟨r,g,c,d⟩:=ih j a;exact ⟨r,q6,c,d.trans (Classical.not_not.1 f)⟩
end Go.Sh
namespace Go.Sh
open Go Go.Am
section
variable {α β : Type} [DecidableEq α]
def NdK (es : List (α × β)) : Prop:=(es.map Prod.fst).Nodup
theorem qhg {k : α} {v : β} : ∀ {es : List (α × β)} {a : α},a∈(Yy k v es).map Prod.fst→a = k∨a∈es.map Prod.fst
  | [],a,h=>by simp [Yy] at h;exact .inl h
  | (b,w)::r,a,h=>by
    unfold Yy at h
    by_cases c : k = b
    · rw [qp c] at h
      simp only [List.map_cons,List.mem_cons] at h ⊢
      rcases h with h | h
      · exact .inl h
      · exact .inr (.inr h)
    · rw [qs c] at h
      simp only [List.map_cons,List.mem_cons] at h ⊢
      rcases h with h | h
      · exact .inr (.inl h)
      · rcases qhg h with g | g
        · exact .inl g
        · exact .inr (.inr g)
theorem NdK.put {k : α} {v : β} : ∀ {es : List (α × β)},NdK es→NdK (Yy k v es)
  | [],_=>by simp [NdK,Yy]
  | (b,w)::r,h=>by
    unfold NdK at h ⊢
    unfold Yy
    simp only [List.map_cons,List.nodup_cons] at h
    by_cases a : k = b
    · subst a
      rw [qp rfl]
      simp only [List.map_cons,List.nodup_cons]
      exact h
    · rw [qs a]
      simp only [List.map_cons,List.nodup_cons]
      refine ⟨fun c=>?_,NdK.put (es:=r) h.2⟩
      rcases qhg c with g | g
      · exact a g.symm
      · exact h.1 g
theorem qh8 {k : α} : ∀ {es : List (α × β)} {a : α},a∈(Yg k es).map Prod.fst→a∈es.map Prod.fst
  | [],a,h=>by simp [Yg] at h
  | (b,w)::r,a,h=>by
    unfold Yg at h
    by_cases c : k = b
    · rw [qp c] at h
      simp only [List.map_cons,List.mem_cons];exact .inr h
    · rw [qs c] at h
      simp only [List.map_cons,List.mem_cons] at h ⊢
      rcases h with h | h
      · exact .inl h
      · exact .inr (qh8 h)
theorem NdK.del {k : α} : ∀ {es : List (α × β)},NdK es→NdK (Yg k es)
  | [],_=>by simp [NdK,Yg]
  | (b,w)::r,h=>by
    unfold NdK at h ⊢
    unfold Yg
    simp only [List.map_cons,List.nodup_cons] at h
    by_cases a : k = b
    · rw [qp a];exact h.2
    · rw [qs a]
      simp only [List.map_cons,List.nodup_cons]
      exact ⟨fun c=>h.1 (qh8 c),NdK.del (es:=r) h.2⟩
theorem qhe {z : β} {k : α} : ∀ {es : List (α × β)},k ∉ es.map Prod.fst→Y2 z k es = z
  | [],_=>rfl
  | (b,w)::r,h=>by
    simp only [List.map_cons,List.mem_cons,not_or] at h
    unfold Y2
    rw [qs h.1]
    exact qhe h.2
theorem qcl {z : β} {k k' : α} : ∀ {es : List (α × β)},NdK es→Y2 z k' (Yg k es) = if k' = k then z else Y2 z k' es
  | [],_=>by simp [Yg,Y2]
  | (b,w)::r,h=>by
    unfold NdK at h
    simp only [List.map_cons,List.nodup_cons] at h
    unfold Yg
    by_cases c : k = b
    · subst c
      rw [qp rfl]
      by_cases a : k' = k
      · subst a
        rw [qp rfl];exact qhe h.1
      · rw [qs a]
        simp [Y2,a]
    · rw [qs c]
      have d:=qcl (z:=z) (k:=k) (k':=k') (es:=r) h.2
      unfold Y2
      by_cases a : k' = b
      · subst a
        rw [qp rfl,qs (Ne.symm c),qp rfl]
      · rw [qs a,qs a];exact d
theorem qhf {z v : β} {k k' : α} : ∀ {es : List (α × β)},Y2 z k' (Yy k v es) = if k' = k then v else Y2 z k' es
  | []=>by simp [Y2,Yy]
  | (a,w)::r=>by
    unfold Yy
    by_cases h : k = a
    · subst h
      rw [qp rfl]
      by_cases b : k' = k <;> simp [Y2,b]
    · rw [qs h]
      have c:=qhf (z:=z) (v:=v) (k:=k) (k':=k') (es:=r)
      by_cases b : k' = a
      · subst b
        simp [Y2,Ne.symm h]
      · simp [Y2,b,c]
end
end Go.Sh
namespace Go.Sh
open Go Go.Am
theorem qhl : ∀ (n : Nat) (q : List Nat),q.Nodup→(∀ j∈q,j < n)→q.length≤n
  | 0,q,_,h=>by
    cases q with
    | nil=>simp
    | cons a r=>exact absurd (h a qb) q6
  | n + 1,q,hn,h=>by
    have g:=qhl n (q.filter fun j=>decide (j < n)) (hn.filter _) fun j b=>by simpa using (List.mem_filter.1 b).2
    have key : ∀ q : List Nat,q.Nodup→(∀ j∈q,j < n + 1)→q.length≤(q.filter fun j=>decide (j < n)).length + (if n∈q then 1 else 0):=by
      intro q
      induction q with
      | nil=>intro _ _;simp
      | cons a r ih=>
        intro hd c;obtain ⟨f,d⟩:=List.nodup_cons.1 hd;have:=ih d fun j b=>c j (by simp [b]);have k:=c a qb;by_cases e : a = n
        · subst e;rw [qs f] at this;rw [qp qb,List.filter_cons_of_neg qb];simp only [List.length_cons];omega
        · rw [List.filter_cons_of_pos (by simpa using (by omega : a < n))];simp only [List.length_cons];split at this
          · rw [qp (by simp;exact .inr (by assumption))];omega
          · omega
    have:=key q hn h
    split at this <;> omega
noncomputable def bxAt (s : List qf) (j : Nat) : qf:=s[j]?.getD qkb
theorem q46 {s : List qf} {j : Nat} (h : j < s.length) : bxAt s j = s[j]:=by unfold bxAt;rw [List.getElem?_eq_getElem h];rfl
open Classical in
structure PI (s : List qf) (i : Nat) (q : List Nat) (es : List (Int × Bool)) : Prop where
  nd : q.Nodup
  lt : ∀ j∈q,j < s.length
  cn : ∀ j∈q,Cn (adjB s) i j
  get : ∀ j,j < s.length→Y2 false (j : Int) es = decide ((∀ k,k < i→¬ Cn (adjB s) k j)∧j ∉ q)
  ndk : NdK es
section
variable {s : List qf} {i : Nat}
theorem PI.len {q : List Nat} {es : List (Int × Bool)} (h : PI s i q es) : q.length≤s.length:=qhl _ _ h.nd h.lt
open Classical in
theorem qq3 (hs : Yd s = 0) (hr : repI s i) {q : List Nat} {es0 : List (Int × Bool)} {p0 : List qf} {k : Nat} (hk : k < q.length) {es : List (Int × Bool)} (h : PI s i q es) :
    ∃ b,loop (q19 s ((k : Int),es0,p0)) (0,es,q.map (bxAt s)) = some b∧∃ t l,b = (l,(q ++ t).map (bxAt s))∧PI s i (q ++ t) l∧∀ m,m < s.length→adjB s q[k] m→m∈q ++ t:=by
  obtain ⟨hl,hv,al⟩:=Uh.1 hs;rw [show q.map (bxAt s) = (q ++ ([] : List Nat)).map (bxAt s) by rw [List.append_nil]];refine Yv (f:=q19 s ((k : Int),es0,p0)) (fun n (c : List Nat × List (Int × Bool))=>((n : Int),c.2,(q ++ c.1).map (bxAt s))) s.length (fun n c=>PI s i (q ++ c.1) c.2∧∀ m,m < n→adjB s q[k] m→m∈q ++ c.1) (fun b=>∃ t l,b = (l,(q ++ t).map (bxAt s))∧PI s i (q ++ t) l∧∀ m,m < s.length→adjB s q[k] m→m∈q ++ t) (fun n c g hc=>?_) (fun c hc=>?_) (Nat.zero_le _) (c0:=([],es)) ⟨by simpa using h,fun m hm=>absurd hm (Nat.not_lt_zero m)⟩
  · obtain ⟨o,h2⟩:=hc;have u:=o.len;have ah : k < (q ++ c.1).length:=by simp;omega
    have r : q[k] < s.length:=h.lt _ (Kw hk)
    have x : idx ((q ++ c.1).map (bxAt s)) (k : Int) = some s[q[k]]:=by
      rw [Qp (by simpa using ah)];simp only [List.getElem_map,Option.some.injEq];rw [List.getElem_append_left hk,q46 r]
    have v : q65 s[q[k]] s[n] = some (Zk s[q[k]] s[n]):=qw8 (hv _ (Kw r)) (hv _ (Kw g));have w:=o.get n g;have hw:=w64s g (show s.length≤1000000 by omega);by_cases z : (∀ k,k < i→¬ Cn (adjB s) k n)∧n ∉ q ++ c.1
    · rw [Q6 z] at w;by_cases g2 : Zk s[q[k]] s[n] > 0
      · refine .inl ⟨(c.1 ++ [n],Yg (n : Int) c.2),?_,?_,?_⟩
        · simp only [q19,dlt g,qw,w,x,Qp g,qj,v,Q6 g2,hw];rw [Ku (by simp at u ⊢;omega)];simp only [qj];rw [← List.append_assoc,List.map_append];simp [q46 g]
        · refine ⟨?_,fun j d=>?_,fun j d=>?_,fun j d=>?_,o.ndk.del⟩
          · rw [← List.append_assoc];rw [List.nodup_append];exact ⟨o.nd,qb,fun a p b hb=>by simp at hb;subst hb;exact fun e=>z.2 (e ▸ p)⟩
          · rw [← List.append_assoc] at d;rcases List.mem_append.1 d with d | d
            · exact o.lt j d
            · simp at d;subst d;exact g
          · rw [← List.append_assoc] at d;rcases List.mem_append.1 d with d | d
            · exact o.cn j d
            · simp at d;subst d;exact .step (o.cn _ qb) ((q99 r g).2 g2)
          · rw [qcl o.ndk,o.get j d,← List.append_assoc];by_cases e : j = n
            · subst e;rw [qp rfl,eq_comm,decide_eq_false_iff_not];exact fun h=>h.2 qb
            · rw [qs q6,decide_eq_decide];simp [e]
        · intro m hm p;rw [← List.append_assoc];by_cases e : m = n
          · subst e;simp
          · exact List.mem_append_left _ (h2 m q6 p)
      · refine .inl ⟨c,?_,o,fun m hm p=>?_⟩
        · simp only [q19,dlt g,qw,w,x,Qp g,qj,v,Q9 g2,hw,qv]
        · by_cases e : m = n
          · subst e;exact absurd ((q99 r g).1 p) g2
          · exact h2 m q6 p
    · rw [Q9 z] at w;refine .inl ⟨c,?_,o,fun m hm p=>?_⟩
      · simp only [q19,dlt g,qw,w,qj,hw,qv]
      · by_cases e : m = n
        · subst e;have ai : Cn (adjB s) i m:=.step (h.cn _ (Kw hk)) p;refine Classical.not_not.1 fun y=>z ⟨fun k' ag af=>hr k' ag (af.trans (ai.symm (q43 s))),y⟩
        · exact h2 m q6 p
  · exact ⟨_,by simp only [q19,dnl,qv],c.1,c.2,rfl,hc.1,hc.2⟩
theorem qq2 (hs : Yd s = 0) (hr : repI s i) : ∀ (m k : Nat) (q : List Nat) (es : List (Int × Bool)),s.length + 1 - k = m→k≤q.length→PI s i q es→(∀ a (v : a < q.length),a < k→∀ b,adjB s q[a] b→b∈q)→
    ∃ g d,loop (q2d s) ((k : Int),es,q.map (bxAt s)) = some (d,g.map (bxAt s))∧PI s i g d∧(∀ j∈q,j∈g)∧∀ a∈g,∀ b,adjB s a b→b∈g:=by
  intro m;have hl:=(Uh.1 hs).1
  induction m with
  | zero=>
    intro k q es hm z h _;have:=h.len;omega
  | succ m ih=>
    intro k q es hm z h x;have w:=h.len;by_cases f : k < q.length
    · obtain ⟨b,e1,t,d,rfl,p1,p2⟩:=qq3 (es0:=es) (p0:=q.map (bxAt s)) hs hr f h;have u : decide ((k : Int) < ((q.map (bxAt s)).length : Int)) = true:=Q6 (by simp;omega)
      have l : q2d s ((k : Int),es,q.map (bxAt s)) = some (.inl (((k + 1 : Nat) : Int),d,(q ++ t).map (bxAt s))):=by
        simp only [q2d,u,qw,e1,qj,w64s f (show q.length≤1000000 by omega)]
      rw [Km l]
      obtain ⟨g,o,f1,y,f3,f4⟩:=ih (k + 1) (q ++ t) d q6 (by simp;omega) p1 (fun a v ad b c=>by
        by_cases e : a = k
        · subst e;rw [List.getElem_append_left f] at c;exact p2 b (qe7 s _ _ c) c
        · rw [List.getElem_append_left q6] at c
          exact List.mem_append_left _ (x a q6 q6 b c))
      exact ⟨g,o,f1,y,fun j r=>f3 j (List.mem_append_left _ r),f4⟩
    · have p : decide ((k : Int) < ((q.map (bxAt s)).length : Int)) = false:=Q9 (by simp;omega);refine ⟨q,es,Kb (by simp only [q2d,p,qv]),h,fun j r=>r,fun a v b c=>?_⟩;obtain ⟨n,hn,rfl⟩:=List.getElem_of_mem v;exact x n hn q6 b c
end
open Classical in
theorem qq4 (s : List qf) : q8n s = some (q10 s):=by
  unfold q8n q10;rw [qw0,qj];by_cases hs : Yd s = 0
  rotate_left
  · rw [qp hs,show (Yd s != 0) = true by simpa using hs];rfl
  rw [qs (not_not_intro hs),hs,show ((0 : Int) != 0) = false from rfl,qv];obtain ⟨hl,hv,ah⟩:=Uh.1 hs
  obtain ⟨es,x,e2,e3⟩:=Yv (f:=q3q s) (fun k (es : List (Int × Bool))=>((k : Int),es)) s.length (fun k es=>NdK es∧∀ j : Nat,Y2 false (j : Int) es = decide (j < k)) (fun es=>NdK es∧∀ j : Nat,Y2 false (j : Int) es = decide (j < s.length)) (fun k es d n=>by
    refine .inl ⟨Yy (k : Int) true es,by simp only [q3q,dlt d,qw,w64s d (show s.length≤1000000 by omega)],n.1.put,fun j=>?_⟩;rw [qhf,n.2 j];by_cases e : j = k
    · subst e;rw [qp rfl,Q6 q6]
    · rw [qs q6,decide_eq_decide];omega) (fun es n=>⟨es,by simp only [q3q,dnl,qv],n⟩) (Nat.zero_le _) (c0:=[]) ⟨by simp [NdK],fun j=>by simp [Y2]⟩
  have x : loop (q3q s) (0,[]) = some es:=x;rw [x,qj]
  obtain ⟨out,o1,o2⟩:=Yv (f:=q2c s) (fun k (es : List (Int × Bool))=>((k : Int),es,((List.range k).filter fun i=>decide (repI s i)).map fun i=>mrgB 2 (comp s i) [])) s.length (fun k es=>NdK es∧∀ j : Nat,j < s.length→Y2 false (j : Int) es = decide (∀ i,i < k→¬ Cn (adjB s) i j)) (fun out=>out = q73 s) (fun k es d n=>by
    obtain ⟨c1,c2⟩:=n;have hw:=w64s d (show s.length≤1000000 by omega);have w:=c2 k d;by_cases u : repI s k
    · have g : ∀ i,i < k→¬ Cn (adjB s) i k:=u;rw [Q6 g] at w
      have hP : PI s k [k] (Yg (k : Int) es):=⟨qb,by simpa using d,by simpa using Cn.refl k,fun j c=>by
        rw [qcl c1,c2 j c];by_cases e : j = k
        · subst e;rw [qp rfl,eq_comm,decide_eq_false_iff_not];exact fun h=>h.2 qb
        · rw [qs q6,decide_eq_decide];simp [e],c1.del⟩
      obtain ⟨r,v,f1,o,f3,f4⟩:=qq2 hs u (s.length + 1) 0 [k] _ rfl qb hP (fun a ha h=>absurd h q6)
      have f1 : loop (q2d s) (0,Yg (k : Int) es,[s[k]]) = some (v,r.map (bxAt s)):=by
        rw [← q46 d];exact f1
      have hq : ∀ j,j∈r↔Cn (adjB s) k j:=fun j=>⟨o.cn j,fun h=>h.closed (S:=fun j=>j∈r) (fun a b ha af=>f4 a ha b af) (f3 k qb)⟩
      have ai:=o.len
      have t : ∀ b,b∈r.map (bxAt s)↔b∈comp s k:=fun b=>by
        unfold comp;rw [qq9,List.mem_map];constructor
        · rintro ⟨j,c,rfl⟩;exact ⟨j,o.lt j c,(hq j).1 c,(q46 (o.lt j c)).symm⟩
        · rintro ⟨j,c,y,rfl⟩;exact ⟨j,(hq j).2 y,q46 c⟩
      have au:=(qd5 s (Cn (adjB s) k)).length_le;have q:=qof (l:=r.map (bxAt s)) (m:=comp s k) (by simp;omega) (by show (pick s _).length≤_;omega) t;obtain ⟨_,k2,_⟩:=qd4 hs (Cn (adjB s) k)
      have ab : mkB (r.map (bxAt s)) = (mrgB 2 (comp s k) [],0):=by
        have z : ∀ b∈r.map (bxAt s),vB b:=fun b hb=>by
          obtain ⟨j,c,rfl⟩:=List.mem_map.1 hb;rw [q46 (o.lt j c)];exact hv _ (Kw _)
        unfold mkB;have : (mrgB 2 (comp s k) []).length≤s.length:=k2;rw [qs (by simp;omega),qp z,q,qs q6]
      refine .inl ⟨v,?_,o.ndk,fun j c=>?_⟩
      · have aj : (((List.range k).filter fun i=>decide (repI s i)).map fun i=>mrgB 2 (comp s i) []).length≤k:=by
          rw [List.length_map];exact Nat.le_trans (List.length_filter_le _ _) qb
        simp only [q2c,dlt d,qw,qv,w,Bool.not_true,Qp d,qj,f1,qw3,ab,hw];rw [Ku (by simp only [List.length_singleton];omega)];simp only [qj];rw [List.range_succ,List.filter_append,List.map_append];simp [u]
      · rw [o.get j c,decide_eq_decide,hq];constructor
        · rintro ⟨y,h2⟩ i hi;by_cases e : i = k
          · subst e;exact h2
          · exact y i q6
        · intro h;exact ⟨fun i hi=>h i q6,h k q6⟩
    · have g : ¬ ∀ i,i < k→¬ Cn (adjB s) i k:=u;rw [Q9 g] at w;refine .inl ⟨es,?_,c1,fun j c=>?_⟩
      · simp only [q2c,dlt d,qw,w,Bool.not_false,qj,hw];rw [List.range_succ,List.filter_append,List.map_append];simp [u]
      · rw [c2 j c,decide_eq_decide];obtain ⟨i0,ae⟩:=Classical.not_forall.1 g;obtain ⟨ac,p⟩:=Classical.not_imp.1 ae;have p:=Classical.not_not.1 p;constructor
        · intro h i hi;by_cases e : i = k
          · subst e;exact fun n=>h i0 ac (p.trans n)
          · exact h i q6
        · exact fun h i hi=>h i q6) (fun es n=>⟨q73 s,by simp only [q2c,dnl,qv];rfl,rfl⟩) (Nat.zero_le _) (c0:=es) ⟨e2,fun j c=>by rw [e3,Q6 c];simp⟩
  have o1 : loop (q2c s) (0,es,[]) = some out:=o1;rw [o1,o2];rfl
end Go.Sh
namespace Go.Sh
open Go Go.Am
open Classical in
noncomputable def qiu (s : List qf) : List Nat:=(List.range s.length).filter fun i=>decide (repI s i)
theorem qi5 (s : List qf) : q73 s = (qiu s).map fun i=>mrgB 2 (comp s i) []:=rfl
open Classical in
theorem qrm (s : List qf) : (qiu s).length≤s.length:=Nat.le_trans (List.length_filter_le _ _) qb
end Go.Sh
namespace Go.Sh
open Go Go.Am
def ovX (a b : qf) : Prop:=max a.Lo.X b.Lo.X < min a.Hi.X b.Hi.X∧max a.Lo.Y b.Lo.Y < min a.Hi.Y b.Hi.Y∧max a.Lo.Z b.Lo.Z < min a.Hi.Z b.Hi.Z
instance (a b : qf) : Decidable (ovX a b):=by unfold ovX;infer_instance
theorem qly (a b : qf) : q11 a b = some (if ovX a b then ({Lo:=({X:=max a.Lo.X b.Lo.X,Y:=max a.Lo.Y b.Lo.Y,Z:=max a.Lo.Z b.Lo.Z} : Qe),Hi:=({X:=min a.Hi.X b.Hi.X,Y:=min a.Hi.Y b.Hi.Y,Z:=min a.Hi.Z b.Hi.Z} : Qe)} : qf) else qkb):=by
  unfold q11;by_cases d : max a.Lo.X b.Lo.X < min a.Hi.X b.Hi.X
  · by_cases f : max a.Lo.Y b.Lo.Y < min a.Hi.Y b.Hi.Y
    · by_cases c : max a.Lo.Z b.Lo.Z < min a.Hi.Z b.Hi.Z
      · rw [qp ⟨d,f,c⟩,Q9 q6,Q9 q6,Q9 q6];rfl
      · rw [qs (fun h=>c h.2.2),Q9 q6,Q9 q6,Q6 q6];rfl
    · rw [qs (fun h=>f h.2.1),Q9 q6,Q6 q6];rfl
  · rw [qs (fun h=>d h.1),Q6 q6];rfl
theorem qbi (a b : qf) : ∃ c,q11 a b = some c∧((!((c.Lo.X == 0) && ((c.Lo.Y == 0) && ((c.Lo.Z == 0) && ((c.Hi.X == 0) && ((c.Hi.Y == 0) && ((c.Hi.Z == 0) && true))))))) = decide (ovX a b)):=by
  refine ⟨_,qly a b,?_⟩;by_cases h : ovX a b
  · rw [qp h,Q6 h];obtain ⟨d,f,j⟩:=h;simp only;rw [Bool.not_eq_true',Bool.and_eq_false_iff];by_cases g : max a.Lo.X b.Lo.X = 0
    · right;have : min a.Hi.X b.Hi.X≠0:=by omega
      simp [this]
    · left;simpa using g
  · rw [qs h,Q9 h];rfl
def q3y (a : qf) : qf:={Lo:=({X:=a.Lo.X - 1,Y:=a.Lo.Y,Z:=a.Lo.Z} : Qe),Hi:=({X:=a.Hi.X + 1,Y:=a.Hi.Y,Z:=a.Hi.Z} : Qe)}
def q3z (a : qf) : qf:={Lo:=({X:=a.Lo.X,Y:=a.Lo.Y - 1,Z:=a.Lo.Z} : Qe),Hi:=({X:=a.Hi.X,Y:=a.Hi.Y + 1,Z:=a.Hi.Z} : Qe)}
def q40 (a : qf) : qf:={Lo:=({X:=a.Lo.X,Y:=a.Lo.Y,Z:=a.Lo.Z - 1} : Qe),Hi:=({X:=a.Hi.X,Y:=a.Hi.Y,Z:=a.Hi.Z + 1} : Qe)}
theorem qkr {a b : qf} (s : vB a) : q7b a b = some (decide (ovX (q3y a) b∨ovX (q3z a) b∨ovX (q40 a) b)):=by
  unfold vB at s;have u : w64 (a.Lo.X - 1) = a.Lo.X - 1:=Qc q6;have v : w64 (a.Hi.X + 1) = a.Hi.X + 1:=Qc q6;have q : w64 (a.Lo.Y - 1) = a.Lo.Y - 1:=Qc q6;have t : w64 (a.Hi.Y + 1) = a.Hi.Y + 1:=Qc q6;have o : w64 (a.Lo.Z - 1) = a.Lo.Z - 1:=Qc q6;have p : w64 (a.Hi.Z + 1) = a.Hi.Z + 1:=Qc q6;obtain ⟨c1,k,f1⟩:=qbi (q3y a) b;obtain ⟨c2,m,n⟩:=qbi (q3z a) b;obtain ⟨c3,l,w⟩:=qbi (q40 a) b;have k : q11 ({Lo:=({X:=a.Lo.X - 1,Y:=a.Lo.Y,Z:=a.Lo.Z} : Qe),Hi:=({X:=a.Hi.X + 1,Y:=a.Hi.Y,Z:=a.Hi.Z} : Qe)} : qf) b = some c1:=k;have m : q11 ({Lo:=({X:=a.Lo.X,Y:=a.Lo.Y - 1,Z:=a.Lo.Z} : Qe),Hi:=({X:=a.Hi.X,Y:=a.Hi.Y + 1,Z:=a.Hi.Z} : Qe)} : qf) b = some c2:=m;have l : q11 ({Lo:=({X:=a.Lo.X,Y:=a.Lo.Y,Z:=a.Lo.Z - 1} : Qe),Hi:=({X:=a.Hi.X,Y:=a.Hi.Y,Z:=a.Hi.Z + 1} : Qe)} : qf) b = some c3:=l
  have s0 : U8 a b 0 = some (if ovX (q3y a) b then .inr (.inr true) else .inl 1):=by
    simp only [U8,show decide ((0 : Int) < 3) = true from rfl,show ((0 : Int) == 0) = true from rfl,qw,qj,u,v,k,f1];by_cases h : ovX (q3y a) b
    · rw [Q6 h,qp h];rfl
    · rw [Q9 h,qs h];rfl
  have f : U8 a b 1 = some (if ovX (q3z a) b then .inr (.inr true) else .inl 2):=by
    simp only [U8,show decide ((1 : Int) < 3) = true from rfl,show ((1 : Int) == 0) = false from rfl,show ((1 : Int) == 1) = true from rfl,qw,qv,qj,q,t,m,n];by_cases h : ovX (q3z a) b
    · rw [Q6 h,qp h];rfl
    · rw [Q9 h,qs h];rfl
  have g : U8 a b 2 = some (if ovX (q40 a) b then .inr (.inr true) else .inl 3):=by
    simp only [U8,show decide ((2 : Int) < 3) = true from rfl,show ((2 : Int) == 0) = false from rfl,show ((2 : Int) == 1) = false from rfl,qw,qv,qj,o,p,l,w];by_cases h : ovX (q40 a) b
    · rw [Q6 h,qp h];rfl
    · rw [Q9 h,qs h];rfl
  have r : U8 a b 3 = some (.inr (.inl ())):=rfl;unfold q7b;by_cases c : ovX (q3y a) b
  · rw [qp c] at s0;rw [Kb s0,Q6 (.inl c)];rfl
  rw [qs c] at s0;rw [Km s0];by_cases j : ovX (q3z a) b
  · rw [qp j] at f;rw [Kb f,Q6 (.inr (.inl j))];rfl
  rw [qs j] at f;rw [Km f];by_cases d : ovX (q40 a) b
  · rw [qp d] at g;rw [Kb g,Q6 (.inr (.inr d))];rfl
  rw [qs d] at g;rw [Km g,Kb r,Q9 (fun h=>h.elim c fun h=>h.elim j d)];rfl
theorem qkq {a b : qf} (d : ltB a) (hb : ltB b) (hd : ∀ c,¬ (inC a c∧inC b c)) : (ovX (q3y a) b∨ovX (q3z a) b∨ovX (q40 a) b)↔Zk a b > 0:=by
  rw [qm4];obtain ⟨l,p,n⟩:=d;obtain ⟨b1,m,k⟩:=hb
  have o : ¬ (max a.Lo.X b.Lo.X < min a.Hi.X b.Hi.X∧max a.Lo.Y b.Lo.Y < min a.Hi.Y b.Hi.Y∧max a.Lo.Z b.Lo.Z < min a.Hi.Z b.Hi.Z):=fun ⟨j,e2,e3⟩=>
    hd ⟨max a.Lo.X b.Lo.X,max a.Lo.Y b.Lo.Y,max a.Lo.Z b.Lo.Z⟩ ⟨⟨⟨by simp only;omega,by simp only;omega⟩,⟨by simp only;omega,by simp only;omega⟩,⟨by simp only;omega,by simp only;omega⟩⟩,⟨by simp only;omega,by simp only;omega⟩,⟨by simp only;omega,by simp only;omega⟩,⟨by simp only;omega,by simp only;omega⟩⟩
  have h : max (a.Lo.X - 1) b.Lo.X < min (a.Hi.X + 1) b.Hi.X↔(min a.Hi.X b.Hi.X - max a.Lo.X b.Lo.X = 0∨max a.Lo.X b.Lo.X < min a.Hi.X b.Hi.X):=by omega
  have f : max (a.Lo.Y - 1) b.Lo.Y < min (a.Hi.Y + 1) b.Hi.Y↔(min a.Hi.Y b.Hi.Y - max a.Lo.Y b.Lo.Y = 0∨max a.Lo.Y b.Lo.Y < min a.Hi.Y b.Hi.Y):=by omega
  have g : max (a.Lo.Z - 1) b.Lo.Z < min (a.Hi.Z + 1) b.Hi.Z↔(min a.Hi.Z b.Hi.Z - max a.Lo.Z b.Lo.Z = 0∨max a.Lo.Z b.Lo.Z < min a.Hi.Z b.Hi.Z):=by omega
  unfold ovX q3y q3z q40;simp only;rw [h,f,g];generalize min a.Hi.X b.Hi.X = p1 at *;generalize max a.Lo.X b.Lo.X = q1 at *;generalize min a.Hi.Y b.Hi.Y = p2 at *;generalize max a.Lo.Y b.Lo.Y = q2 at *;generalize min a.Hi.Z b.Hi.Z = p3 at *;generalize max a.Lo.Z b.Lo.Z = q3 at *;omega
structure OfI (s : List qf) (of : List Int) : Prop where
  len : of.length = s.length
  lab : ∀ j (h : j < of.length),∃ m : Nat,of[j] = (m : Int)∧m≤j∧Cn (adjB s) j m
theorem qdv : ∀ (l : List Int) (i : Nat) (h : i < l.length) (v : Int),(l.set i v).sum = l.sum - l[i] + v
  | a::r,0,_,v=>by simp;omega
  | a::r,i + 1,h,v=>by
    have:=qdv r i (by simpa using h) v
    simp only [List.set_cons_succ,List.sum_cons,List.getElem_cons_succ];omega
theorem qjy : ∀ (l : List Int),(∀ j (h : j < l.length),0≤l[j])→0≤l.sum
  | [],_=>by simp
  | a::r,h=>by
    have:=qjy r fun j b=>h (j + 1) (by simpa using b)
    have:=h 0 qb
    simp only [List.getElem_cons_zero] at this
    simp only [List.sum_cons];omega
theorem OfI.nn {s : List qf} {of : List Int} (h : OfI s of) : 0≤of.sum:=qjy of fun j a=>by obtain ⟨m,e,_⟩:=h.lab j a;omega
section
variable {s : List qf}
theorem qr3 (hs : Yd s = 0) {i : Nat} (hi : i < s.length) (l : Bool) (of : List Int) (p : OfI s of) (x : Bool) (y : List Int) :
    ∃ b,loop (q13 s (x,(i : Int),y)) (l,0,of) = some b∧(OfI s b.2∧b.2.sum≤of.sum∧(b.1 = true→l = true∨b.2.sum < of.sum)∧(b.1 = false→l = false∧b.2 = of∧∀ k (d : k < of.length) (a : i < of.length),adjB s i k→¬ of[k] < of[i])):=by
  obtain ⟨hl,hv,w⟩:=Uh.1 hs;have hd:=qmc w
  refine Yv (f:=q13 s (x,(i : Int),y)) (fun k (c : Bool × List Int)=>(c.1,(k : Int),c.2)) s.length (fun k c=>OfI s c.2∧c.2.sum≤of.sum∧(c.1 = true→l = true∨c.2.sum < of.sum)∧(c.1 = false→l = false∧c.2 = of∧∀ j (g : j < of.length) (a : i < of.length),j < k→adjB s i j→¬ of[j] < of[i]))
    (fun b=>OfI s b.2∧b.2.sum≤of.sum∧(b.1 = true→l = true∨b.2.sum < of.sum)∧(b.1 = false→l = false∧b.2 = of∧∀ k (d : k < of.length) (a : i < of.length),adjB s i k→¬ of[k] < of[i])) (fun k c d hc=>?_) (fun c hc=>?_) (Nat.zero_le _) (c0:=(l,of)) ⟨p,Int.le_refl _,fun h=>.inl h,fun h=>⟨h,rfl,fun j _ _ g=>absurd g (Nat.not_lt_zero j)⟩⟩
  · obtain ⟨c1,c2,c3,c4⟩:=hc;have r:=c1.len;have hw:=w64s d (show s.length≤1000000 by omega);have ik : idx c.2 (k : Int) = some c.2[k]:=Qp q6;have ii : idx c.2 (i : Int) = some c.2[i]:=Qp q6;by_cases t : c.2[k] < c.2[i]
    · have af : i≠k:=fun e=>by subst e;omega
      have hb:=qkr (b:=s[k]) (hv _ (Kw hi));have q:=qkq (hv _ (Kw hi)).1 (hv _ (Kw d)).1 (hd i k hi d af);by_cases z : Zk s[i] s[k] > 0
      · rw [Q6 (q.2 z)] at hb;refine .inl ⟨(true,c.2.set i c.2[k]),?_,?_,?_,fun _=>.inr ?_,fun h=>by simp at h⟩
        · simp only [q13,dlt d,qw,ik,ii,qj,Q6 t,Qp hi,Qp d,hb,hw,Int.toNat_natCast]
        · refine ⟨by simpa using r,fun j g=>?_⟩;simp only [List.length_set] at g;rw [List.getElem_set];split
          · rename_i e;subst e;obtain ⟨m,e1,e2,e3⟩:=c1.lab k q6;obtain ⟨m',ak,ah,_⟩:=c1.lab i q6;exact ⟨m,e1,q6,(Cn.step (.refl _) ((q99 hi d).2 z)).trans e3⟩
          · exact c1.lab j g
        · simp only;rw [qdv _ _ q6];omega
        · simp only;rw [qdv _ _ q6];omega
      · rw [Q9 (fun h=>z (q.1 h))] at hb;refine .inl ⟨c,?_,c1,c2,c3,fun h=>?_⟩
        · simp only [q13,dlt d,qw,qv,ik,ii,qj,Q6 t,Qp hi,Qp d,hb,hw]
        · obtain ⟨v,n,u⟩:=c4 h;refine ⟨v,n,fun j g a ad o=>?_⟩;by_cases e : j = k
          · subst e;exact absurd ((q99 hi d).1 o) z
          · exact u j g a q6 o
    · refine .inl ⟨c,?_,c1,c2,c3,fun h=>?_⟩
      · simp only [q13,dlt d,qw,qv,ik,ii,qj,Q9 t,hw]
      · obtain ⟨v,n,u⟩:=c4 h;refine ⟨v,n,fun j g a ad o=>?_⟩;by_cases e : j = k
        · subst e;have : c.2 = of:=n;simp only [this] at t;exact t
        · exact u j g a q6 o
  · obtain ⟨c1,c2,c3,c4⟩:=hc;refine ⟨(c.1,c.2),by simp only [q13,dnl,qv],c1,c2,c3,fun h=>?_⟩;obtain ⟨v,n,u⟩:=c4 h;exact ⟨v,n,fun k d a o=>u k d a (by have:=p.len;omega) o⟩
theorem qim (hs : Yd s = 0) (of : List Int) (d : OfI s of) :
    ∃ b,loop (q3c s) (false,0,of) = some b∧(OfI s b.2∧(b.1 = true→b.2.sum < of.sum)∧(b.1 = false→b.2 = of∧∀ i k (hi : i < of.length) (a : k < of.length),adjB s i k→¬ of[k] < of[i])):=by
  have hl:=(Uh.1 hs).1
  obtain ⟨b,o,z⟩:=Yv (f:=q3c s) (fun k (c : Bool × List Int)=>(c.1,(k : Int),c.2)) s.length (fun k c=>OfI s c.2∧c.2.sum≤of.sum∧(c.1 = true→c.2.sum < of.sum)∧(c.1 = false→c.2 = of∧∀ i k' (hi : i < of.length) (a : k' < of.length),i < k→adjB s i k'→¬ of[k'] < of[i]))
    (fun b=>OfI s b.2∧(b.1 = true→b.2.sum < of.sum)∧(b.1 = false→b.2 = of∧∀ i k (hi : i < of.length) (a : k < of.length),adjB s i k→¬ of[k] < of[i])) (fun k c a n=>by
    obtain ⟨c1,c2,c3,c4⟩:=n
    obtain ⟨b,q,u,x,r,p⟩:=qr3 hs a c.1 c.2 c1 c.1 c.2
    refine .inl ⟨(b.1,b.2),?_,u,Int.le_trans x c2,fun h=>?_,fun h=>?_⟩
    · simp only [q3c,dlt a,qw,q,qj,w64s a (show s.length≤1000000 by omega)]
    · rcases r h with g | g
      · have:=c3 g;simp only;omega
      · simp only;omega
    · obtain ⟨y,v,w⟩:=p h
      obtain ⟨f1,m⟩:=c4 y
      refine ⟨v.trans f1,fun i k' hi j t l=>?_⟩
      by_cases e : i = k
      · subst e
        have:=w k' (by rw [f1];exact j) (by rw [f1];exact hi) l
        simp only [f1] at this;exact this
      · exact m i k' hi j q6 l) (fun c n=>by
    obtain ⟨c1,c2,c3,c4⟩:=n
    refine ⟨(c.1,c.2),by simp only [q3c,dnl,qv],c1,c3,fun h=>?_⟩
    obtain ⟨f1,m⟩:=c4 h
    exact ⟨f1,fun i k hi a l=>m i k hi a (by have:=d.len;omega) l⟩) (Nat.zero_le _) (c0:=(false,of)) ⟨d,Int.le_refl _,fun h=>(by simp at h),fun _=>⟨rfl,fun i _ _ _ h=>absurd h (Nat.not_lt_zero i)⟩⟩
  exact ⟨b,o,z⟩
theorem qr2 (hs : Yd s = 0) : ∀ (n : Nat) (of : List Int),of.sum.toNat≤n→OfI s of→∃ g,loop (U9 s) (true,of) = some g∧OfI s g∧∀ i k (hi : i < g.length) (r : k < g.length),adjB s i k→¬ g[k] < g[i]:=by
  intro n
  induction n with
  | zero=>
    intro of q a;obtain ⟨b,o,d,m,p⟩:=qim hs of a;have l:=a.nn;have hb:=d.nn;have c : U9 s (true,of) = some (.inl b):=by simp only [U9,qw,o,qj]
    rw [Km c];obtain ⟨j,f⟩:=b;cases j
    · obtain ⟨f1,h⟩:=p rfl;have f1 : f = of:=f1;subst f1;exact ⟨_,Kb (by simp only [U9,qv]),a,h⟩
    · have:=m rfl;simp only at this hb;omega
  | succ n ih=>
    intro of q a;obtain ⟨b,o,d,m,p⟩:=qim hs of a;have l:=a.nn;have hb:=d.nn;have c : U9 s (true,of) = some (.inl b):=by simp only [U9,qw,o,qj]
    rw [Km c];obtain ⟨j,f⟩:=b;cases j
    · obtain ⟨f1,h⟩:=p rfl;have f1 : f = of:=f1;subst f1;exact ⟨_,Kb (by simp only [U9,qv]),a,h⟩
    · have:=m rfl;simp only at this hb;exact ih f q6 d
theorem qgx {g : List Int} (p : OfI s g) (d : ∀ i k (hi : i < g.length) (y : k < g.length),adjB s i k→¬ g[k] < g[i]) {i : Nat} (hi : i < g.length) : ∃ r,repI s r∧Cn (adjB s) r i∧g[i] = (r : Int):=by
  have q:=p.len
  have f : ∀ {a b : Nat},Cn (adjB s) a b→∀ (t : a < g.length) (hb : b < g.length),g[a] = g[b]:=fun {a b} h=>by
    induction h with
    | refl=>intro _ _;rfl
    | @step j k o c ih=>
      intro t hb;have l : j < g.length:=by have:=o.lt (qe7 s) (by omega : a < s.length);omega
      have n:=d j k l hb c;have x:=d k j hb l (q43 s _ _ c);rw [ih t l];omega
  obtain ⟨r,o,c,u⟩:=qrk s i;refine ⟨r,c,u,?_⟩;have v : r < g.length:=by omega
  rw [← f u v hi];obtain ⟨m,n,x,w⟩:=p.lab r v;by_cases e : m = r
  · rw [n,e]
  · exact absurd (w.symm (q43 s)) (c m q6)
end
open Classical in
theorem qq5 (s : List qf) : q7e s = some (q10 s):=by
  unfold q7e q10;rw [qqp,qj];by_cases hs : Yd s = 0
  rotate_left
  · rw [qp hs,show (Yd s != 0) = true by simpa using hs];rfl
  rw [qs (not_not_intro hs),hs,show ((0 : Int) != 0) = false from rfl,qv];obtain ⟨hl,hv,ap⟩:=Uh.1 hs
  have e1:=Zh (f:=q3b s) (fun k=>((k : Int),(List.range k).map fun j : Nat=>(j : Int))) s.length ((List.range s.length).map fun j : Nat=>(j : Int)) (fun k b=>by
    simp only [q3b,dlt b,qw,w64s b (show s.length≤1000000 by omega)]
    rw [Ku (by simp;omega),List.range_succ,List.map_append];rfl) (by simp only [q3b,dnl,qv]) (Nat.zero_le _)
  have e1 : loop (q3b s) (0,[]) = _:=e1;rw [e1,qj];have ab : OfI s ((List.range s.length).map fun j : Nat=>(j : Int)):=⟨qb,fun j u=>⟨j,qb,Nat.le_refl _,.refl _⟩⟩
  obtain ⟨g,g1,g2,g3⟩:=qr2 hs _ _ (Nat.le_refl _) ab;rw [g1,qj];have al:=g2.len
  have d : ∀ {i : Nat} (hi : i < g.length),g[i] = (i : Int)↔repI s i:=fun {i} hi=>by
    obtain ⟨r,z,x,h3⟩:=qgx g2 g3 hi;constructor
    · intro h;have : r = i:=by omega
      subst this;exact z
    · intro h;rw [h3];by_cases e : r = i
      · rw [e]
      · by_cases m : r < i
        · exact absurd x (h r m)
        · exact absurd (x.symm (q43 s)) (z i q6)
  have w : ∀ {i k : Nat} (hi : i < g.length) (b : k < g.length),repI s i→(g[k] = (i : Int)↔Cn (adjB s) i k):=fun {i k} hi b c=>by
    obtain ⟨r,z,x,h3⟩:=qgx g2 g3 b;constructor
    · intro h;have : r = i:=by omega
      subst this;exact x
    · intro h;rw [h3];by_cases e : r = i
      · rw [e]
      · have y : Cn (adjB s) r i:=x.trans (h.symm (q43 s));by_cases m : r < i
        · exact absurd y (c r m)
        · exact absurd (y.symm (q43 s)) (z i q6)
  have e5:=Zh (f:=q1y s g) (fun k=>((k : Int),((List.range k).filter fun i=>decide (repI s i)).map fun i=>mrgB 2 (comp s i) [])) s.length (q73 s) (fun k b=>by
    have a : k < g.length:=by omega
    have hw:=w64s b (show s.length≤1000000 by omega);have ik : idx g (k : Int) = some g[k]:=Qp a;by_cases c : repI s k
    · have l:=(d a).2 c
      have e6:=Zh (f:=q1z s g ((k : Int),((List.range k).filter fun i=>decide (repI s i)).map fun i=>mrgB 2 (comp s i) [])) (fun j=>((j : Int),((List.range j).filter fun i=>decide (Cn (adjB s) k i)).filterMap fun i=>s[i]?)) s.length (comp s k) (fun j u=>by
        have n : j < g.length:=by omega
        have ij : idx g (j : Int) = some g[j]:=Qp n;have v:=w64s u (show s.length≤1000000 by omega);have av : (((List.range j).filter fun i=>decide (Cn (adjB s) k i)).filterMap fun i=>s[i]?).length≤j:=Nat.le_trans (List.length_filterMap_le _ _) (Nat.le_trans (List.length_filter_le _ _) qb);rw [List.range_succ,List.filter_append,List.filterMap_append];by_cases hc : Cn (adjB s) k j
        · have t:=(w a n c).2 hc;simp only [q1z,dlt u,qw,ij,Qp u,qj,t,beq_self_eq_true,v];rw [Ku (by simp only [List.length_singleton];omega)];simp [hc,List.getElem?_eq_getElem u]
        · have t : g[j]≠(k : Int):=fun h=>hc ((w a n c).1 h);simp only [q1z,dlt u,qw,qv,ij,qj,show (g[j] == (k : Int)) = false by simpa using t,v]
          simp [hc]) (by simp only [q1z,dnl,qv];rfl) (Nat.zero_le _)
      have e6 : loop (q1z s g ((k : Int),((List.range k).filter fun i=>decide (repI s i)).map fun i=>mrgB 2 (comp s i) [])) (0,[]) = _:=e6;have aq : (comp s k).length≤s.length:=(qd5 s (Cn (adjB s) k)).length_le;obtain ⟨_,k2,_⟩:=qd4 hs (Cn (adjB s) k);have k2 : (mrgB 2 (comp s k) []).length≤s.length:=k2;obtain ⟨o,o1,o2⟩:=qii 2 (p:=comp s k) (q:=[]) (by simp;omega) (qen (by simp;omega)) (qja q6);have o2:=o2 q6;subst o2
      have am : (((List.range k).filter fun i=>decide (repI s i)).map fun i=>mrgB 2 (comp s i) []).length≤k:=by
        rw [List.length_map];exact Nat.le_trans (List.length_filter_le _ _) qb
      simp only [q1y,dlt b,qw,qv,ik,qj,l,bne_self_eq_false,e6,o1,hw];rw [Ku (by simp only [List.length_singleton];omega)];simp only [qj];rw [List.range_succ,List.filter_append,List.map_append];simp [c]
    · have l : g[k]≠(k : Int):=fun h=>c ((d a).1 h);simp only [q1y,dlt b,qw,ik,qj,show (g[k] != (k : Int)) = true by simpa using l,hw];rw [List.range_succ,List.filter_append,List.map_append]
      simp [c]) (by simp only [q1y,dnl,qv];rfl) (Nat.zero_le _)
  have e5 : loop (q1y s g) (0,[]) = _:=e5;rw [e5];rfl
theorem qxy (s : List qf) : q9v s = some true:=by
  unfold q9v;rw [qqt,qj];by_cases f : (30 < s.length∧s.length≤400)∨420 < s.length
  · rw [Q6 f];rfl
  rw [Q9 f,qv,qq4,qq5];simp only [qj,bne_self_eq_false,qv]
  have a : ∀ b∈(q10 s).1,b.length≤1000000:=by
    intro b hb;unfold q10 at hb;split at hb
    · cases hb
    · rename_i hs;have hs:=Classical.not_not.1 hs;rw [qi5] at hb;obtain ⟨r,_,rfl⟩:=List.mem_map.1 hb;have:=(qd4 hs (Cn (adjB s) r)).2.1;have g:=(Uh.1 hs).1;have this : (mrgB 2 (comp s r) []).length≤s.length:=this;omega
  have d : (q10 s).1.length≤1000000:=by
    unfold q10;split
    · simp
    · rw [qi5,List.length_map];have:=qrm s;omega
  generalize q10 s = R at a d ⊢
  rcases q2o R.1 (fun _=>false) (fun k _=>false) () (q4h R R) (fun k c=>by
    simp only [q4h,dlt c,qw,Qp c,qj,sameBox _ _ (a _ (Kw c)),decide_true,Bool.not_true,qv,w64s c d]
    rfl) (by simp only [q4h,dnl,qv]) with ⟨_,a2⟩ | ⟨k,c,hc,_,_⟩
  · rw [a2];rfl
  · cases hc
end Go.Sh
