/- Pt1 Pt2 Pt3 Pt4 Pt5 Pt6 Pt7 Qa1 Qa2 Qa3 Su5 -/
import Derived.Test.YtmnfbjlabfeneaaGreatK10
namespace Go.Sh
open Go Go.Am
theorem Zf {α β : Type} {f : α→Option (α ⊕ β)} (st : Nat→α) (n : Nat) (b : β) (hs : ∀ k,k < n→f (st k) = some (.inl (st (k + 1)))) (hd : f (st n) = some (.inr b)) : ∀ {k : Nat},k≤n→loop f (st k) = some b:=by
  have key : ∀ m k,n - k = m→k≤n→loop f (st k) = some b:=by
    intro m
    induction m with
    | zero => intro k c a; obtain rfl : k = n := by omega
              exact Kd hd
    | succ m ih=>intro k c a;rw [Kp (hs k q0)];exact ih (k + 1) q0 q0
  intro k a;exact key _ k rfl a
theorem w64s {k : Nat} {n : Nat} (h : k < n) (a : n≤1000000) : w64 ((k : Int) + 1) = ((k + 1 : Nat) : Int):=by rw [qv q0];omega
theorem dlt {k n : Nat} (h : k < n) : decide ((k : Int) < (n : Int)) = true:=Qb q0
theorem dnl {n : Nat} : decide ((n : Int) < (n : Int)) = false:=Q8 q0
theorem Uc {α β γ : Type} (src : List α) (_ : src.length≤1000000) (h : α→List γ) (out : List γ) (fin : List γ→β) (f : Int × List γ→Option ((Int × List γ) ⊕ β))
    (hs : ∀ (k : Nat) (a : k < src.length) (o : List γ),o = out ++ (src.take k).flatMap h→f ((k : Int),o) = some (.inl (((k + 1 : Nat) : Int),o ++ h src[k])))
    (hd : ∀ o,f ((src.length : Int),o) = some (.inr (fin o))) : loop f (0,out) = some (fin (out ++ src.flatMap h)):=by
  have e : ∀ k (a : k < src.length),(src.take (k + 1)).flatMap h = (src.take k).flatMap h ++ h src[k]:=fun k a=>by
    rw [List.take_succ_eq_append_getElem a,List.flatMap_append,List.flatMap_cons,List.flatMap_nil,List.append_nil]
  have:=Zf (f:=f) (fun k=>((k : Int),out ++ (src.take k).flatMap h)) src.length (fin (out ++ src.flatMap h)) (fun k a=>by
    rw [hs k a _ rfl,e k a,List.append_assoc]) (by simp only [List.take_length];exact hd _) (Nat.zero_le _)
  simpa using this
theorem q6k {α β γ : Type} (src : List α) (h : α→γ) (out : List γ) (fin : List γ→β) (f : Int × List γ→Option ((Int × List γ) ⊕ β))
    (hs : ∀ (k : Nat) (a : k < src.length) (o : List γ),o.length = out.length + k→f ((k : Int),o) = some (.inl (((k + 1 : Nat) : Int),o ++ [h src[k]])))
    (hd : ∀ o,f ((src.length : Int),o) = some (.inr (fin o))) : loop f (0,out) = some (fin (out ++ src.map h)):=by
  have e : ∀ k (a : k < src.length),(src.take (k + 1)).map h = (src.take k).map h ++ [h src[k]]:=fun k a=>by
    rw [List.take_succ_eq_append_getElem a,List.map_append,List.map_cons,List.map_nil]
  have:=Zf (f:=f) (fun k=>((k : Int),out ++ (src.take k).map h)) src.length (fin (out ++ src.map h)) (fun k a=>by
    rw [hs k a _ (by simp;omega),e k a,List.append_assoc]) (by simp only [List.take_length];exact hd _) (Nat.zero_le _)
  simpa using this
theorem q65 {γ : Type} (g : γ→γ) (a b : List γ) (l : (a ++ b).length≤1000000) (f : Int × List γ→Option ((Int × List γ) ⊕ (List γ)))
    (hs : ∀ (k : Nat) (o : List γ) (h : k < o.length),o.length = (a ++ b).length→f ((k : Int),o) = some (.inl (((k + 1 : Nat) : Int),o.set k (g o[k]))))
    (hd : ∀ o : List γ,f ((o.length : Int),o) = some (.inr o)) : loop f ((a.length : Int),a ++ b) = some (a ++ b.map g):=by
  have m : a.length + b.length≤1000000:=by simpa using l
  have key:=Zf (f:=f) (fun k=>(((a.length + k : Nat) : Int),a ++ ((b.take k).map g ++ b.drop k))) b.length (a ++ b.map g) (fun k h=>by
    have c : (a ++ ((b.take k).map g ++ b.drop k)).length = (a ++ b).length:=by simp;omega
    have d : a.length + k < (a ++ ((b.take k).map g ++ b.drop k)).length:=by rw [c];simp;omega
    rw [hs (a.length + k) _ d c];have j : ((b.take k).map g).length = k:=by simp;omega
    have e : (a ++ ((b.take k).map g ++ b.drop k))[a.length + k]'d = b[k]:=by
      rw [List.getElem_append_right q0];rw [List.getElem_append_right (by rw [j];omega)];simp [List.length_take,Nat.min_eq_left (Nat.le_of_lt h)]
    rw [e];congr 4;rw [List.set_append,qs q0,List.set_append,qs (by rw [j];omega),j];have z : a.length + k - a.length - k = 0:=by omega
    rw [z,List.take_succ_eq_append_getElem h,List.drop_eq_getElem_cons h,List.set_cons_zero,List.map_append,List.map_cons,List.map_nil,List.append_assoc]
    rfl) (by
    simp only [List.take_length,List.drop_length,List.append_nil];have:=hd (a ++ b.map g)
    simpa using this) (Nat.zero_le _)
  simpa using key
theorem Uu {α γ υ : Type} (l : List α) (c : α→Bool) (m : (k : Nat)→k < l.length→γ) (u : υ) (f : Int→Option (Int ⊕ (υ ⊕ γ)))
    (hs : ∀ (k : Nat) (h : k < l.length),f (k : Int) = some (if c l[k] = true then .inr (.inr (m k h)) else .inl ((k + 1 : Nat) : Int))) (hd : f (l.length : Int) = some (.inr (.inl u))) :
    ((∀ v∈l,c v = false)∧loop f 0 = some (.inl u))∨∃ k,∃ h : k < l.length,c l[k] = true∧(∀ j (d : j < k),c (l[j]'(q0)) = false)∧loop f 0 = some (.inr (m k h)):=by
  by_cases p : ∀ v∈l,c v = false
  · refine .inl ⟨p,?_⟩;exact Zf (f:=f) (fun k=>(k : Int)) l.length _ (fun k b=>by rw [hs k b,p _ (Y7 b)];rfl) hd (Nat.zero_le _)
  · refine .inr ?_
    have : ∃ k,∃ h : k < l.length,c l[k] = true:=by
      refine Classical.byContradiction fun r=>p fun v s=>?_;obtain ⟨k,b,rfl⟩:=List.getElem_of_mem s;cases o : c l[k]
      · rfl
      · exact absurd ⟨k,b,o⟩ r
    have g : ∃ k,(∃ h : k < l.length,c l[k] = true)∧∀ j,j < k→¬ ∃ h : j < l.length,c l[j] = true:=by
      obtain ⟨k,b⟩:=this
      induction k using Nat.strongRecOn with
      | _ k ih=>
        by_cases d : ∃ j,j < k∧∃ h : j < l.length,c l[j] = true
        · obtain ⟨j,q,g⟩:=d;exact ih j q g
        · exact ⟨k,b,fun j q g=>d ⟨j,q,g⟩⟩
    obtain ⟨k,⟨b,o⟩,n⟩:=g
    have a : ∀ j (d : j < k),c (l[j]'(q0)) = false:=fun j d=>by
      cases h : c (l[j]'(q0))
      · rfl
      · exact absurd ⟨q0,h⟩ (n j d)
    refine ⟨k,b,o,a,?_⟩;exact Zf (f:=f) (fun k=>(k : Int)) k _ (fun j d=>by rw [hs j q0,a j d];rfl) (by rw [hs k b,qq o]) (Nat.zero_le _)
theorem qpq : ∀ {l a b : List Int},Z2 l a→Z2 l b→a = b:=by
  have key : ∀ (a b : List Int),a.Pairwise (· < ·)→b.Pairwise (· < ·)→(∀ x,x∈a↔x∈b)→a = b:=by
    intro a
    induction a with
    | nil=>intro b _ _ h;cases b with
      | nil=>rfl
      | cons y b=>exact absurd ((h y).2 qe) qe
    | cons x a ih=>
      intro b d hb h
      cases b with
      | nil=>exact absurd ((h x).1 qe) qe
      | cons y b=>
        rw [List.pairwise_cons] at d hb
        have g : x = y:=by
          rcases List.mem_cons.1 ((h x).1 qe) with c | c
          · exact c
          · rcases List.mem_cons.1 ((h y).2 qe) with j | j
            · exact j.symm
            · have:=hb.1 _ c;have:=d.1 _ j;omega
        subst g;rw [ih b d.2 hb.2 fun z=>?_];constructor
        · intro f;rcases List.mem_cons.1 ((h z).1 (by simp [f])) with c | c
          · have:=d.1 _ f;omega
          · exact c
        · intro f;rcases List.mem_cons.1 ((h z).2 (by simp [f])) with c | c
          · have:=hb.1 _ f;omega
          · exact c
  intro l a b d hb;exact key a b d.1 hb.1 fun x=>(d.2 x).trans (hb.2 x).symm
def ltI (a b : Int) : Bool:=decide (a < b)
theorem swoI : Sort.SWO ltI where
  irrefl:=by intro x;simp [ltI]
  trans:=by intro x y z;simp only [ltI,decide_eq_true_eq];omega
  ntrans:=by intro x y z;simp only [ltI,decide_eq_false_iff_not];omega
theorem cmpI : Ku qO ltI (fun _=>True):=by
  intro x y _ _;refine ⟨sg x y,rfl,?_⟩;rw [Ja];rfl
theorem qpp (l : List Int) (c : l.length≤1000000) : ∃ ys,q1e l = some ys∧ys.Perm l∧ys.Pairwise (·≤·):=by
  obtain ⟨ys,f,d,g⟩:=qpo cmpI swoI l c (fun _ _=>trivial);refine ⟨ys,by rw [q12x];exact f,d,g.imp ?_⟩;intro a b h;simp only [ltI,decide_eq_false_iff_not] at h;omega
end Go.Sh
namespace Go.Sh
open Go Go.Am
structure CInv (p : List Int) (k k2 i : Nat) (a : List Int) : Prop where
  len : a.length = p.length
  hi : i≤k + k2 - 1
  same : ∀ j (h : j < p.length),k + k2 - 1≤j→a[j]? = some p[j]
  so : Z2 (p.take (k + k2)) (a.take i)
theorem qt8 {p : List Int} (hp : p.Pairwise (·≤·)) (hl : p.length≤1000000) {k b i : Nat} {a : List Int} (hk : 0 < k) (h2 : 0 < b) (u : k + b < p.length) (h : CInv p k b i a) :
    ∃ (i' : Nat) (a' : List Int),q2a ((i : Int),(k,p.length - k),(b : Int),a) = some (.inl ((i' : Int),(k,p.length - k),((b + 1 : Nat) : Int),a'))∧CInv p k (b + 1) i' a':=by
  obtain ⟨h1,h3,o,h5,v⟩:=h;have hb : decide ((b : Int) < ((p.length - k : Nat) : Int)) = true:=dlt q0
  have r1 : idxW a (k,p.length - k) (b : Int) = some (p[k + b]):=by
    unfold idxW;rw [qq ⟨q0,q0⟩];simp only [Int.toNat_natCast];exact o (k + b) u q0
  have r2 : idxW a (k,p.length - k) (w64 ((b : Int) - 1)) = some (p[k + b - 1]):=by
    rw [qv q0];have e : (b : Int) - 1 = ((b - 1 : Nat) : Int):=by omega
    rw [e];unfold idxW;rw [qq ⟨q0,q0⟩];simp only [Int.toNat_natCast];have:=o (k + b - 1) q0 q0;rw [show k + (b - 1) = k + b - 1 by omega];exact this
  have aj : p[k + b - 1]≤p[k + b]:=List.pairwise_iff_getElem.1 hp _ _ q0 u q0
  have l : p[k + b - 1]∈p.take (k + b):=by
    rw [List.mem_take_iff_getElem];exact ⟨k + b - 1,q0,rfl⟩
  have f : p.take (k + (b + 1)) = p.take (k + b) ++ [p[k + b]]:=by rw [← Nat.add_assoc,List.take_succ_eq_append_getElem u]
  have hw : w64 ((b : Int) + 1) = ((b + 1 : Nat) : Int):=w64s (n:=p.length) q0 hl;by_cases z : p[k + b] = p[k + b - 1]
  · refine ⟨i,a,?_,h1,q0,fun j q r=>o j q q0,?_⟩
    · have c : (p[k + b] != p[k + b - 1]) = false:=by rw [z];simp
      simp only [q2a,hb,qz,r1,r2,qj,c,qy,hw]
    · rw [f];refine ⟨h5,fun x=>?_⟩;rw [v x];constructor
      · intro g;exact List.mem_append.2 (.inl g)
      · intro g;rcases List.mem_append.1 g with h | h
        · exact h
        · simp only [List.mem_singleton] at h;rw [h,z];exact l
  · have c : (p[k + b] != p[k + b - 1]) = true:=by simpa using z
    have m : i < a.length:=by omega
    have r3 : idx a (i : Int) = some a[i]:=Qw m;have s : w64 ((i : Int) + 1) = ((i + 1 : Nat) : Int):=w64s (n:=p.length) q0 hl;refine ⟨i + 1,a.set i p[k + b],?_,by simpa using h1,q0,fun j q r=>?_,?_⟩
    · simp only [q2a,hb,qz,r1,r2,qj,c,r3,hw,s,Int.toNat_natCast]
    · rw [List.getElem?_set_ne q0];exact o j q q0
    · have e : (a.set i p[k + b]).take (i + 1) = a.take i ++ [p[k + b]]:=by
        rw [List.take_succ_eq_append_getElem (by simpa using m)];simp [List.take_set_of_le]
      rw [e,f];refine ⟨?_,fun x=>?_⟩
      · rw [List.pairwise_append];refine ⟨h5,qe,fun x g y hy=>?_⟩;simp only [List.mem_singleton] at hy;subst hy;have d:=(v x).1 g;rw [List.mem_take_iff_getElem] at d;obtain ⟨j,q,rfl⟩:=d
        have : p[j]≤p[k + b - 1]:=by
          by_cases t : j = k + b - 1
          · subst t;exact Int.le_refl _
          · exact List.pairwise_iff_getElem.1 hp _ _ q0 q0 q0
        omega
      · rw [List.mem_append,List.mem_append,v x]
theorem qt7 {p : List Int} (hp : p.Pairwise (·≤·)) (o : p.length≤1000000) {k : Nat} (s : 0 < k) (m : k < p.length) (r : Z2 (p.take (k + 1)) (p.take k)) :
    ∃ i : Nat,∃ a : List Int,loop q2a ((k : Int),(k,p.length - k),1,p) = some ((i : Int),a)∧a.length = p.length∧i≤p.length∧Z2 p (a.take i):=by
  have h:=U7 (f:=q2a) (mk:=fun d (c : Nat × List Int)=>((c.1 : Int),(k,p.length - k),((d : Nat) : Int),c.2)) (p.length - k) (fun d c=>0 < d∧CInv p k d c.1 c.2)
    (fun b=>∃ i : Nat,∃ a : List Int,b = ((i : Int),a)∧a.length = p.length∧i≤p.length∧Z2 p (a.take i))
    (fun d c n g=>by
      obtain ⟨v,a',t,z⟩:=qt8 hp o s g.1 q0 g.2
      exact .inl ⟨(v,a'),t,q0,z⟩)
    (fun c g=>by
      obtain ⟨l,x,h3,h4,y⟩:=g;refine ⟨((c.1 : Int),c.2),?_,c.1,c.2,rfl,x,q0,?_⟩
      · simp only [q2a,dnl,qy]
      · rwa [List.take_of_length_le q0] at y)
    (k0:=1) (c0:=(k,p)) q0 ⟨q0,rfl,qe,fun j u _=>by simp [u],r⟩
  obtain ⟨b,hb,i,a,rfl,q⟩:=h;exact ⟨i,a,hb,q⟩
theorem qk6 {p : List Int} (hp : p.Pairwise (·≤·)) (y : p.length≤1000000) :
    ∃ w a,q3i p = some ((0,w),a)∧a.length = p.length∧w≤p.length∧Z2 p (a.take w):=by
  unfold q3i;by_cases hs : p.length < 2
  · rw [Qb (by omega : (p.length : Int) < 2),qz];refine ⟨p.length,p,rfl,rfl,Nat.le_refl _,?_⟩;rw [List.take_length];refine ⟨?_,fun x=>Iff.rfl⟩
    match p,hs with
    | [],_=>simp
    | [x],_=>simp
  rw [Q8 (by omega : ¬ (p.length : Int) < 2),qy]
  have b : ∀ k,k≤p.length→(∀ j (n : j < k),0 < j→∀ h : j < p.length,p[j]≠p[j - 1])→Z2 (p.take k) (p.take k):=by
    intro k g q;refine ⟨?_,fun x=>Iff.rfl⟩;rw [List.pairwise_iff_getElem];intro i j hi n z;simp only [List.length_take] at hi n;simp only [List.getElem_take];have m : p[j - 1]≤p[j]:=List.pairwise_iff_getElem.1 hp _ _ q0 q0 q0;have r:=q j q0 q0 q0
    have h3 : p[i]≤p[j - 1]:=by
      by_cases e : i = j - 1
      · subst e;exact Int.le_refl _
      · exact List.pairwise_iff_getElem.1 hp _ _ q0 q0 q0
    omega
  have c : ∀ k,0 < k→∀ h : k < p.length,p[k]≠p[k - 1]→Jr p (k : Int) = some (.inl ((k + 1 : Nat) : Int)):=by
    intro k d h q;have u : idx p (w64 ((k : Int) - 1)) = some (p[k - 1]):=by rw [qv q0];exact q21 q0 q0
    have hb : (p[k] == p[k - 1]) = false:=by simpa using q
    simp only [Jr,dlt h,qz,Qw h,u,qj,hb,qy,w64s h y]
  by_cases t : ∀ j,0 < j→∀ h : j < p.length,p[j]≠p[j - 1]
  · have m : loop (Jr p) 1 = some (.inl ()):=by
      exact Zf (f:=Jr p) (fun k=>((k + 1 : Nat) : Int)) (p.length - 1) _ (fun k g=>by
        exact c (k + 1) q0 q0 (t (k + 1) q0 q0)) (by
        show Jr p (((p.length - 1) + 1 : Nat) : Int) = _;rw [show p.length - 1 + 1 = p.length by omega]
        simp only [Jr,dnl,qy]) (Nat.zero_le _)
    rw [m];refine ⟨p.length,p,rfl,rfl,Nat.le_refl _,?_⟩;have:=b p.length (Nat.le_refl _) fun j _ d h=>t j d h;rw [List.take_length] at this ⊢;exact this
  · have r : ∃ k,(0 < k∧∃ h : k < p.length,p[k] = p[k - 1])∧∀ j,j < k→¬ (0 < j∧∃ h : j < p.length,p[j] = p[j - 1]):=by
      have : ∃ k,0 < k∧∃ h : k < p.length,p[k] = p[k - 1]:=by
        refine Classical.byContradiction fun hn=>t fun j d h o=>hn ⟨j,d,h,o⟩
      obtain ⟨k,g⟩:=this
      induction k using Nat.strongRecOn with
      | _ k ih=>
        by_cases n : ∃ j,j < k∧(0 < j∧∃ h : j < p.length,p[j] = p[j - 1])
        · obtain ⟨j,m,r⟩:=n;exact ih j m r
        · exact ⟨k,g,fun j m r=>n ⟨j,m,r⟩⟩
    obtain ⟨k,⟨d,g,o⟩,l⟩:=r;have v : Z2 (p.take k) (p.take k):=b k q0 fun j n d h o=>l j n ⟨d,h,o⟩
    have s : Z2 (p.take (k + 1)) (p.take k):=by
      refine ⟨v.1,fun x=>?_⟩;rw [List.take_succ_eq_append_getElem g,List.mem_append];refine ⟨.inl,fun h=>h.elim id fun h=>?_⟩;simp only [List.mem_singleton] at h;rw [h,o,List.mem_take_iff_getElem];exact ⟨k - 1,q0,rfl⟩
    obtain ⟨i,a,e1,e2,e3,e4⟩:=qt7 hp y d g s;have s1 : sub2 p.length (k : Int) (p.length : Int) = some (k,p.length - k):=by unfold sub2;rw [qq ⟨q0,q0,q0⟩];simp
    have s2 : sub2 a.length (i : Int) (a.length : Int) = some (i,a.length - i):=by unfold sub2;rw [qq ⟨q0,q0,q0⟩];simp
    have s3 : sub2 a.length 0 (i : Int) = some (0,i):=by unfold sub2;rw [qq ⟨q0,q0,q0⟩];simp
    have u : idx p (w64 ((k : Int) - 1)) = some (p[k - 1]):=by rw [qv q0];exact q21 q0 q0
    have m : loop (Jr p) 1 = some (.inr ((0,i),clrw a (i,a.length - i) 0)):=by
      exact Zf (f:=Jr p) (fun k=>((k + 1 : Nat) : Int)) (k - 1) _ (fun j n=>by
        exact c (j + 1) q0 q0 fun o=>l (j + 1) q0 ⟨q0,q0,o⟩) (by
        show Jr p (((k - 1) + 1 : Nat) : Int) = _;rw [show k - 1 + 1 = k by omega];have hb : (p[k] == p[k - 1]) = true:=by simpa using o
        simp only [Jr,dlt g,qz,Qw g,u,qj,hb,s1,e1,s2,s3]) (Nat.zero_le _)
    rw [m];refine ⟨i,clrw a (i,a.length - i) 0,rfl,by rw [qjx (by simp;omega)];exact e2,e3,?_⟩
    have : (clrw a (i,a.length - i) 0).take i = a.take i:=by
      unfold clrw splice;rw [List.append_assoc,List.take_append_of_le_length (by simp;omega)];simp [List.take_take]
    rw [this];exact e4
end Go.Sh
namespace Go.Sh
open Go Go.Am
theorem q98 {α : Type} [DecidableEq α] (e : α→α→Bool) (j : ∀ v w,e v w = decide (v = w)) (p q : List α) (s : p.length≤1000000) (f : Int→Option (Int ⊕ (Unit ⊕ Bool)))
    (d : ∀ k,f k = cond (decide (k < (p.length : Int))) ((idx p k).bind fun v=>(idx q k).bind fun w=>cond (!(e v w)) (some (.inr (.inr false))) (some (.inl (w64 (k + 1))))) (some (.inr (.inl ())))) :
    cond ((p.length : Int) != (q.length : Int)) (some false) ((loop f 0).bind fun m=>(match m with | .inl _=>some true | .inr x=>some x)) = some (decide (p = q)):=by
  by_cases a : p.length = q.length
  · have : ((p.length : Int) != (q.length : Int)) = false:=by rw [a];simp
    rw [this,qy]
    let c : Nat→Bool:=fun k=>if h : k < p.length then !(e p[k] (q[k]'(q0))) else false
    have hs : ∀ (k : Nat) (h : k < (List.range p.length).length),f (k : Int) = some (if c (List.range p.length)[k] = true then .inr (.inr false) else .inl ((k + 1 : Nat) : Int)):=by
      intro k h;have h : k < p.length:=by simpa using h
      rw [d];simp only [dlt h,qz,Qw h,Qw (xs:=q) (k:=k) q0,qj,List.getElem_range,c,dif_pos h,w64s h s];cases e p[k] (q[k]'(q0)) <;> simp
    have hd : f ((List.range p.length).length : Int) = some (.inr (.inl ())):=by rw [d];simp []
    rcases Uu (List.range p.length) c (fun _ _=>false) () f hs hd with ⟨r,b⟩ | ⟨k,n,l,_,b⟩
    · rw [b]
      have : p = q:=by
        refine List.ext_getElem a fun k g t=>?_;have:=r k (by simpa using g);simp only [c,dif_pos g,j,Bool.not_eq_false',decide_eq_true_eq] at this;exact this
      simp [this]
    · rw [b];have o : k < p.length:=by simpa using n
      have : p≠q:=by
        intro h;simp only [List.getElem_range,c,j,h] at l;simp at l
      simp [this]
  · have : ((p.length : Int) != (q.length : Int)) = true:=by simpa using (fun h : (p.length : Int) = q.length=>a q0)
    rw [this,qz];have : p≠q:=fun h=>a (by rw [h]);simp [this]
theorem qfp (p q : List qo) (a : p.length≤1000000) : q7e p q = some (decide (p = q)):=
  q98 (fun v w=>((v.Lo == w.Lo) && ((v.Hi == w.Hi) && true))) (fun v w=>by cases v;cases w;rw [Bool.eq_iff_iff];simp) p q a (qe2 p q) (fun _=>rfl)
theorem qot (p q : List qo) (a : p.length≤1000000) : q6s p q = some (decide (p = q)):=
  q98 (fun v w=>((v.Lo == w.Lo) && ((v.Hi == w.Hi) && true))) (fun v w=>by cases v;cases w;rw [Bool.eq_iff_iff];simp) p q a (qdg p q) (fun _=>rfl)
theorem qko (p q : List ql) (a : p.length≤1000000) : qad p q = some (decide (p = q)):=
  q98 (fun v w=>((v.X0 == w.X0) && ((v.Y0 == w.Y0) && ((v.X1 == w.X1) && ((v.Y1 == w.Y1) && true))))) (fun v w=>by cases v;cases w;rw [Bool.eq_iff_iff];simp) p q a (qe0 p q) (fun _=>rfl)
theorem qdv (p q : List ql) (a : p.length≤1000000) : q3a p q = some (decide (p = q)):=
  q98 (fun v w=>((v.X0 == w.X0) && ((v.Y0 == w.Y0) && ((v.X1 == w.X1) && ((v.Y1 == w.Y1) && true))))) (fun v w=>by cases v;cases w;rw [Bool.eq_iff_iff];simp) p q a (qdh p q) (fun _=>rfl)
theorem sameBox (p q : List qf) (a : p.length≤1000000) : qdo p q = some (decide (p = q)):=
  q98 (fun v w=>((v.Lo.X == w.Lo.X) && ((v.Lo.Y == w.Lo.Y) && ((v.Lo.Z == w.Lo.Z) && ((v.Hi.X == w.Hi.X) && ((v.Hi.Y == w.Hi.Y) && ((v.Hi.Z == w.Hi.Z) && true))))))) (fun v w=>by rcases v with ⟨⟨_,_,_⟩,⟨_,_,_⟩⟩;rcases w with ⟨⟨_,_,_⟩,⟨_,_,_⟩⟩;rw [Bool.eq_iff_iff];simp [and_assoc]) p q a (qdp p q) (fun _=>rfl)
structure Mg (σ β : Type) where
  done : List β
  sec : List σ
  lo : Int
  hi : Int
section
variable {σ β : Type} [DecidableEq σ] (put : Int→Int→σ→β)
def Mg.flat (s : Mg σ β) : List β:=s.done ++ s.sec.map (put s.lo s.hi)
def addM (s : Mg σ β) (a b : Int) (c : List σ) : Mg σ β:=if c≠[]∧c = s.sec∧s.hi = a then ⟨s.done,s.sec,s.lo,b⟩ else ⟨s.flat put,c,a,b⟩
def K2 : Mg σ β:=⟨[],[],0,0⟩
def K4 (s0 : Mg σ β) (steps : List (Int × Int × List σ)) : Mg σ β:=steps.foldl (fun s t=>addM put s t.1 t.2.1 t.2.2) s0
theorem q68 {s0 : Mg σ β} {steps : List (Int × Int × List σ)} {i : Nat} (h : i < steps.length) : K4 put s0 (steps.take (i + 1)) = addM put (K4 put s0 (steps.take i)) steps[i].1 steps[i].2.1 steps[i].2.2:=by
  unfold K4;rw [List.take_succ_eq_append_getElem h,List.foldl_append];rfl
theorem qf5 (s : Mg σ β) (a b : Int) (c : List σ) : (addM put s a b c).hi = b:=by unfold addM;split <;> rfl
theorem qj0 (s : Mg σ β) (a b : Int) (c : List σ) : ((addM put s a b c).flat put).length≤(s.flat put).length + c.length:=by
  unfold addM;split
  · simp [Mg.flat]
  · simp [Mg.flat];omega
theorem qfw {s0 : Mg σ β} {M : Nat} : ∀ {steps : List (Int × Int × List σ)},(∀ t∈steps,t.2.2.length≤M)→((K4 put s0 steps).flat put).length≤(s0.flat put).length + steps.length * M:=by
  intro steps
  induction steps generalizing s0 with
  | nil=>intro _;simp [K4]
  | cons t r ih=>
    intro h;have f:=ih (s0:=addM put s0 t.1 t.2.1 t.2.2) fun u a=>h u (by simp [a]);have c:=qj0 put s0 t.1 t.2.1 t.2.2;have d:=h t qe;have b : K4 put s0 (t::r) = K4 put (addM put s0 t.1 t.2.1 t.2.2) r:=rfl;rw [b];simp only [List.length_cons,Nat.succ_mul];omega
end
section
variable {σ : Type}
def Yy (cuts : List Int) (sec : Int→List σ) : List (Int × Int × List σ):=(cuts.zip cuts.tail).map fun c=>(c.1,c.2,sec c.1)
theorem qbj (a : List Int) (sec : Int→List σ) : (Yy a sec).length = a.length - 1:=by simp [Yy]
theorem qbi {a : List Int} {sec : Int→List σ} {i : Nat} (h : i < (Yy a sec).length) (b : i + 1 < a.length) : (Yy a sec)[i] = (a[i],a[i + 1],sec a[i]):=by
  simp [Yy]
theorem q15y {a : List Int} {sec : Int→List σ} {M : Nat} (h : ∀ x,(sec x).length≤M) : ∀ t∈Yy a sec,t.2.2.length≤M:=by
  intro t b;simp only [Yy,List.mem_map] at b;obtain ⟨c,_,rfl⟩:=b;exact h _
end
theorem Ud {σ β : Type} [DecidableEq σ] (put : Int→Int→σ→β) (s : Mg σ β) (a b : Int) (c : List σ) : (c≠[]∧c = s.sec∧s.hi = a∧addM put s a b c = ⟨s.done,s.sec,s.lo,b⟩)∨(¬ (c≠[]∧c = s.sec∧s.hi = a)∧addM put s a b c = ⟨s.flat put,c,a,b⟩):=by
  unfold addM;split
  · rename_i h;exact .inl ⟨h.1,h.2.1,h.2.2,rfl⟩
  · rename_i h;exact .inr ⟨h,rfl⟩
def putR (a b : Int) (t : qo) : ql:={X0:=a,Y0:=t.Lo,X1:=b,Y1:=t.Hi}
theorem qrn (s : Mg qo ql) (a b : Int) (c : List qo) (hl : (s.flat putR).length + c.length≤1000000) :
    qa2 (s.flat putR) s.sec (s.done.length : Int) s.hi a b c = some ((addM putR s a b c).sec,((addM putR s a b c).done.length : Int),(addM putR s a b c).hi,(addM putR s a b c).flat putR):=by
  have d : s.sec.length≤1000000:=by have : (s.flat putR).length = s.done.length + s.sec.length:=(by simp [Mg.flat]);omega
  unfold qa2;rcases Ud putR s a b c with ⟨p,r,x,m⟩ | ⟨p,m⟩
  · have hb : decide ((c.length : Int) > 0) = true:=Qb (by have:=List.length_pos_iff.2 p;omega);have y : (s.hi == a) = true:=by simpa using x
    rw [r] at hb;rw [m,r];simp only [hb,qz,y,qj,qfp _ _ d,decide_true]
    have:=q65 (fun v : ql=>({X0:=v.X0,Y0:=v.Y0,X1:=b,Y1:=v.Y1} : ql)) s.done (s.sec.map (putR s.lo s.hi)) (by have : (s.done ++ s.sec.map (putR s.lo s.hi)).length = (s.flat putR).length:=rfl;omega) (q78 b) (fun k o f u=>by
      have l : (s.done ++ s.sec.map (putR s.lo s.hi)).length = (s.flat putR).length:=rfl
      simp only [q78,dlt f,qz,Qw f,qj,w64s f q0,Int.toNat_natCast]) (fun o=>by simp only [q78,dnl,qy])
    rw [show s.flat putR = s.done ++ s.sec.map (putR s.lo s.hi) from rfl,this];simp only [qj,Mg.flat,List.map_map];rfl
  · rw [m]
    have z : ((cond (decide ((c.length : Int) > 0)) (some (s.hi == a)) (some false)).bind fun g=>(cond g ((q7e s.sec c).bind fun j=>some j) (some false))) = some false:=by
      by_cases l : c = []
      · subst l;simp
      · have hb : decide ((c.length : Int) > 0) = true:=Qb (by have:=List.length_pos_iff.2 l;omega);simp only [hb,qz,qj,qfp _ _ d];by_cases q : s.hi = a
        · have t : s.sec≠c:=fun h=>p ⟨l,h.symm,q⟩;simp [q,t]
        · have : (s.hi == a) = false:=by simpa using q
          simp [this]
    have n:=q6k c (putR a b) (s.flat putR) (fun o=>(c,((s.flat putR).length : Int),b,o)) (q79 c a b (s.flat putR)) (fun k f o u=>by
      simp only [q79,dlt f,qz,Qw f,qj,w64s f q0];rw [Y8 (by simp;omega)]
      rfl) (fun o=>by simp only [q79,dnl,qy])
    rw [← Option.bind_assoc,z];simp only [qj,qy,n];simp [Mg.flat]
end Go.Sh
namespace Go.Sh
open Go Go.Am
def vR (r : ql) : Prop:=r.X0 < r.X1∧r.Y0 < r.Y1∧-1000000≤r.X0∧r.X0≤1000000∧-1000000≤r.X1∧r.X1≤1000000∧-1000000≤r.Y0∧r.Y0≤1000000∧-1000000≤r.Y1∧r.Y1≤1000000
instance (r : ql) : Decidable (vR r):=by unfold vR;infer_instance
theorem qub (x : Int) : q3c x = some (decide (-1000000≤x∧x≤1000000)):=by
  unfold q3c;by_cases h : x ≥ -1000000 <;> by_cases a : x≤1000000 <;> simp [h,a] <;> omega
theorem q16t (r : ql) : qa4 r = some (decide (vR r)):=by
  unfold qa4;simp only [qub,qt9,qj,vR];by_cases d : r.X0 < r.X1 <;> by_cases b : r.Y0 < r.Y1 <;> by_cases g : -1000000≤r.X0∧r.X0≤1000000 <;> by_cases c : -1000000≤r.X1∧r.X1≤1000000 <;> by_cases f : -1000000≤r.Y0∧r.Y0≤1000000 <;> by_cases a : -1000000≤r.Y1∧r.Y1≤1000000 <;> simp [d,b,g,c,f,a] <;> omega
def covR (x : Int) (r : ql) : Bool:=decide (r.X0≤x) && decide (x < r.X1)
def ysp (r : ql) : qo:={Lo:=r.Y0,Hi:=r.Y1}
def covS (l : List ql) (x : Int) : List qo:=l.flatMap fun r=>if covR x r = true then [ysp r] else []
def hasR (l : List ql) (x y : Int) : Prop:=∃ r∈l,r.X0≤x∧x < r.X1∧r.Y0≤y∧y < r.Y1
theorem qd1 {l : List ql} {x : Int} {t : qo} : t∈covS l x↔∃ r∈l,covR x r = true∧t = ysp r:=by
  unfold covS;rw [List.mem_flatMap];constructor
  · rintro ⟨r,a,h⟩;split at h
    · rename_i b;simp only [List.mem_singleton] at h;exact ⟨r,a,b,h⟩
    · cases h
  · rintro ⟨r,a,b,rfl⟩;exact ⟨r,a,by simp [b]⟩
theorem q15 {l : List ql} {x y : Int} : has (covS l x) y↔hasR l x y:=by
  unfold has hasR;constructor
  · rintro ⟨t,g,c,a⟩;obtain ⟨r,b,d,rfl⟩:=qd1.1 g;simp only [covR,Bool.and_eq_true,decide_eq_true_eq] at d;exact ⟨r,b,d.1,d.2,c,a⟩
  · rintro ⟨r,b,c,a,h,f⟩;exact ⟨ysp r,qd1.2 ⟨r,b,by simp [covR,c,a],rfl⟩,h,f⟩
theorem q2r (l : List ql) (x : Int) : (covS l x).length≤l.length:=by
  unfold covS
  induction l with
  | nil=>simp
  | cons r l ih=>
    simp only [List.flatMap_cons,List.length_append,List.length_cons];have : (if covR x r = true then [ysp r] else []).length≤1:=by split <;> simp
    omega
theorem qtm {l : List ql} (h : ∀ r∈l,vR r) (x : Int) : ∀ t∈covS l x,vld t:=by
  intro t d;obtain ⟨r,c,_,rfl⟩:=qd1.1 d;obtain ⟨_,a,_,_,_,_,f,_,_,b⟩:=h r c;exact ⟨a,f,b⟩
def xsOf (l : List ql) : List Int:=l.flatMap fun r=>[r.X0,r.X1]
def ysOf (l : List ql) : List Int:=l.flatMap fun r=>[r.Y0,r.Y1]
theorem q2n (l : List ql) : (xsOf l).length = 2 * l.length:=by
  unfold xsOf;induction l with
  | nil=>rfl
  | cons r l ih=>simp only [List.flatMap_cons,List.length_append,List.length_cons,List.length_nil];omega
theorem qbu (l : List ql) : (ysOf l).length = 2 * l.length:=by
  unfold ysOf;induction l with
  | nil=>rfl
  | cons r l ih=>simp only [List.flatMap_cons,List.length_append,List.length_cons,List.length_nil];omega
theorem qkm {l : List ql} {x y : Int} (h : y∈ends (covS l x)) : y∈ysOf l:=by
  obtain ⟨t,b,h⟩:=q9k.1 h;obtain ⟨r,a,_,rfl⟩:=qd1.1 b;unfold ysOf;rw [List.mem_flatMap];exact ⟨r,a,by rcases h with h | h <;> simp [h,ysp]⟩
noncomputable def Qy (l : List Int) : List Int:=(U8 l).getD []
theorem Ut {l : List Int} (c : l.length≤1000000) : U8 l = some (Qy l)∧Z2 l (Qy l)∧(Qy l).length≤l.length:=by
  obtain ⟨t,a,d,b⟩:=qpr l c;unfold Qy;rw [a];exact ⟨rfl,d,b⟩
noncomputable def secJ (kind : Int) (p q : List ql) (x : Int) : List qo:=q4i kind (covS p x) (covS q x)
theorem qhz (kind : Int) {p q : List ql} (h : p.length + q.length≤100000) (x : Int) : (secJ kind p q x).length≤2 * (p.length + q.length):=by
  have a:=q2r p x;have b:=q2r q x;have:=(q9f kind (covS p x) (covS q x) q0 q0).2.len;unfold secJ;omega
noncomputable def mrg (kind : Int) (p q : List ql) : Mg qo ql:=K4 putR K2 (Yy (Qy (xsOf p ++ xsOf q)) (secJ kind p q))
noncomputable def mrgR (kind : Int) (p q : List ql) : List ql:=(mrg kind p q).flat putR
theorem qch {p q : List ql} (h : p.length + q.length≤490) : U8 (xsOf p ++ xsOf q) = some (Qy (xsOf p ++ xsOf q))∧Z2 (xsOf p ++ xsOf q) (Qy (xsOf p ++ xsOf q))∧(Qy (xsOf p ++ xsOf q)).length≤2 * (p.length + q.length):=by
  have f:=q2n p;have d:=q2n q;obtain ⟨a,b,c⟩:=Ut (l:=xsOf p ++ xsOf q) (by simp;omega);exact ⟨a,b,by simp at c;omega⟩
theorem qfm {p q : List ql} (h : p.length + q.length≤490) : U8 (ysOf p ++ ysOf q) = some (Qy (ysOf p ++ ysOf q))∧Z2 (ysOf p ++ ysOf q) (Qy (ysOf p ++ ysOf q))∧(Qy (ysOf p ++ ysOf q)).length≤2 * (p.length + q.length):=by
  have f:=qbu p;have d:=qbu q;obtain ⟨a,b,c⟩:=Ut (l:=ysOf p ++ ysOf q) (by simp;omega);exact ⟨a,b,by simp at c;omega⟩
theorem qnb (kind : Int) {p q : List ql} (h : p.length + q.length≤490) (i : Nat) :
    ((K4 putR K2 ((Yy (Qy (xsOf p ++ xsOf q)) (secJ kind p q)).take i)).flat putR).length≤980 * 980:=by
  have d:=qfw putR (s0:=K2) (M:=980) (steps:=(Yy (Qy (xsOf p ++ xsOf q)) (secJ kind p q)).take i) (fun t b=>by
    have:=q15y (M:=2 * (p.length + q.length)) (fun x=>qhz kind q0 x) t (List.mem_of_mem_take b)
    omega)
  have a : ((Yy (Qy (xsOf p ++ xsOf q)) (secJ kind p q)).take i).length≤980:=by
    have:=(qch h).2.2;rw [List.length_take,qbj];omega
  have f : (K2.flat putR : List ql).length = 0:=rfl;have c : ((Yy (Qy (xsOf p ++ xsOf q)) (secJ kind p q)).take i).length * 980≤980 * 980:=Nat.mul_le_mul_right _ a;omega
theorem qwi (l : List ql) (y : l.length≤400) :
    (((idx [l] 0).bind fun g=>(loop (q3d g) (0,[])).bind fun x0=>some x0).bind fun f=>(q1e f).bind fun c=>(K1 c.length f.length).bind fun _=>(q3i c).bind fun b=>(K1 b.2.length c.length).bind fun _=>(q3y b.2.length b.1).bind fun _=>some ((b.2.drop b.1.1).take b.1.2)) = some (Qy (xsOf l)):=by
  have p : idx [l] 0 = some l:=rfl
  have u : loop (q3d l) (0,[]) = some (xsOf l):=by
    have:=Uc l q0 (fun r=>[r.X0,r.X1]) [] (fun o=>o) (q3d l) (fun k h o q=>by
      have v : o.length = 2 * k:=by rw [q,List.nil_append];have:=q2n (l.take k);rw [List.length_take,Nat.min_eq_left q0] at this;exact this
      simp only [q3d,dlt h,qz,Qw h,qj,w64s h q0];rw [Y8 (by simp;omega)]
      rfl) (fun o=>by simp only [q3d,dnl,qy])
    rw [List.nil_append] at this;exact this
  have z:=q2n l;obtain ⟨ys,s,m,t⟩:=qpp (xsOf l) q0;have j : ys.length = (xsOf l).length:=m.length_eq;obtain ⟨w,a,c1,c2,c3,c4⟩:=qk6 t q0;obtain ⟨_,n,_⟩:=Ut (l:=xsOf l) q0
  have d : a.take w = Qy (xsOf l):=by
    refine qpq (l:=xsOf l) ⟨c4.1,fun x=>?_⟩ n;rw [c4.2 x];exact m.mem_iff
  simp only [p,qj,u,s,K1,j,if_true,c1,c2,q3y];rw [qq q0];simp only [qj,List.drop_zero,d]
theorem qwh (l : List ql) (g : l.length≤400) (x : Int) : loop (q50 l x) (0,[]) = some (covS l x):=by
  have:=Uc l q0 (fun r=>if covR x r = true then [ysp r] else []) [] (fun o=>o) (q50 l x) (fun k a o d=>by
    have f : o.length≤k:=by rw [d,List.nil_append];have:=q2r (l.take k) x;rw [List.length_take,Nat.min_eq_left q0] at this;exact this
    simp only [q50,dlt a,qz,Qw a,qj,w64s a q0];by_cases b : l[k].X0≤x
    · by_cases c : x < l[k].X1
      · simp only [b,c,decide_true,qz,qj,covR,Bool.and_self,if_true];rw [Y8 (by simp;omega)];rfl
      · simp only [b,c,decide_true,decide_false,qz,qy,qj,covR,Bool.and_false,if_false,Bool.false_eq_true,List.append_nil]
    · simp only [b,decide_false,qy,qj,covR,Bool.false_and,if_false,Bool.false_eq_true,List.append_nil]) (fun o=>by simp only [q50,dnl,qy])
  rw [List.nil_append] at this;exact this
theorem qwj (l : List ql) (v : l.length≤400) (hv : ∀ r∈l,vR r) : qa3 l = some (if 400 < (mrgR 2 l []).length then ([],4) else (mrgR 2 l [],0)):=by
  unfold qa3;rw [qwi l v];simp only [qj];have c : Qy (xsOf l ++ xsOf []) = Qy (xsOf l):=by simp [xsOf]
  obtain ⟨_,o,a⟩:=qch (p:=l) (q:=[]) (by simp;omega);have g:=fun i=>qnb 2 (p:=l) (q:=[]) (by simp;omega) i;rw [c] at o a;have a : (Qy (xsOf l)).length≤2 * l.length:=by simpa using a
  have d : loop (q3e (Qy (xsOf l)) l) (1,[],0,0,[]) = some ((mrg 2 l []).sec,((mrg 2 l []).done.length : Int),(mrg 2 l []).hi,mrgR 2 l []):=by
    unfold mrgR mrg;rw [c] at g ⊢;generalize h : Yy (Qy (xsOf l)) (secJ 2 l []) = steps at g ⊢;have y : steps.length = (Qy (xsOf l)).length - 1:=by rw [← h];exact qbj _ _
    have j : K4 putR K2 (steps.take steps.length) = K4 putR K2 steps:=by rw [List.take_length]
    have key:=Zf (f:=q3e (Qy (xsOf l)) l) (fun k=>(((k + 1 : Nat) : Int),(K4 putR K2 (steps.take k)).sec,((K4 putR K2 (steps.take k)).done.length : Int),(K4 putR K2 (steps.take k)).hi,(K4 putR K2 (steps.take k)).flat putR))
      steps.length ((K4 putR K2 steps).sec,((K4 putR K2 steps).done.length : Int),(K4 putR K2 steps).hi,(K4 putR K2 steps).flat putR) (fun k s=>by
        have b : k + 1 < (Qy (xsOf l)).length:=by omega
        have x : steps[k] = ((Qy (xsOf l))[k],(Qy (xsOf l))[k + 1],secJ 2 l [] (Qy (xsOf l))[k]):=by
          subst h;exact qbi s b
        have z : idx (Qy (xsOf l)) (w64 (((k + 1 : Nat) : Int) - 1)) = some (Qy (xsOf l))[k]:=by rw [qv q0];exact q21 q0 q0
        have ab:=q2r l (Qy (xsOf l))[k]
        have n : q8h (covS l (Qy (xsOf l))[k]) = some (secJ 2 l [] (Qy (xsOf l))[k],0):=by
          rw [qwk];unfold qgn;rw [qs q0,qq (qtm hv _)];rfl
        have m:=qhz 2 (p:=l) (q:=[]) (by simp;omega) (Qy (xsOf l))[k];have u:=g k;have hb:=qrn (K4 putR K2 (steps.take k)) (Qy (xsOf l))[k] (Qy (xsOf l))[k + 1] (secJ 2 l [] (Qy (xsOf l))[k]) (by simp at m;omega);rw [q68 putR s,x];simp only [q3e,dlt b,qz,z,Qw b,qj,show idx [l] 0 = some l from rfl,qwh l v,n,hb]
        rw [w64s b q0]) (by
        rw [j];by_cases h0 : (Qy (xsOf l)).length = 0
        · have : decide (((steps.length + 1 : Nat) : Int) < ((Qy (xsOf l)).length : Int)) = false:=Q8 q0;simp only [q3e,this,qy]
        · have : decide (((steps.length + 1 : Nat) : Int) < ((Qy (xsOf l)).length : Int)) = false:=Q8 q0
          simp only [q3e,this,qy]) (Nat.zero_le _)
    exact key
  rw [d];simp only [qj];by_cases t : 400 < (mrgR 2 l []).length
  · rw [Qb (by omega : ((mrgR 2 l []).length : Int) > 400),qq t];rfl
  · rw [Q8 (by omega : ¬ ((mrgR 2 l []).length : Int) > 400),qs t];rfl
end Go.Sh
namespace Go.Sh
open Go Go.Am
theorem qyz {p q : List ql} (h : p.length + q.length≤490) : q9q p q = some (Qy (xsOf p ++ xsOf q)):=by
  have c : loop (q4r p) (0,[]) = some (xsOf p):=by
    have:=Uc p q0 (fun r=>[r.X0,r.X1]) [] (fun o=>o) (q4r p) (fun k a o b=>by
      have d : o.length = 2 * k:=by rw [b,List.nil_append];have:=q2n (p.take k);rw [List.length_take,Nat.min_eq_left q0] at this;exact this
      simp only [q4r,dlt a,qz,Qw a,qj,w64s a q0];rw [Y8 (by simp;omega)]
      rfl) (fun o=>by simp only [q4r,dnl,qy])
    rw [List.nil_append] at this;exact this
  have f : loop (q4s q) (0,xsOf p) = some (xsOf p ++ xsOf q):=by
    have hp:=q2n p
    exact Uc q q0 (fun r=>[r.X0,r.X1]) (xsOf p) (fun o=>o) (q4s q) (fun k a o b=>by
      have d : o.length = 2 * p.length + 2 * k:=by
        rw [b,List.length_append,hp];have:=q2n (q.take k);rw [List.length_take,Nat.min_eq_left q0] at this;unfold xsOf at this;omega
      simp only [q4s,dlt a,qz,Qw a,qj,w64s a q0];rw [Y8 (by simp;omega)]
      rfl) (fun o=>by simp only [q4s,dnl,qy])
  unfold q9q;simp only [c,f,qj,(qch h).1]
theorem qz1 {p q : List ql} (h : p.length + q.length≤490) : q9r p q = some (Qy (ysOf p ++ ysOf q)):=by
  have c : loop (q4t p) (0,[]) = some (ysOf p):=by
    have:=Uc p q0 (fun r=>[r.Y0,r.Y1]) [] (fun o=>o) (q4t p) (fun k a o b=>by
      have d : o.length = 2 * k:=by rw [b,List.nil_append];have:=qbu (p.take k);rw [List.length_take,Nat.min_eq_left q0] at this;exact this
      simp only [q4t,dlt a,qz,Qw a,qj,w64s a q0];rw [Y8 (by simp;omega)]
      rfl) (fun o=>by simp only [q4t,dnl,qy])
    rw [List.nil_append] at this;exact this
  have f : loop (q4u q) (0,ysOf p) = some (ysOf p ++ ysOf q):=by
    have hp:=qbu p
    exact Uc q q0 (fun r=>[r.Y0,r.Y1]) (ysOf p) (fun o=>o) (q4u q) (fun k a o b=>by
      have d : o.length = 2 * p.length + 2 * k:=by
        rw [b,List.length_append,hp];have:=qbu (q.take k);rw [List.length_take,Nat.min_eq_left q0] at this;unfold ysOf at this;omega
      simp only [q4u,dlt a,qz,Qw a,qj,w64s a q0];rw [Y8 (by simp;omega)]
      rfl) (fun o=>by simp only [q4u,dnl,qy])
  unfold q9r;simp only [c,f,qj,(qfm h).1]
open Classical in
theorem qo8 (l : List ql) (x y : Int) (g : l.length≤1000000) : q6t l x y = some (decide (hasR l x y)):=by
  let c : ql→Bool:=fun r=>decide (r.X0≤x) && (decide (x < r.X1) && (decide (r.Y0≤y) && decide (y < r.Y1)))
  have hs : ∀ (k : Nat) (h : k < l.length),q38 l x y (k : Int) = some (if c l[k] = true then .inr (.inr true) else .inl ((k + 1 : Nat) : Int)):=by
    intro k h;simp only [q38,dlt h,qz,Qw h,qj,w64s h g,c];by_cases d : l[k].X0≤x <;> by_cases a : x < l[k].X1 <;> by_cases m : l[k].Y0≤y <;> by_cases q : y < l[k].Y1 <;> simp [d,a,m,q]
  have hd : q38 l x y (l.length : Int) = some (.inr (.inl ())):=by simp only [q38,dnl,qy]
  unfold q6t;rcases Uu l c (fun _ _=>true) () (q38 l x y) hs hd with ⟨d,a⟩ | ⟨k,n,b,_,a⟩
  · rw [a]
    have : ¬ hasR l x y:=by
      rintro ⟨r,j,o,p,s,f⟩;have:=d r j;simp [c,o,p,s,f] at this
    simp [this]
  · rw [a]
    have : hasR l x y:=by
      simp only [c,Bool.and_eq_true,decide_eq_true_eq] at b;exact ⟨l[k],Y7 n,b.1,b.2.1,b.2.2.1,b.2.2.2⟩
    simp [this]
theorem qgb {kind : Int} {a b : Prop} (h : Yg kind a b) : a∨b:=by
  rcases h with ⟨_,h,_⟩ | ⟨_,h⟩ | ⟨_,_,h,_⟩
  · exact .inl h
  · exact h
  · exact .inl h
theorem qma {kind : Int} {a b a' c : Prop} (d : a↔a') (f : b↔c) : Yg kind a b↔Yg kind a' c:=by
  unfold Yg;rw [d,f]
open Classical in
theorem qs2 (kind : Int) {p q : List ql} (h : p.length + q.length≤490) (x : Int) :
    q4l (Qy (ysOf p ++ ysOf q)) ((Qy (ysOf p ++ ysOf q)).map fun y=>decide (Yg kind (hasR p x y) (hasR q x y))) = some (secJ kind p q x):=by
  obtain ⟨_,a,g⟩:=qfm h;generalize Qy (ysOf p ++ ysOf q) = ys at a g ⊢;obtain ⟨c,o,k⟩:=qjr ys (ys.map fun y=>decide (Yg kind (hasR p x y) (hasR q x y))) a.1 q0 qe;rw [o];have s:=q2r p x;have r:=q2r q x;have m:=(q9f kind (covS p x) (covS q x) q0 q0).2;have mp : ∀ z∈ends (covS p x),z∈ys:=fun z j=>(a.2 z).2 (List.mem_append.2 (.inl (qkm j)));have mq : ∀ z∈ends (covS q x),z∈ys:=fun z j=>(a.2 z).2 (List.mem_append.2 (.inr (qkm j)));congr 1;refine q8z k.can m.can fun z=>?_;unfold secJ;rw [k.pts z,m.pts z];constructor
  · rintro ⟨i,hi,n,_,f,b,d⟩;simp only [List.getElem_map,decide_eq_true_eq] at f;refine (qma ?_ ?_).2 f
    · rw [q3h a.1 mp hi b d,q15]
    · rw [q3h a.1 mq hi b d,q15]
  · intro l
    have : ∃ i,∃ (h : i + 1 < ys.length),ys[i]≤z∧z < ys[i + 1]:=by
      rcases qgb l with h | h
      · exact qcs a.1 mp h
      · exact qcs a.1 mq h
    obtain ⟨i,hi,b,d⟩:=this;refine ⟨i,hi,by simp;omega,q0,?_,b,d⟩;simp only [List.getElem_map,decide_eq_true_eq];refine (qma ?_ ?_).1 l
    · rw [q3h a.1 mp hi b d,q15]
    · rw [q3h a.1 mq hi b d,q15]
open Classical in
theorem qw0 (kind : Int) {p q : List ql} (h : p.length + q.length≤490) (ys xs : List Int) (d : ys.length≤1000000) (i : Nat) (hi : i < xs.length) (a : List qo × Int × Int × List ql) (f : a.2.2.1 = i) :
    loop (q4p ys xs a p q kind) (0,[]) = some (ys.map fun y=>decide (Yg kind (hasR p xs[i] y) (hasR q xs[i] y))):=by
  have:=q6k ys (fun y=>decide (Yg kind (hasR p xs[i] y) (hasR q xs[i] y))) [] (fun o=>o) (q4p ys xs a p q kind) (fun k b o c=>by
    simp only [q4p,dlt b,qz,f,Qw b,Qw hi,qj,qo8 p _ _ q0,qo8 q _ _ q0,qmb,w64s b d];rw [Y8 (by simp at c ⊢;omega)]
    rfl) (fun o=>by simp only [q4p,dnl,qy])
  rw [List.nil_append] at this;exact this
theorem qw1 (kind : Int) {p q : List ql} (h : p.length + q.length≤490) {xs : List Int} (hx : xs.length≤1000000) {i : Nat} (hi : i + 1 < xs.length) (s : Mg qo ql) (hl : (s.flat putR).length + (secJ kind p q xs[i]).length≤1000000)
    (h0 : i = 0→s.sec = []) (h1 : 0 < i→s.hi = xs[i]) :
    q39 xs (Qy (ysOf p ++ ysOf q)) p q kind (s.sec,(s.done.length : Int),(i : Int),s.flat putR) =
      some (.inl ((addM putR s xs[i] xs[i + 1] (secJ kind p q xs[i])).sec,((addM putR s xs[i] xs[i + 1] (secJ kind p q xs[i])).done.length : Int),((i + 1 : Nat) : Int),(addM putR s xs[i] xs[i + 1] (secJ kind p q xs[i])).flat putR)):=by
  have j : i < xs.length:=by omega
  have y : w64 ((i : Int) + 1) = ((i + 1 : Nat) : Int):=w64s j hx;have hy:=(qfm h).2.2;have af : (s.flat putR).length = s.done.length + s.sec.length:=by simp [Mg.flat]
  have t:=qw0 kind h (Qy (ysOf p ++ ysOf q)) xs q0 i j (s.sec,(s.done.length : Int),(i : Int),s.flat putR) rfl;unfold q39;simp only [y,dlt hi,qz,t,qj,qs2 kind h];generalize hc : secJ kind p q xs[i] = c at hl ⊢;by_cases a : 0 < i∧c = s.sec
  · obtain ⟨b,l⟩:=a;have hb : decide ((i : Int) > 0) = true:=Qb q0
    have d:=q65 (fun v : ql=>({X0:=v.X0,Y0:=v.Y0,X1:=xs[i + 1],Y1:=v.Y1} : ql)) s.done (s.sec.map (putR s.lo s.hi)) (by simp;omega) (q4q xs (s.sec,(s.done.length : Int),(i : Int),s.flat putR)) (fun k o f ho=>by
      have h5 : (s.done ++ s.sec.map (putR s.lo s.hi)).length = (s.flat putR).length:=rfl
      simp only [q4q,dlt f,qz,Qw f,Qw hi,y,qj,w64s f q0,Int.toNat_natCast]) (fun o=>by simp only [q4q,dnl,qy])
    have z : q6s c s.sec = some true:=by rw [qot _ _ q0];simp [l]
    have d : loop (q4q xs (s.sec,(s.done.length : Int),(i : Int),s.flat putR)) ((s.done.length : Int),s.flat putR) = _:=d;simp only [hb,qz,z,qj,d];rcases Ud putR s xs[i] xs[i + 1] c with ⟨_,_,_,g⟩ | ⟨h3,g⟩
    · rw [g];simp only [Mg.flat,List.map_map];rfl
    · have m : c = []:=Classical.byContradiction fun hn=>h3 ⟨hn,l,h1 b⟩;rw [g];simp [Mg.flat,← l,m]
  · have r : (cond (decide ((i : Int) > 0)) ((q6s c s.sec).bind fun n=>some n) (some false)) = some false:=by
      by_cases b : 0 < i
      · have hb : decide ((i : Int) > 0) = true:=Qb q0;have u : c≠s.sec:=fun h=>a ⟨b,h⟩;rw [hb,qz,qot _ _ q0];simp [u]
      · have hb : decide ((i : Int) > 0) = false:=Q8 q0;rw [hb,qy]
    have x:=q6k c (putR xs[i] xs[i + 1]) (s.flat putR) (fun o=>(c,((s.flat putR).length : Int),o)) (q6u c xs (s.sec,(s.done.length : Int),(i : Int),s.flat putR)) (fun k f o ho=>by
      simp only [q6u,dlt f,qz,Qw f,Qw j,Qw hi,y,qj,w64s f q0];rw [Y8 (by simp;omega)]
      rfl) (fun o=>by simp only [q6u,dnl,qy])
    have g : addM putR s xs[i] xs[i + 1] c = ⟨s.flat putR,c,xs[i],xs[i + 1]⟩:=by
      rcases Ud putR s xs[i] xs[i + 1] c with ⟨g1,g2,_,_⟩ | ⟨_,g⟩
      · refine absurd ?_ a;refine ⟨Nat.pos_of_ne_zero fun h=>g1 ?_,g2⟩;rw [g2,h0 h]
      · exact g
    rw [g];simp only [r,qj,qy,x];simp [Mg.flat]
theorem q6v (kind : Int) {p q : List ql} (h : p.length + q.length≤490) : Jp kind p q = some (mrgR kind p q):=by
  unfold Jp;rw [qyz h,qz1 h];simp only [qj];obtain ⟨_,g,d⟩:=qch h;have b:=fun i=>qnb kind h i;unfold mrgR mrg;generalize Qy (xsOf p ++ xsOf q) = xs at g d b ⊢;generalize a : Yy xs (secJ kind p q) = steps at b ⊢;have t : steps.length = xs.length - 1:=by rw [← a];exact qbj _ _
  have key:=Zf (f:=q39 xs (Qy (ysOf p ++ ysOf q)) p q kind) (fun k=>((K4 putR K2 (steps.take k)).sec,((K4 putR K2 (steps.take k)).done.length : Int),(k : Int),(K4 putR K2 (steps.take k)).flat putR))
    steps.length ((K4 putR K2 steps).flat putR) (fun k j=>by
      have c : k + 1 < xs.length:=by omega
      have s : steps[k] = (xs[k],xs[k + 1],secJ kind p q xs[k]):=by subst a;exact qbi j c
      have o:=qhz kind (p:=p) (q:=q) q0 xs[k];have n:=b k
      have:=qw1 kind h (xs:=xs) q0 c (K4 putR K2 (steps.take k)) q0 (fun r=>by subst r;rfl) (fun l=>by
        obtain ⟨m,rfl⟩ : ∃ m,k = m + 1:=⟨k - 1,q0⟩
        rw [q68 putR q0,qf5];subst a
        rw [qbi q0 q0])
      rw [this,q68 putR j,s]) (by
      rw [List.take_length]
      have hb : decide (w64 ((steps.length : Int) + 1) < (xs.length : Int)) = false:=by
        rw [qv q0];exact Q8 q0
      unfold q39
      simp only [hb,qy]) (Nat.zero_le _)
  have key : loop (q39 xs (Qy (ysOf p ++ ysOf q)) p q kind) ([],0,0,[]) = some ((K4 putR K2 steps).flat putR):=key;rw [key];rfl
end Go.Sh
namespace Go.Sh
open Go Go.Am
def putB (a b : Int) (r : ql) : qf:={Lo:={X:=r.X0,Y:=r.Y0,Z:=a},Hi:={X:=r.X1,Y:=r.Y1,Z:=b}}
def qky (z : Int) : Prop:=-1000000≤z∧z≤1000000
instance (z : Int) : Decidable (qky z):=by unfold qky;infer_instance
end Go.Sh
namespace Go.Sh
open Go Go.Am
def covB (z : Int) (b : qf) : Bool:=decide (b.Lo.Z≤z) && decide (z < b.Hi.Z)
def Jq (b : qf) : ql:={X0:=b.Lo.X,Y0:=b.Lo.Y,X1:=b.Hi.X,Y1:=b.Hi.Y}
def atB (l : List qf) (z : Int) : List ql:=l.flatMap fun b=>if covB z b = true then [Jq b] else []
theorem Ur (l : List qf) (x : Int) : (atB l x).length≤l.length:=by
  unfold atB
  induction l with
  | nil=>simp
  | cons r l ih=>
    simp only [List.flatMap_cons,List.length_append,List.length_cons];have : (if covB x r = true then [Jq r] else []).length≤1:=by split <;> simp
    omega
theorem qdm (l : List qf) (d : l.length≤1000000) (z : Int) : U9 l z = some (atB l z):=by
  have:=Uc l d (fun b=>if covB z b = true then [Jq b] else []) [] (fun o=>o) (q6x l z) (fun k a o g=>by
    have h : o.length≤k:=by rw [g,List.nil_append];have:=Ur (l.take k) z;rw [List.length_take,Nat.min_eq_left q0] at this;exact this
    simp only [q6x,dlt a,qz,Qw a,qj,w64s a d];by_cases c : l[k].Lo.Z≤z
    · by_cases f : z < l[k].Hi.Z
      · simp only [c,f,decide_true,qz,qj,covB,Bool.and_self,if_true];rw [Y8 (by simp;omega)];rfl
      · simp only [c,f,decide_true,decide_false,qz,qy,qj,covB,Bool.and_false,if_false,Bool.false_eq_true,List.append_nil]
    · simp only [c,decide_false,qy,qj,covB,Bool.false_and,if_false,Bool.false_eq_true,List.append_nil]) (fun o=>by simp only [q6x,dnl,qy])
  rw [List.nil_append] at this;unfold U9;rw [this];rfl
def zsOf (l : List qf) : List Int:=l.flatMap fun b=>[b.Lo.Z,b.Hi.Z]
theorem Jv (l : List qf) : (zsOf l).length = 2 * l.length:=by
  unfold zsOf;induction l with
  | nil=>rfl
  | cons r l ih=>simp only [List.flatMap_cons,List.length_append,List.length_cons,List.length_nil];omega
theorem qza {p q : List qf} (h : p.length + q.length≤100000) : q9v p q = some (Qy (zsOf p ++ zsOf q)):=by
  have c : loop (q4w p) (0,[]) = some (zsOf p):=by
    have:=Uc p q0 (fun r=>[r.Lo.Z,r.Hi.Z]) [] (fun o=>o) (q4w p) (fun k a o b=>by
      have d : o.length = 2 * k:=by rw [b,List.nil_append];have:=Jv (p.take k);rw [List.length_take,Nat.min_eq_left q0] at this;exact this
      simp only [q4w,dlt a,qz,Qw a,qj,w64s a q0];rw [Y8 (by simp;omega)]
      rfl) (fun o=>by simp only [q4w,dnl,qy])
    rw [List.nil_append] at this;exact this
  have f : loop (q4x q) (0,zsOf p) = some (zsOf p ++ zsOf q):=by
    have hp:=Jv p
    exact Uc q q0 (fun r=>[r.Lo.Z,r.Hi.Z]) (zsOf p) (fun o=>o) (q4x q) (fun k a o b=>by
      have d : o.length = 2 * p.length + 2 * k:=by
        rw [b,List.length_append,hp];have:=Jv (q.take k);rw [List.length_take,Nat.min_eq_left q0] at this;unfold zsOf at this;omega
      simp only [q4x,dlt a,qz,Qw a,qj,w64s a q0];rw [Y8 (by simp;omega)]
      rfl) (fun o=>by simp only [q4x,dnl,qy])
  have j:=Jv p;have g:=Jv q;unfold q9v;simp only [c,f,qj,(Ut (l:=zsOf p ++ zsOf q) (by simp;omega)).1]
structure qiz (kind : Int) (p q : List qf) (z : Int) : Prop where
  n : (atB p z).length + (atB q z).length≤490
  m : (mrgR kind (atB p z) (atB q z)).length≤400
  mp : (mrgR 2 (atB p z) []).length≤400
  mq : (mrgR 2 (atB q z) []).length≤400
noncomputable def secB (kind : Int) (p q : List qf) (z : Int) : List ql:=mrgR kind (atB p z) (atB q z)
theorem qvz (kind : Int) {p q : List qf} (h : p.length + q.length≤100000) {xs : List Int} (hx : xs.length≤1000000) {i : Nat} (hi : i + 1 < xs.length) (y : qiz kind p q xs[i]) (s : Mg ql qf) (hl : (s.flat putB).length + 400≤1000000)
    (h0 : i = 0→s.sec = []) (h1 : 0 < i→s.hi = xs[i]) :
    q27 xs p q kind (s.sec,(s.done.length : Int),(i : Int),s.flat putB) =
      some (.inl ((addM putB s xs[i] xs[i + 1] (secB kind p q xs[i])).sec,((addM putB s xs[i] xs[i + 1] (secB kind p q xs[i])).done.length : Int),((i + 1 : Nat) : Int),(addM putB s xs[i] xs[i + 1] (secB kind p q xs[i])).flat putB)):=by
  have g : i < xs.length:=by omega
  have x : w64 ((i : Int) + 1) = ((i + 1 : Nat) : Int):=w64s g hx;have ar : (s.flat putB).length = s.done.length + s.sec.length:=by simp [Mg.flat]
  obtain ⟨hn,hm,ai,au⟩:=y;have ap : U9 p xs[i] = some (atB p xs[i]):=qdm p q0 _;have aq : U9 q xs[i] = some (atB q xs[i]):=qdm q q0 _;have jj : Jp kind (atB p xs[i]) (atB q xs[i]) = some (secB kind p q xs[i]):=q6v kind hn;have jp : Jp 2 (atB p xs[i]) [] = some (mrgR 2 (atB p xs[i]) []):=q6v 2 (by simp;omega);have jq : Jp 2 (atB q xs[i]) [] = some (mrgR 2 (atB q xs[i]) []):=q6v 2 (by simp;omega);have hm : (secB kind p q xs[i]).length≤400:=hm;have d1 : decide (((secB kind p q xs[i]).length : Int) > 400) = false:=Q8 q0;have d2 : decide (((mrgR 2 (atB p xs[i]) []).length : Int) > 400) = false:=Q8 q0;have d3 : decide (((mrgR 2 (atB q xs[i]) []).length : Int) > 400) = false:=Q8 q0;unfold q27;simp only [x,dlt hi,qz,Qw g,ap,aq,jj,jp,jq,d1,d2,d3,qy,qj];generalize hc : secB kind p q xs[i] = c at hm ⊢;by_cases a : 0 < i∧c = s.sec
  · obtain ⟨b,l⟩:=a;have hb : decide ((i : Int) > 0) = true:=Qb q0
    have d:=q65 (fun v : qf=>({Lo:=v.Lo,Hi:=({X:=v.Hi.X,Y:=v.Hi.Y,Z:=xs[i + 1]} : qh)} : qf)) s.done (s.sec.map (putB s.lo s.hi)) (by simp;omega) (q4z xs (s.sec,(s.done.length : Int),(i : Int),s.flat putB)) (fun k o j ho=>by
      have h5 : (s.done ++ s.sec.map (putB s.lo s.hi)).length = (s.flat putB).length:=rfl
      simp only [q4z,dlt j,qz,Qw j,Qw hi,x,qj,w64s j q0,Int.toNat_natCast]) (fun o=>by simp only [q4z,dnl,qy])
    have z : q3a c s.sec = some true:=by rw [qdv _ _ q0];simp [l]
    have d : loop (q4z xs (s.sec,(s.done.length : Int),(i : Int),s.flat putB)) ((s.done.length : Int),s.flat putB) = _:=d;simp only [hb,qz,z,qj,d];rcases Ud putB s xs[i] xs[i + 1] c with ⟨_,_,_,f⟩ | ⟨h3,f⟩
    · rw [f];simp only [Mg.flat,List.map_map];rfl
    · have m : c = []:=Classical.byContradiction fun hn=>h3 ⟨hn,l,h1 b⟩;rw [f];simp [Mg.flat,← l,m]
  · have n : (cond (decide ((i : Int) > 0)) ((q3a c s.sec).bind fun r=>some r) (some false)) = some false:=by
      by_cases b : 0 < i
      · have hb : decide ((i : Int) > 0) = true:=Qb q0;have t : c≠s.sec:=fun h=>a ⟨b,h⟩;rw [hb,qz,qdv _ _ q0];simp [t]
      · have hb : decide ((i : Int) > 0) = false:=Q8 q0;rw [hb,qy]
    have u:=q6k c (putB xs[i] xs[i + 1]) (s.flat putB) (fun o=>(c,((s.flat putB).length : Int),o)) (q70 c xs (s.sec,(s.done.length : Int),(i : Int),s.flat putB)) (fun k j o ho=>by
      simp only [q70,dlt j,qz,Qw j,Qw g,Qw hi,x,qj,w64s j q0];rw [Y8 (by simp;omega)]
      rfl) (fun o=>by simp only [q70,dnl,qy])
    have f : addM putB s xs[i] xs[i + 1] c = ⟨s.flat putB,c,xs[i],xs[i + 1]⟩:=by
      rcases Ud putB s xs[i] xs[i + 1] c with ⟨g1,g2,_,_⟩ | ⟨_,f⟩
      · refine absurd ?_ a;refine ⟨Nat.pos_of_ne_zero fun h=>g1 ?_,g2⟩;rw [g2,h0 h]
      · exact f
    rw [f];simp only [n,qj,qy,u];simp [Mg.flat]
noncomputable def mrgB (kind : Int) (p q : List qf) : List qf:=(K4 putB K2 (Yy (Qy (zsOf p ++ zsOf q)) (secB kind p q))).flat putB
section
variable {σ β : Type} (put : Int→Int→σ→β)
def Alike (s t : Mg σ β) : Prop:=s = t∨(s.flat put = t.flat put∧s.sec = []∧t.sec = [])
theorem Alike.flat {s t : Mg σ β} (h : Alike put s t) : s.flat put = t.flat put:=by
  rcases h with rfl | h
  · rfl
  · exact h.1
end
section
variable {σ β : Type} [DecidableEq σ] (put : Int→Int→σ→β)
def runM (sec : Int→List σ) : Mg σ β→List Int→Mg σ β
  | s,a::b::r=>runM sec (addM put s a b (sec a)) (b::r)
  | s,_=>s
theorem ql8 (sec : Int→List σ) : ∀ (c : List Int) (s : Mg σ β),K4 put s (Yy c sec) = runM put sec s c
  | [],s=>rfl
  | [a],s=>rfl
  | a::b::r,s=>by
    have:=ql8 sec (b::r) (addM put s a b (sec a))
    simp only [runM,← this]
    rfl
theorem Alike.add {s t : Mg σ β} (h : Alike put s t) (a b : Int) (c : List σ) : Alike put (addM put s a b c) (addM put t a b c):=by
  rcases h with rfl | ⟨m,k,n⟩
  · exact .inl rfl
  · refine .inl ?_;rcases Ud put s a b c with ⟨g,f,_,_⟩ | ⟨_,d⟩
    · exact absurd (f.trans k) g
    · rcases Ud put t a b c with ⟨j,o,_,_⟩ | ⟨_,l⟩
      · exact absurd (o.trans n) j
      · rw [d,l,m]
end
end Go.Sh
namespace Go.Sh
open Go Go.Am
structure Grp (σ : Type) where
  lo : Int
  hi : Int
  sec : List σ
section
variable {σ β : Type}
def CanG (gs : List (Grp σ)) : Prop:=(∀ g∈gs,g.lo < g.hi∧g.sec≠[])∧gs.Pairwise (fun g h=>g.hi≤h.lo∧(g.hi = h.lo→g.sec≠h.sec))
def secG : List (Grp σ)→Int→List σ
  | [],_=>[]
  | g::r,x=>if g.lo≤x∧x < g.hi then g.sec else secG r x
def Kz (put : Int→Int→σ→β) (gs : List (Grp σ)) : List β:=gs.flatMap fun g=>g.sec.map (put g.lo g.hi)
theorem que (put : Int→Int→σ→β) (a b : List (Grp σ)) : Kz put (a ++ b) = Kz put a ++ Kz put b:=by simp [Kz]
theorem q3g {y x : Int} : ∀ {r : List (Grp σ)},(∀ h∈r,y≤h.lo)→x < y→secG r x = []
  | [],_,_=>rfl
  | g::r,h,hx=>by
    have:=h g qe
    rw [secG,qs q0]
    exact q3g (fun k a=>h k (by simp [a])) hx
theorem q7d {y x : Int} : ∀ {r : List (Grp σ)},(∀ h∈r,h.hi≤y)→y≤x→secG r x = []
  | [],_,_=>rfl
  | g::r,h,hx=>by
    have:=h g qe
    rw [secG,qs q0]
    exact q7d (fun k a=>h k (by simp [a])) hx
theorem qa7 {x : Int} : ∀ {a b : List (Grp σ)},secG a x = []→(∀ g∈a,g.sec≠[])→secG (a ++ b) x = secG b x
  | [],_,_,_=>rfl
  | g::a,b,h,hne=>by
    rw [secG] at h
    split at h
    · exact absurd h (hne g qe)
    · rename_i d
      rw [List.cons_append,secG,qs d]
      exact qa7 h fun k c=>hne k (by simp [c])
theorem qhw {y x : Int} {a b : List (Grp σ)} (hb : ∀ h∈b,y≤h.lo) (c : x < y) : secG (a ++ b) x = secG a x:=by
  induction a with
  | nil=>exact q3g hb c
  | cons g a ih=>simp only [List.cons_append,secG,ih]
theorem CanG.tail {g : Grp σ} {r : List (Grp σ)} (h : CanG (g::r)) : CanG r:=⟨fun k a=>h.1 k (by simp [a]),(List.pairwise_cons.1 h.2).2⟩
theorem CanG.nxt {g : Grp σ} {r : List (Grp σ)} (h : CanG (g::r)) : ∀ k∈r,g.hi≤k.lo∧(g.hi = k.lo→g.sec≠k.sec):=(List.pairwise_cons.1 h.2).1
theorem q3f {g : Grp σ} {r : List (Grp σ)} {x : Int} (a : g.lo≤x) (b : x < g.hi) : secG (g::r) x = g.sec:=by rw [secG,qq ⟨a,b⟩]
theorem q11r {g : Grp σ} {r : List (Grp σ)} (h : CanG (g::r)) : secG (g::r) g.hi≠g.sec:=by
  rw [secG,qs q0]
  cases r with
  | nil=>exact fun e=>(h.1 g qe).2 e.symm
  | cons k r=>
    have b:=h.nxt k qe;have c:=h.tail.1 k qe;by_cases d : g.hi = k.lo
    · rw [q3f q0 q0];exact fun e=>b.2 d e.symm
    · rw [secG,qs q0,q3g (y:=k.hi) (fun m a=>(h.tail.nxt m a).1) q0];exact fun e=>(h.1 g qe).2 e.symm
theorem qff : ∀ {a b : List (Grp σ)},CanG a→CanG b→(∀ x,secG a x = secG b x)→a = b
  | [],[],_,_,_=>rfl
  | [],g::r,_,hb,h=>by
    have:=h g.lo
    rw [q3f (Int.le_refl _) (hb.1 g qe).1] at this
    exact absurd this.symm (hb.1 g qe).2
  | g::r,[],c,_,h=>by
    have:=h g.lo
    rw [q3f (Int.le_refl _) (c.1 g qe).1] at this
    exact absurd this (c.1 g qe).2
  | g::r,k::s,c,hb,h=>by
    have q:=c.1 g qe
    have t:=hb.1 k qe
    have low : ∀ {g k : Grp σ} {r s : List (Grp σ)},CanG (g::r)→CanG (k::s)→(∀ x,secG (g::r) x = secG (k::s) x)→k.lo≤g.lo:=by
      intro g k r s c hb h;refine Int.not_lt.1 fun f=>?_;have d:=h g.lo;rw [q3f (Int.le_refl _) (c.1 g qe).1,q3g (y:=k.lo) (fun m j=>?_) f] at d
      · exact (c.1 g qe).2 d
      · rcases List.mem_cons.1 j with rfl | j
        · exact Int.le_refl _
        · have:=(hb.nxt m j).1;have:=(hb.1 k qe).1;omega
    have n : g.lo = k.lo:=Int.le_antisymm (low hb c fun x=>(h x).symm) (low c hb h)
    have l : g.sec = k.sec:=by
      have d:=h g.lo
      rwa [q3f (Int.le_refl _) q.1,q3f q0 q0] at d
    have hi : ∀ {g k : Grp σ} {r s : List (Grp σ)},CanG (g::r)→CanG (k::s)→(∀ x,secG (g::r) x = secG (k::s) x)→g.lo = k.lo→g.sec = k.sec→k.hi≤g.hi:=by
      intro g k r s c hb h n l;refine Int.not_lt.1 fun f=>?_;have d:=h g.hi;have:=(c.1 g qe).1;rw [q3f (g:=k) q0 f,← l] at d;exact q11r c d
    have p : g.hi = k.hi:=Int.le_antisymm (hi hb c (fun x=>(h x).symm) n.symm l.symm) (hi c hb h n l)
    have e : g = k:=by cases g;cases k;simp at n l p;simp [n,l,p]
    subst e
    have : r = s:=qff c.tail hb.tail fun x=>by
      by_cases o : x < g.hi
      · rw [q3g (y:=g.hi) (fun m j=>(c.nxt m j).1) o,q3g (y:=g.hi) (fun m j=>(hb.nxt m j).1) o]
      · have d:=h x
        rwa [secG,secG,qs q0,qs q0] at d
    rw [this]
def curG (s : Mg σ β) : List (Grp σ):=if s.sec = [] then [] else [⟨s.lo,s.hi,s.sec⟩]
def secC (sec : Int→List σ) : List Int→Int→List σ
  | a::b::r,x=>if a≤x∧x < b then sec a else secC sec (b::r) x
  | _,_=>[]
theorem ql6 (put : Int→Int→σ→β) (s : Mg σ β) (a : List (Grp σ)) (h : s.done = Kz put a) : s.flat put = Kz put (a ++ curG s):=by
  rw [que,Mg.flat,h];unfold curG;split
  · rename_i b;simp [b,Kz]
  · simp [Kz]
theorem qd2 {s : Mg σ β} {g : Grp σ} (h : g∈curG s) : s.sec≠[]∧g = ⟨s.lo,s.hi,s.sec⟩:=by
  unfold curG at h;split at h
  · cases h
  · rename_i a;exact ⟨a,by simpa using h⟩
theorem qdx (sec : Int→List σ) {x : Int} : ∀ {d : List Int},d.Pairwise (· < ·)→
    (∀ a∈d,a≤x→(∀ c∈d,c≤a∨x < c)→sec a = sec x)→((∀ c∈d,x < c)→sec x = [])→((∀ c∈d,c≤x)→sec x = [])→secC sec d x = sec x
  | [],_,_,h2,_=>(h2 qe).symm
  | [a],_,_,h2,h3=>by
    rw [secC]
    · by_cases k : x < a
      · exact (h2 (by simpa using k)).symm
      · exact (h3 (by simpa using k)).symm
    · intro a b r h;simp at h
  | a::b::r,hp,h1,h2,h3=>by
    have o : a < b:=(List.pairwise_cons.1 hp).1 b qe
    have m:=(List.pairwise_cons.1 (List.pairwise_cons.1 hp).2).1
    rw [secC]
    split
    · rename_i k
      refine h1 a qe k.1 fun c f=>?_
      rcases List.mem_cons.1 f with rfl | f
      · exact .inl (Int.le_refl _)
      · rcases List.mem_cons.1 f with rfl | f
        · exact .inr k.2
        · have:=m c f;exact .inr q0
    · rename_i k
      by_cases n : x < a
      · have e : sec x = []:=h2 fun c f=>by
          rcases List.mem_cons.1 f with rfl | f
          · exact n
          · have:=(List.pairwise_cons.1 hp).1 c f;omega
        have:=qdx sec (x:=x) (List.pairwise_cons.1 hp).2 (fun a' j l _=>by
          exfalso;have:=(List.pairwise_cons.1 hp).1 a' j;omega) (fun _=>e) (fun _=>e)
        exact this
      · have p : b≤x:=by omega
        exact qdx sec (List.pairwise_cons.1 hp).2 (fun a' j l g=>h1 a' (by simp [j]) l fun c f=>by
          rcases List.mem_cons.1 f with rfl | f
          · have:=(List.pairwise_cons.1 hp).1 a' j;exact .inl q0
          · exact g c f) (fun g=>by have:=g b qe;omega) (fun g=>h3 fun c f=>by
          rcases List.mem_cons.1 f with rfl | f
          · omega
          · exact g c f)
variable [DecidableEq σ] (put : Int→Int→σ→β)
structure InvG (s : Mg σ β) (gs : List (Grp σ)) (c : Int) : Prop where
  done : s.done = Kz put gs
  can : CanG (gs ++ curG s)
  le : ∀ g∈gs ++ curG s,g.hi≤c
  gap : s.sec = []→∀ g∈gs,g.hi = c→False
theorem qvu {s : Mg σ β} {l : List (Grp σ)} {a b : Int} {c : List σ} (v : a < b) (hi : InvG put s l a) :
    ∃ p,InvG put (addM put s a b c) p b∧∀ x,secG (p ++ curG (addM put s a b c)) x = if a≤x∧x < b then c else secG (l ++ curG s) x:=by
  rcases Ud put s a b c with ⟨h1,h2,h3,h4⟩ | ⟨h1,h4⟩
  · rw [h4];have hs : s.sec≠[]:=h2 ▸ h1;have c1 : curG s = [⟨s.lo,s.hi,s.sec⟩]:=by unfold curG;rw [qs hs]
    have c2 : curG (⟨s.done,s.sec,s.lo,b⟩ : Mg σ β) = [⟨s.lo,b,s.sec⟩]:=by unfold curG;rw [qs hs]
    have f:=hi.can;rw [c1] at f;have aj : s.lo < s.hi:=(f.1 ⟨s.lo,s.hi,s.sec⟩ qe).1;refine ⟨l,⟨hi.done,?_,?_,fun h=>absurd h hs⟩,?_⟩
    · rw [c2];refine ⟨fun g d=>?_,?_⟩
      · rcases List.mem_append.1 d with d | d
        · exact f.1 g (by simp [d])
        · obtain rfl:=List.mem_singleton.1 d;exact ⟨by simp only;omega,hs⟩
      · have:=List.pairwise_append.1 f.2;refine List.pairwise_append.2 ⟨this.1,qe,fun g d k z=>?_⟩;obtain rfl:=List.mem_singleton.1 z;exact this.2.2 g d ⟨s.lo,s.hi,s.sec⟩ qe
    · rw [c2];intro g d;rcases List.mem_append.1 d with d | d
      · have:=hi.le g (by simp [d]);omega
      · obtain rfl:=List.mem_singleton.1 d;exact Int.le_refl _
    · intro x;rw [c1,c2];have ae : ∀ g∈l,g.hi≤s.lo:=fun g d=>((List.pairwise_append.1 f.2).2.2 g d ⟨s.lo,s.hi,s.sec⟩ qe).1;have r : ∀ g∈l,g.sec≠[]:=fun g d=>(f.1 g (by simp [d])).2;by_cases n : x < s.lo
      · rw [qs q0,qhw (y:=s.lo) qe n,qhw (y:=s.lo) qe n]
      · have e : secG l x = []:=q7d ae q0;rw [qa7 e r,qa7 e r];simp only [secG];by_cases u : x < s.hi
        · rw [qq ⟨q0,q0⟩,qs q0,qq ⟨q0,u⟩]
        · by_cases o : x < b
          · rw [qq ⟨q0,o⟩,qq ⟨q0,o⟩,h2]
          · rw [qs q0,qs q0,qs q0]
  · rw [h4];have hd : s.flat put = Kz put (l ++ curG s):=ql6 put s l hi.done;refine ⟨l ++ curG s,⟨hd,?_,?_,?_⟩,?_⟩
    · by_cases m : c = []
      · have : curG (⟨s.flat put,c,a,b⟩ : Mg σ β) = []:=by unfold curG;rw [qq m]
        rw [this,List.append_nil];exact hi.can
      · have : curG (⟨s.flat put,c,a,b⟩ : Mg σ β) = [⟨a,b,c⟩]:=by unfold curG;rw [qs m]
        rw [this];refine ⟨fun g d=>?_,List.pairwise_append.2 ⟨hi.can.2,qe,fun g d k z=>?_⟩⟩
        · rcases List.mem_append.1 d with d | d
          · exact hi.can.1 g d
          · obtain rfl:=List.mem_singleton.1 d;exact ⟨v,m⟩
        · obtain rfl:=List.mem_singleton.1 z;refine ⟨hi.le g d,fun t q=>?_⟩;rcases List.mem_append.1 d with j | j
          · by_cases hs : s.sec = []
            · exact hi.gap hs g j t
            · have h5 : (⟨s.lo,s.hi,s.sec⟩ : Grp σ)∈curG s:=by unfold curG;rw [qs hs];simp
              have h6:=((List.pairwise_append.1 hi.can.2).2.2 g j _ h5).1;have h7:=(hi.can.1 _ (List.mem_append.2 (.inr h5))).1;have h8:=hi.le _ (List.mem_append.2 (.inr h5));simp only at t h6 h7 h8;omega
          · obtain ⟨hs,rfl⟩:=qd2 j;exact h1 ⟨m,q.symm,t⟩
    · intro g d;rcases List.mem_append.1 d with d | d
      · have:=hi.le g d;omega
      · obtain ⟨_,rfl⟩:=qd2 d;exact Int.le_refl _
    · intro m g d t;have:=hi.le g d;omega
    · intro x;by_cases n : a≤x∧x < b
      · rw [qq n,qa7 (q7d hi.le n.1) fun g d=>(hi.can.1 g d).2];unfold curG;split
        · rename_i m;simp only at m;rw [m];rfl
        · simp only [secG];rw [qq n]
      · rw [qs n];by_cases ad : x < a
        · exact qhw (y:=a) (fun g d=>by obtain ⟨_,rfl⟩:=qd2 d;exact Int.le_refl _) ad
        · have e:=q7d (x:=x) hi.le q0;rw [qa7 e fun g d=>(hi.can.1 g d).2,e];exact q7d (y:=b) (fun g d=>by obtain ⟨_,rfl⟩:=qd2 d;exact Int.le_refl _) q0
theorem qor (sec : Int→List σ) : ∀ (d : List Int) (c : Int) (s : Mg σ β) (h : List (Grp σ)),(c::d).Pairwise (· < ·)→InvG put s h c→
    ∃ f,(runM put sec s (c::d)).flat put = Kz put f∧CanG f∧∀ x,secG f x = if x < c then secG (h ++ curG s) x else secC sec (c::d) x
  | [],c,s,h,_,hi=>by
    refine ⟨h ++ curG s,ql6 put s h hi.done,hi.can,fun x=>?_⟩
    by_cases k : x < c
    · rw [qq k]
    · rw [qs k];exact q7d hi.le q0
  | b::d,a,s,h,hp,hi=>by
    have n : a < b:=(List.pairwise_cons.1 hp).1 b qe
    obtain ⟨f,l,j⟩:=qvu (b:=b) (c:=sec a) put n hi
    obtain ⟨m,o,q,p⟩:=qor sec d b _ f (List.pairwise_cons.1 hp).2 l
    refine ⟨m,o,q,fun x=>?_⟩
    rw [p x]
    by_cases k : x < a
    · rw [qq q0,qq k,j,qs q0]
    · rw [qs k]
      simp only [secC]
      by_cases g : x < b
      · rw [qq g,j,qq ⟨q0,g⟩,qq ⟨q0,g⟩]
      · rw [qs g,qs q0]
theorem qn7 (sec : Int→List σ) {a : List Int} (f : a.Pairwise (· < ·)) :
    ∃ d,(K4 put K2 (Yy a sec)).flat put = Kz put d∧CanG d∧∀ x,secG d x = secC sec a x:=by
  rw [ql8]
  cases a with
  | nil=>exact ⟨[],rfl,⟨qe,qe⟩,fun x=>rfl⟩
  | cons c a=>
    obtain ⟨d,h,k,j⟩:=qor put sec a c (K2 : Mg σ β) [] f ⟨rfl,⟨by simp [curG,K2],by simp [curG,K2]⟩,by simp [curG,K2],qe⟩;refine ⟨d,h,k,fun x=>?_⟩;rw [j x];split
    · rename_i g
      have : ∀ (a : List Int) (c : Int),(c::a).Pairwise (· < ·)→x < c→secC sec (c::a) x = []:=by
        intro a
        induction a with
        | nil=>intros;rfl
        | cons b r ih=>
          intro c hp g;rw [secC,qs q0];exact ih b (List.pairwise_cons.1 hp).2 (by have:=(List.pairwise_cons.1 hp).1 b qe;omega)
      rw [this a c f g];rfl
    · rfl
end
end Go.Sh
namespace Go.Sh
open Go Go.Am
section
variable {σ : Type}
theorem qhy {x : Int} : ∀ (b : List (Grp σ)),secG b x = []∨∃ g∈b,g.lo≤x∧x < g.hi∧secG b x = g.sec
  | []=>.inl rfl
  | g::r=>by
    by_cases a : g.lo≤x∧x < g.hi
    · exact .inr ⟨g,qe,a.1,a.2,by rw [secG,qq a]⟩
    · rw [secG,qs a]
      rcases qhy r with h | ⟨k,c,h⟩
      · exact .inl h
      · exact .inr ⟨k,by simp [c],h⟩
theorem qhx : ∀ {b : List (Grp σ)},CanG b→∀ g∈b,∀ x,g.lo≤x→x < g.hi→secG b x = g.sec
  | k::r,h,g,a,x,h1,h2=>by
    rcases List.mem_cons.1 a with rfl | a
    · exact q3f h1 h2
    · have:=(h.nxt g a).1
      rw [secG,qs q0]
      exact qhx h.tail g a x h1 h2
end
theorem qmi (kind : Int) : q4i kind [] [] = []:=by
  have a:=(q9f kind [] [] qe qe).2;refine q8z a.can ⟨qe,qe⟩ fun x=>?_;rw [a.pts];have:=q20 x;unfold Yg;simp [this]
theorem qtj (a b : List ql) (x : Int) : covS (a ++ b) x = covS a x ++ covS b x:=by simp [covS]
theorem qtl (s : List qo) (lo hi x : Int) : covS (s.map (putR lo hi)) x = if lo≤x∧x < hi then s else []:=by
  induction s with
  | nil=>simp [covS]
  | cons t s ih=>
    have e : covS (List.map (putR lo hi) (t::s)) x = (if covR x (putR lo hi t) = true then [t] else []) ++ covS (s.map (putR lo hi)) x:=rfl;rw [e,ih];have : covR x (putR lo hi t) = (decide (lo≤x) && decide (x < hi)):=rfl;rw [this];by_cases a : lo≤x <;> by_cases b : x < hi <;> simp [a,b]
theorem q93 : ∀ {b : List (Grp qo)},CanG b→∀ x,covS (Kz putR b) x = secG b x
  | [],_,x=>rfl
  | g::r,h,x=>by
    have e : Kz putR (g::r) = g.sec.map (putR g.lo g.hi) ++ Kz putR r:=rfl
    rw [e,qtj,qtl,q93 h.tail x]
    by_cases a : g.lo≤x∧x < g.hi
    · rw [qq a,secG,qq a,q3g (y:=g.hi) (fun m c=>(h.nxt m c).1) a.2,List.append_nil]
    · rw [qs a,secG,qs a,List.nil_append]
theorem qkb {l : List ql} {a x : Int} (h : ∀ r∈l,covR a r = covR x r) : covS l a = covS l x:=by
  induction l with
  | nil=>rfl
  | cons r l ih=>
    have e : ∀ y,covS (r::l) y = (if covR y r = true then [ysp r] else []) ++ covS l y:=fun _=>rfl;rw [e,e,h r qe,ih fun k b=>h k (by simp [b])]
theorem qcg {l : List ql} {x : Int} (h : ∀ r∈l,covR x r = false) : covS l x = []:=by
  induction l with
  | nil=>rfl
  | cons r l ih=>
    have e : covS (r::l) x = (if covR x r = true then [ysp r] else []) ++ covS l x:=rfl;rw [e,h r qe,ih fun k a=>h k (by simp [a])];rfl
theorem q63 {x : Int} {r : ql} : covR x r = true↔r.X0≤x∧x < r.X1:=by simp [covR]
theorem qn5 {p q : List ql} {r : ql} (h : r∈p∨r∈q) : r.X0∈xsOf p ++ xsOf q∧r.X1∈xsOf p ++ xsOf q:=by
  unfold xsOf;simp only [List.mem_append,List.mem_flatMap];rcases h with h | h
  · exact ⟨.inl ⟨r,h,qe⟩,.inl ⟨r,h,qe⟩⟩
  · exact ⟨.inr ⟨r,h,qe⟩,.inr ⟨r,h,qe⟩⟩
theorem qna (kind : Int) {p q : List ql} (h : p.length + q.length≤100000) :
    ∃ f,mrgR kind p q = Kz putR f∧CanG f∧∀ x,secG f x = secJ kind p q x:=by
  have t:=q2n p;have u:=q2n q;have hs:=(Ut (l:=xsOf p ++ xsOf q) (by simp;omega)).2.1;obtain ⟨f,k,n,m⟩:=qn7 putR (secJ kind p q) hs.1;refine ⟨f,k,n,fun x=>?_⟩;rw [m]
  have g : ∀ r,(r∈p∨r∈q)→r.X0∈Qy (xsOf p ++ xsOf q)∧r.X1∈Qy (xsOf p ++ xsOf q):=fun r b=>
    ⟨(hs.2 _).2 (qn5 b).1,(hs.2 _).2 (qn5 b).2⟩
  refine qdx _ hs.1 (fun a _ o c=>?_) (fun c=>?_) (fun c=>?_)
  · have d : ∀ r,(r∈p∨r∈q)→covR a r = covR x r:=fun r b=>by
      have j:=c _ (g r b).1;have s:=c _ (g r b).2;rw [Bool.eq_iff_iff,q63,q63];omega
    unfold secJ;rw [qkb fun r b=>d r (.inl b),qkb fun r b=>d r (.inr b)]
  · have d : ∀ r,(r∈p∨r∈q)→covR x r = false:=fun r b=>by
      have j:=c _ (g r b).1;rw [← Bool.not_eq_true,q63];omega
    unfold secJ;rw [qcg fun r b=>d r (.inl b),qcg fun r b=>d r (.inr b),qmi]
  · have d : ∀ r,(r∈p∨r∈q)→covR x r = false:=fun r b=>by
      have j:=c _ (g r b).2;rw [← Bool.not_eq_true,q63];omega
    unfold secJ;rw [qcg fun r b=>d r (.inl b),qcg fun r b=>d r (.inr b),qmi]
def CanR (l : List ql) : Prop:=∃ gs : List (Grp qo),l = Kz putR gs∧CanG gs∧∀ g∈gs,Can g.sec
theorem qjp : Can []:=⟨qe,qe⟩
theorem CanR.nil : CanR []:=⟨[],rfl,⟨qe,qe⟩,qe⟩
theorem CanR.cov {l : List ql} (h : CanR l) (x : Int) : Can (covS l x):=by
  obtain ⟨b,rfl,c,a⟩:=h;rw [q93 c];rcases qhy (x:=x) b with e | ⟨g,d,_,_,e⟩
  · rw [e];exact qjp
  · rw [e];exact a g d
theorem qjo {a b : List ql} (c : CanR a) (hb : CanR b) (h : ∀ x y,hasR a x y↔hasR b x y) : a = b:=by
  have g : ∀ x,covS a x = covS b x:=fun x=>q8z (c.cov x) (hb.cov x) fun y=>by rw [q15,q15];exact h x y
  obtain ⟨j,rfl,f,_⟩:=c;obtain ⟨k,rfl,d,_⟩:=hb;rw [qff f d fun x=>by rw [← q93 f,← q93 d];exact g x]
theorem qoy (kind : Int) {p q : List ql} (h : p.length + q.length≤100000) (x : Int) : qf1 kind (covS p x) (covS q x) (secJ kind p q x):=by
  have a:=q2r p x;have b:=q2r q x;exact (q9f kind (covS p x) (covS q x) q0 q0).2
theorem qn9 (kind : Int) {p q : List ql} (h : p.length + q.length≤100000) : CanR (mrgR kind p q):=by
  obtain ⟨f,c,a,d⟩:=qna kind h;refine ⟨f,c,a,fun g b=>?_⟩;have:=d g.lo;rw [qhx a g b _ (Int.le_refl _) (a.1 g b).1] at this;rw [this];exact (qoy kind h _).can
theorem qtk (kind : Int) {p q : List ql} (h : p.length + q.length≤100000) (x : Int) : covS (mrgR kind p q) x = secJ kind p q x:=by
  obtain ⟨d,a,c,b⟩:=qna kind h;rw [a,q93 c,b]
theorem qg4 (kind : Int) {p q : List ql} (h : p.length + q.length≤100000) (x y : Int) : hasR (mrgR kind p q) x y↔Yg kind (hasR p x y) (hasR q x y):=by
  rw [← q15,qtk kind h,(qoy kind h x).pts,q15,q15]
theorem qm4 (x y : Int) : ¬ hasR [] x y:=by rintro ⟨r,h,_⟩;cases h
theorem qve {a b : Prop} : Yg 2 a b↔a∨b:=by unfold Yg;simp
theorem qn3 {σ β : Type} {put : Int→Int→σ→β} {a : List (Grp σ)} {r : β} : r∈Kz put a↔∃ g∈a,∃ t∈g.sec,r = put g.lo g.hi t:=by
  unfold Kz;simp only [List.mem_flatMap,List.mem_map];exact ⟨fun ⟨g,hg,t,ht,e⟩=>⟨g,hg,t,ht,e.symm⟩,fun ⟨g,hg,t,ht,e⟩=>⟨g,hg,t,ht,e.symm⟩⟩
theorem CanR.lt {l : List ql} (h : CanR l) : ∀ r∈l,r.X0 < r.X1∧r.Y0 < r.Y1:=by
  obtain ⟨j,rfl,d,b⟩:=h;intro r c;obtain ⟨g,a,t,f,rfl⟩:=qn3.1 c;exact ⟨(d.1 g a).1,(b g a).1 t f⟩
def InR (l : List ql) : Prop:=∀ x y,hasR l x y→(-1000000≤x∧x < 1000000)∧(-1000000≤y∧y < 1000000)
theorem CanR.vR {l : List ql} (h : CanR l) (hi : InR l) : ∀ r∈l,vR r:=by
  intro r a;have c:=h.lt r a;have b:=hi r.X0 r.Y0 ⟨r,a,q0⟩;have d:=hi (r.X1 - 1) (r.Y1 - 1) ⟨r,a,q0⟩;unfold Go.Sh.vR;omega
theorem InR.mrg {kind : Int} {p q : List ql} (h : p.length + q.length≤100000) (hp : InR p) (hq : InR q) : InR (mrgR kind p q):=fun x y b=>by
  rcases qgb ((qg4 kind h x y).1 b) with a | a
  · exact hp x y a
  · exact hq x y a
theorem InR.nil : InR []:=fun x y h=>absurd h (qm4 x y)
end Go.Sh
namespace Go.Sh
open Go Go.Am
def hasB (l : List qf) (x y z : Int) : Prop:=∃ b∈l,(b.Lo.X≤x∧x < b.Hi.X)∧(b.Lo.Y≤y∧y < b.Hi.Y)∧(b.Lo.Z≤z∧z < b.Hi.Z)
theorem q2q {z : Int} {b : qf} : covB z b = true↔b.Lo.Z≤z∧z < b.Hi.Z:=by simp [covB]
theorem qgr {l : List qf} {z : Int} {r : ql} : r∈atB l z↔∃ b∈l,(b.Lo.Z≤z∧z < b.Hi.Z)∧r = Jq b:=by
  unfold atB;rw [List.mem_flatMap];constructor
  · rintro ⟨b,hb,h⟩;split at h
    · rename_i a;exact ⟨b,hb,q2q.1 a,by simpa using h⟩
    · cases h
  · rintro ⟨b,hb,a,rfl⟩;exact ⟨b,hb,by rw [qq (q2q.2 a)];simp⟩
theorem q4e {l : List qf} {x y z : Int} : hasR (atB l z) x y↔hasB l x y z:=by
  constructor
  · rintro ⟨r,h,d,a,f,c⟩;obtain ⟨b,hb,g,rfl⟩:=qgr.1 h;exact ⟨b,hb,⟨d,a⟩,⟨f,c⟩,g⟩
  · rintro ⟨b,hb,⟨d,a⟩,⟨f,c⟩,g⟩;exact ⟨Jq b,qgr.2 ⟨b,hb,g,rfl⟩,d,a,f,c⟩
theorem qcr (x y z : Int) : ¬ hasB [] x y z:=by rintro ⟨r,h,_⟩;cases h
theorem qrj (a b : List qf) (z : Int) : atB (a ++ b) z = atB a z ++ atB b z:=by simp [atB]
theorem qrk (s : List ql) (lo hi z : Int) : atB (s.map (putB lo hi)) z = if lo≤z∧z < hi then s else []:=by
  induction s with
  | nil=>simp [atB]
  | cons t s ih=>
    have e : atB (List.map (putB lo hi) (t::s)) z = (if covB z (putB lo hi t) = true then [t] else []) ++ atB (s.map (putB lo hi)) z:=rfl;rw [e,ih];have : covB z (putB lo hi t) = (decide (lo≤z) && decide (z < hi)):=rfl;rw [this];by_cases a : lo≤z <;> by_cases b : z < hi <;> simp [a,b]
theorem q8w : ∀ {b : List (Grp ql)},CanG b→∀ z,atB (Kz putB b) z = secG b z
  | [],_,z=>rfl
  | g::r,h,z=>by
    have e : Kz putB (g::r) = g.sec.map (putB g.lo g.hi) ++ Kz putB r:=rfl
    rw [e,qrj,qrk,q8w h.tail z]
    by_cases a : g.lo≤z∧z < g.hi
    · rw [qq a,secG,qq a,q3g (y:=g.hi) (fun m c=>(h.nxt m c).1) a.2,List.append_nil]
    · rw [qs a,secG,qs a,List.nil_append]
theorem qjd {l : List qf} {a x : Int} (h : ∀ r∈l,covB a r = covB x r) : atB l a = atB l x:=by
  induction l with
  | nil=>rfl
  | cons r l ih=>
    have e : ∀ y,atB (r::l) y = (if covB y r = true then [Jq r] else []) ++ atB l y:=fun _=>rfl;rw [e,e,h r qe,ih fun k b=>h k (by simp [b])]
theorem qc7 {l : List qf} {x : Int} (h : ∀ r∈l,covB x r = false) : atB l x = []:=by
  induction l with
  | nil=>rfl
  | cons r l ih=>
    have e : atB (r::l) x = (if covB x r = true then [Jq r] else []) ++ atB l x:=rfl;rw [e,h r qe,ih fun k a=>h k (by simp [a])];rfl
theorem qn6 {p q : List qf} {r : qf} (h : r∈p∨r∈q) : r.Lo.Z∈zsOf p ++ zsOf q∧r.Hi.Z∈zsOf p ++ zsOf q:=by
  unfold zsOf;simp only [List.mem_append,List.mem_flatMap];rcases h with h | h
  · exact ⟨.inl ⟨r,h,qe⟩,.inl ⟨r,h,qe⟩⟩
  · exact ⟨.inr ⟨r,h,qe⟩,.inr ⟨r,h,qe⟩⟩
theorem qgw (kind : Int) : mrgR kind [] [] = []:=by
  refine qjo (qn9 kind qe) .nil fun x y=>?_;rw [qg4 kind qe];have:=qm4 x y;unfold Yg;simp [this]
theorem qn8 (kind : Int) {p q : List qf} (h : p.length + q.length≤100000) :
    ∃ f,mrgB kind p q = Kz putB f∧CanG f∧∀ z,secG f z = secB kind p q z:=by
  have t:=Jv p;have u:=Jv q;have hs:=(Ut (l:=zsOf p ++ zsOf q) (by simp;omega)).2.1;obtain ⟨f,m,k,n⟩:=qn7 putB (secB kind p q) hs.1;refine ⟨f,m,k,fun x=>?_⟩;rw [n]
  have g : ∀ r,(r∈p∨r∈q)→r.Lo.Z∈Qy (zsOf p ++ zsOf q)∧r.Hi.Z∈Qy (zsOf p ++ zsOf q):=fun r b=>
    ⟨(hs.2 _).2 (qn6 b).1,(hs.2 _).2 (qn6 b).2⟩
  refine qdx _ hs.1 (fun a _ o c=>?_) (fun c=>?_) (fun c=>?_)
  · have d : ∀ r,(r∈p∨r∈q)→covB a r = covB x r:=fun r b=>by
      have j:=c _ (g r b).1;have s:=c _ (g r b).2;rw [Bool.eq_iff_iff,q2q,q2q];omega
    unfold secB;rw [qjd fun r b=>d r (.inl b),qjd fun r b=>d r (.inr b)]
  · have d : ∀ r,(r∈p∨r∈q)→covB x r = false:=fun r b=>by
      have j:=c _ (g r b).1;rw [← Bool.not_eq_true,q2q];omega
    unfold secB;rw [qc7 fun r b=>d r (.inl b),qc7 fun r b=>d r (.inr b),qgw]
  · have d : ∀ r,(r∈p∨r∈q)→covB x r = false:=fun r b=>by
      have j:=c _ (g r b).2;rw [← Bool.not_eq_true,q2q];omega
    unfold secB;rw [qc7 fun r b=>d r (.inl b),qc7 fun r b=>d r (.inr b),qgw]
def CanB (l : List qf) : Prop:=∃ gs : List (Grp ql),l = Kz putB gs∧CanG gs∧∀ g∈gs,CanR g.sec
theorem CanB.nil : CanB []:=⟨[],rfl,⟨qe,qe⟩,qe⟩
theorem CanB.at {l : List qf} (h : CanB l) (z : Int) : CanR (atB l z):=by
  obtain ⟨b,rfl,c,a⟩:=h;rw [q8w c];rcases qhy (x:=z) b with e | ⟨g,d,_,_,e⟩
  · rw [e];exact .nil
  · rw [e];exact a g d
theorem qs1 {a b : List qf} (c : CanB a) (hb : CanB b) (h : ∀ x y z,hasB a x y z↔hasB b x y z) : a = b:=by
  have g : ∀ z,atB a z = atB b z:=fun z=>qjo (c.at z) (hb.at z) fun x y=>by rw [q4e,q4e];exact h x y z
  obtain ⟨j,rfl,f,_⟩:=c;obtain ⟨k,rfl,d,_⟩:=hb;rw [qff f d fun x=>by rw [← q8w f,← q8w d];exact g x]
theorem qjg {p q : List qf} (h : p.length + q.length≤100000) (z : Int) : (atB p z).length + (atB q z).length≤100000:=by
  have:=Ur p z;have:=Ur q z;omega
theorem qgv (kind : Int) {p q : List qf} (h : p.length + q.length≤100000) : CanB (mrgB kind p q):=by
  obtain ⟨f,c,a,d⟩:=qn8 kind h;refine ⟨f,c,a,fun g b=>?_⟩;have:=d g.lo;rw [qhx a g b _ (Int.le_refl _) (a.1 g b).1] at this;rw [this];exact qn9 kind (qjg h _)
theorem qje (kind : Int) {p q : List qf} (h : p.length + q.length≤100000) (z : Int) : atB (mrgB kind p q) z = secB kind p q z:=by
  obtain ⟨d,a,c,b⟩:=qn8 kind h;rw [a,q8w c,b]
theorem qm3 (kind : Int) {p q : List qf} (h : p.length + q.length≤100000) (x y z : Int) : hasB (mrgB kind p q) x y z↔Yg kind (hasB p x y z) (hasB q x y z):=by
  rw [← q4e,qje kind h,secB,qg4 kind (qjg h z),q4e,q4e]
theorem qm0 {l : List qf} (h : l.length≤100000) (x y z : Int) : hasB (mrgB 2 l []) x y z↔hasB l x y z:=by
  rw [qm3 2 (by simpa using h),qve];simp [qcr]
theorem qwr {l : List qf} (a : l.length≤100000) (h : CanB l) : mrgB 2 l [] = l:=
  qs1 (qgv 2 (by simpa using a)) h fun x y z=>qm0 a x y z
theorem CanB.lt {l : List qf} (h : CanB l) : ∀ b∈l,b.Lo.X < b.Hi.X∧b.Lo.Y < b.Hi.Y∧b.Lo.Z < b.Hi.Z:=by
  obtain ⟨k,rfl,f,c⟩:=h;intro r d;obtain ⟨g,a,t,j,rfl⟩:=qn3.1 d;have:=(c g a).lt t j;exact ⟨this.1,this.2,(f.1 g a).1⟩
def vB (b : qf) : Prop:=(b.Lo.X < b.Hi.X∧b.Lo.Y < b.Hi.Y∧b.Lo.Z < b.Hi.Z)∧(-1000000≤b.Lo.X∧-1000000≤b.Lo.Y∧-1000000≤b.Lo.Z)∧b.Hi.X≤1000000∧b.Hi.Y≤1000000∧b.Hi.Z≤1000000
instance (b : qf) : Decidable (vB b):=by unfold vB;infer_instance
def InB (l : List qf) : Prop:=∀ x y z,hasB l x y z→(-1000000≤x∧x < 1000000)∧(-1000000≤y∧y < 1000000)∧(-1000000≤z∧z < 1000000)
theorem q16r {l : List qf} (h : ∀ r∈l,vB r) : InB l:=by
  rintro x y z ⟨r,a,b⟩;have:=h r a;unfold vB at this;omega
theorem CanB.vB {l : List qf} (h : CanB l) (hi : InB l) : ∀ r∈l,vB r:=by
  intro r a;have c:=h.lt r a;have b:=hi r.Lo.X r.Lo.Y r.Lo.Z ⟨r,a,q0⟩;have d:=hi (r.Hi.X - 1) (r.Hi.Y - 1) (r.Hi.Z - 1) ⟨r,a,q0⟩;unfold Go.Sh.vB;omega
theorem InB.mrg {kind : Int} {p q : List qf} (h : p.length + q.length≤100000) (hp : InB p) (hq : InB q) : InB (mrgB kind p q):=fun x y z b=>by
  rcases qgb ((qm3 kind h x y z).1 b) with a | a
  · exact hp x y z a
  · exact hq x y z a
theorem InB.nil : InB []:=fun x y z h=>absurd h (qcr x y z)
theorem q16s {l : List qf} (h : ∀ b∈l,vB b) (z : Int) : ∀ r∈atB l z,vR r:=by
  intro r a;obtain ⟨b,hb,_,rfl⟩:=qgr.1 a;have:=h b hb;unfold vB at this;unfold vR Jq;simp only;omega
theorem InB.at {l : List qf} (h : InB l) (z : Int) : InR (atB l z):=fun x y a=>by
  have:=h x y z (q4e.1 a);exact ⟨this.1,this.2.1⟩
noncomputable def Kh (l : List qf) : Int:=if 400 < l.length then 4 else if ∀ b∈l,vB b then (if mrgB 2 l [] = l then 0 else 8) else 8
theorem Jg {l : List qf} : Kh l = 0↔l.length≤400∧(∀ b∈l,vB b)∧CanB l:=by
  unfold Kh;constructor
  · intro h;split at h
    · exact absurd h Q3
    · rename_i d;split at h
      · rename_i c;split at h
        · rename_i a;exact ⟨q0,c,a ▸ qgv 2 (by simp;omega)⟩
        · exact absurd h Q3
      · exact absurd h Q3
  · rintro ⟨d,c,a⟩;rw [qs q0,qq c,qq (qwr q0 a)]
theorem qox (kind : Int) {p q : List qf} (h : p.length + q.length≤100000) (z : Int) : (secB kind p q z).length≤(mrgB kind p q).length:=by
  rw [← qje kind h];exact Ur _ _
noncomputable def mkB (l : List qf) : List qf × Int:=if 400 < l.length then ([],4) else if ∀ b∈l,vB b then (if 400 < (mrgB 2 l []).length then ([],4) else (mrgB 2 l [],0)) else ([],8)
noncomputable def mkR (l : List ql) : List ql × Int:=if 400 < l.length then ([],4) else if ∀ b∈l,vR b then (if 400 < (mrgR 2 l []).length then ([],4) else (mrgR 2 l [],0)) else ([],8)
end Go.Sh
namespace Go.Sh
open Go Go.Am
def ofR (q : Rat) : Yk:={Num:=q.num,Den:=(q.den : Int)}
theorem qci (q : Rat) : (0 : Int) < (q.den : Int):=by have:=q.den_pos;omega
theorem qlh (q : Rat) : fr q.num (q.den : Int) = q:=by
  unfold fr;rw [← Rat.divInt_eq_div];exact Rat.num_divInt_den q
theorem qwd (q : Rat) : LowT q.num (q.den : Int):=⟨qci q,by
  have:=q.reduced
  unfold Int.gcd;simpa [Nat.Coprime] using this⟩
theorem qgz {a b : Int} (h : LowT a b) : ofR (fr a b) = {Num:=a,Den:=b}:=by
  obtain ⟨c,d⟩:=qwe (qwd (fr a b)) h (qlh _);unfold ofR;rw [c,d]
theorem qx0 {n m N M : Int} (o : 0 < m) (v : -N≤n∧n≤N) (t : m≤M) : (-N≤(fr n m).num∧(fr n m).num≤N)∧1≤((fr n m).den : Int)∧((fr n m).den : Int)≤M:=by
  obtain ⟨r,k⟩:=qmy (n:=n) o;have e:=qgz r;rw [k] at e;have d : (fr n m).num = n / (Int.gcd n m : Int):=congrArg Yk.Num e;have f : ((fr n m).den : Int) = m / (Int.gcd n m : Int):=congrArg Yk.Den e;have u : 0 < Int.gcd n m:=Int.gcd_pos_of_ne_zero_right n q0;obtain ⟨a,p⟩:=Int.gcd_dvd_left (a:=n) (b:=m);obtain ⟨b,hb⟩:=Int.gcd_dvd_right (a:=n) (b:=m);have hp:=qci (fr n m);generalize Int.gcd n m = g at *;have s : n / (g : Int) = a:=by rw [p];exact Int.mul_ediv_cancel_left a q0
  have j : m / (g : Int) = b:=by rw [hb];exact Int.mul_ediv_cancel_left b q0
  rw [s] at d;rw [j] at f;rw [d,f];have c : (1 : Int)≤g:=by omega
  have h : 0 < b:=by omega
  have q : b≤m:=by
    have : 1 * b≤(g : Int) * b:=Int.mul_le_mul_of_nonneg_right c q0;omega
  refine ⟨?_,q0,q0⟩;by_cases l : 0≤a
  · have : 1 * a≤(g : Int) * a:=Int.mul_le_mul_of_nonneg_right c l;omega
  · have : 1 * (-a)≤(g : Int) * (-a):=Int.mul_le_mul_of_nonneg_right c q0;simp only [Int.mul_neg] at this;omega
end Go.Sh
