/- Pt1 Pt2 Pt3 Pt4 Pt5 Pt6 Pt7 Qa1 Qa2 Qa3 -/
import Derived.Test.YtbknppciefodiaaGreatK10
namespace Go.Sh
open Go Go.Am
theorem Zw {α β : Type} {f : α→Option (α ⊕ β)} (st : Nat→α) (n : Nat) (b : β) (hs : ∀ k,k < n→f (st k) = some (.inl (st (k + 1)))) (hd : f (st n) = some (.inr b)) : ∀ {k : Nat},k≤n→loop f (st k) = some b:=by
  have key : ∀ m k,n - k = m→k≤n→loop f (st k) = some b:=by
    intro m
    induction m with
    | zero => intro k c a; obtain rfl : k = n := by omega
              exact Kg hd
    | succ m ih=>intro k c a;rw [Y3 (hs k q0)];exact ih (k + 1) q0 q0
  intro k a
  exact key _ k rfl a
theorem w64s {k : Nat} {n : Nat} (h : k < n) (a : n≤1000000) : w64 ((k : Int) + 1) = ((k + 1 : Nat) : Int):=by rw [Qm q0];omega
theorem dlt {k n : Nat} (h : k < n) : decide ((k : Int) < (n : Int)) = true:=Q7 q0
theorem dnl {n : Nat} : decide ((n : Int) < (n : Int)) = false:=Q6 q0
theorem Jt {α β γ : Type} (src : List α) (b : src.length≤1000000) (h : α→List γ) (out : List γ) (fin : List γ→β) (f : Int × List γ→Option ((Int × List γ) ⊕ β))
    (hs : ∀ (k : Nat) (a : k < src.length) (o : List γ),o = out ++ (src.take k).flatMap h→f ((k : Int),o) = some (.inl (((k + 1 : Nat) : Int),o ++ h src[k])))
    (hd : ∀ o,f ((src.length : Int),o) = some (.inr (fin o))) : loop f (0,out) = some (fin (out ++ src.flatMap h)):=by
  have e : ∀ k (a : k < src.length),(src.take (k + 1)).flatMap h = (src.take k).flatMap h ++ h src[k]:=fun k a=>by
    rw [List.take_succ_eq_append_getElem a,List.flatMap_append,List.flatMap_cons,List.flatMap_nil,List.append_nil]
  have:=Zw (f:=f) (fun k=>((k : Int),out ++ (src.take k).flatMap h)) src.length (fin (out ++ src.flatMap h)) (fun k a=>by
    rw [hs k a _ rfl,e k a,List.append_assoc]) (by simp only [List.take_length];exact hd _) (Nat.zero_le _)
  simpa using this
theorem q92 {α β γ : Type} (src : List α) (h : α→γ) (out : List γ) (fin : List γ→β) (f : Int × List γ→Option ((Int × List γ) ⊕ β))
    (hs : ∀ (k : Nat) (a : k < src.length) (o : List γ),o.length = out.length + k→f ((k : Int),o) = some (.inl (((k + 1 : Nat) : Int),o ++ [h src[k]])))
    (hd : ∀ o,f ((src.length : Int),o) = some (.inr (fin o))) : loop f (0,out) = some (fin (out ++ src.map h)):=by
  have e : ∀ k (a : k < src.length),(src.take (k + 1)).map h = (src.take k).map h ++ [h src[k]]:=fun k a=>by
    rw [List.take_succ_eq_append_getElem a,List.map_append,List.map_cons,List.map_nil]
  have:=Zw (f:=f) (fun k=>((k : Int),out ++ (src.take k).map h)) src.length (fin (out ++ src.map h)) (fun k a=>by
    rw [hs k a _ (by simp;omega),e k a,List.append_assoc]) (by simp only [List.take_length];exact hd _) (Nat.zero_le _)
  simpa using this
theorem qc1 {γ : Type} (g : γ→γ) (a b : List γ) (m : (a ++ b).length≤1000000) (f : Int × List γ→Option ((Int × List γ) ⊕ (List γ)))
    (hs : ∀ (k : Nat) (o : List γ) (h : k < o.length),o.length = (a ++ b).length→f ((k : Int),o) = some (.inl (((k + 1 : Nat) : Int),o.set k (g o[k]))))
    (hd : ∀ o : List γ,f ((o.length : Int),o) = some (.inr o)) : loop f ((a.length : Int),a ++ b) = some (a ++ b.map g):=by
  have l : a.length + b.length≤1000000:=by simpa using m
  have key:=Zw (f:=f) (fun k=>(((a.length + k : Nat) : Int),a ++ ((b.take k).map g ++ b.drop k))) b.length (a ++ b.map g) (fun k h=>by
    have c : (a ++ ((b.take k).map g ++ b.drop k)).length = (a ++ b).length:=by simp;omega
    have d : a.length + k < (a ++ ((b.take k).map g ++ b.drop k)).length:=by rw [c];simp;omega
    rw [hs (a.length + k) _ d c]
    have j : ((b.take k).map g).length = k:=by simp;omega
    have e : (a ++ ((b.take k).map g ++ b.drop k))[a.length + k]'d = b[k]:=by
      rw [List.getElem_append_right q0]
      rw [List.getElem_append_right (by rw [j];omega)]
      simp [List.length_take,Nat.min_eq_left (Nat.le_of_lt h)]
    rw [e]
    congr 4
    rw [List.set_append,qp q0,List.set_append,qp (by rw [j];omega),j]
    have z : a.length + k - a.length - k = 0:=by omega
    rw [z,List.take_succ_eq_append_getElem h,List.drop_eq_getElem_cons h,List.set_cons_zero,List.map_append,List.map_cons,List.map_nil,List.append_assoc]
    rfl) (by
    simp only [List.take_length,List.drop_length,List.append_nil]
    have:=hd (a ++ b.map g)
    simpa using this) (Nat.zero_le _)
  simpa using key
theorem Z8 {α γ υ : Type} (l : List α) (c : α→Bool) (m : (k : Nat)→k < l.length→γ) (u : υ) (f : Int→Option (Int ⊕ (υ ⊕ γ)))
    (hs : ∀ (k : Nat) (h : k < l.length),f (k : Int) = some (if c l[k] = true then .inr (.inr (m k h)) else .inl ((k + 1 : Nat) : Int))) (hd : f (l.length : Int) = some (.inr (.inl u))) :
    ((∀ v∈l,c v = false)∧loop f 0 = some (.inl u))∨∃ k,∃ h : k < l.length,c l[k] = true∧(∀ j (d : j < k),c (l[j]'(q0)) = false)∧loop f 0 = some (.inr (m k h)):=by
  by_cases p : ∀ v∈l,c v = false
  · refine .inl ⟨p,?_⟩
    exact Zw (f:=f) (fun k=>(k : Int)) l.length _ (fun k b=>by rw [hs k b,p _ (Kv b)];rfl) hd (Nat.zero_le _)
  · refine .inr ?_
    have : ∃ k,∃ h : k < l.length,c l[k] = true:=by
      refine Classical.byContradiction fun r=>p fun v s=>?_
      obtain ⟨k,b,rfl⟩:=List.getElem_of_mem s
      cases o : c l[k]
      · rfl
      · exact absurd ⟨k,b,o⟩ r
    have n : ∃ k,(∃ h : k < l.length,c l[k] = true)∧∀ j,j < k→¬ ∃ h : j < l.length,c l[j] = true:=by
      obtain ⟨k,b⟩:=this
      induction k using Nat.strongRecOn with
      | _ k ih=>
        by_cases d : ∃ j,j < k∧∃ h : j < l.length,c l[j] = true
        · obtain ⟨j,q,n⟩:=d;exact ih j q n
        · exact ⟨k,b,fun j q n=>d ⟨j,q,n⟩⟩
    obtain ⟨k,⟨b,o⟩,g⟩:=n
    have a : ∀ j (d : j < k),c (l[j]'(q0)) = false:=fun j d=>by
      cases h : c (l[j]'(q0))
      · rfl
      · exact absurd ⟨q0,h⟩ (g j d)
    refine ⟨k,b,o,a,?_⟩
    exact Zw (f:=f) (fun k=>(k : Int)) k _ (fun j d=>by rw [hs j q0,a j d];rfl) (by rw [hs k b,qq o]) (Nat.zero_le _)
theorem qnx : ∀ {l a b : List Int},Z5 l a→Z5 l b→a = b:=by
  have key : ∀ (a b : List Int),a.Pairwise (· < ·)→b.Pairwise (· < ·)→(∀ x,x∈a↔x∈b)→a = b:=by
    intro a
    induction a with
    | nil=>intro b _ _ h;cases b with
      | nil=>rfl
      | cons y b=>exact absurd ((h y).2 qe) qe
    | cons x a ih=>
      intro b d hb h
      cases b with
      | nil=>exact absurd ((h x).1 qe) qe
      | cons y b=>
        rw [List.pairwise_cons] at d hb
        have g : x = y:=by
          rcases List.mem_cons.1 ((h x).1 qe) with c | c
          · exact c
          · rcases List.mem_cons.1 ((h y).2 qe) with j | j
            · exact j.symm
            · have:=hb.1 _ c;have:=d.1 _ j;omega
        subst g
        rw [ih b d.2 hb.2 fun z=>?_]
        constructor
        · intro f
          rcases List.mem_cons.1 ((h z).1 (by simp [f])) with c | c
          · have:=d.1 _ f;omega
          · exact c
        · intro f
          rcases List.mem_cons.1 ((h z).2 (by simp [f])) with c | c
          · have:=hb.1 _ f;omega
          · exact c
  intro l a b d hb
  exact key a b d.1 hb.1 fun x=>(d.2 x).trans (hb.2 x).symm
def ltI (a b : Int) : Bool:=decide (a < b)
theorem swoI : Sort.SWO ltI where
  irrefl:=by intro x;simp [ltI]
  trans:=by intro x y z;simp only [ltI,decide_eq_true_eq];omega
  ntrans:=by intro x y z;simp only [ltI,decide_eq_false_iff_not];omega
theorem cmpI : Kx qO ltI (fun _=>True):=by
  intro x y _ _
  refine ⟨sg x y,rfl,?_⟩
  rw [J9];rfl
theorem qnw (l : List Int) (g : l.length≤1000000) : ∃ ys,U4 l = some ys∧ys.Perm l∧ys.Pairwise (·≤·):=by
  obtain ⟨ys,c,f,d⟩:=qnv cmpI swoI l g (fun _ _=>trivial)
  refine ⟨ys,by rw [qzo];exact c,f,d.imp ?_⟩
  intro a b h
  simp only [ltI,decide_eq_false_iff_not] at h
  omega
end Go.Sh
namespace Go.Sh
open Go Go.Am
structure CInv (p : List Int) (k k2 i : Nat) (a : List Int) : Prop where
  len : a.length = p.length
  hi : i≤k + k2 - 1
  same : ∀ j (h : j < p.length),k + k2 - 1≤j→a[j]? = some p[j]
  so : Z5 (p.take (k + k2)) (a.take i)
theorem qqw {p : List Int} (hp : p.Pairwise (·≤·)) (hl : p.length≤1000000) {k b i : Nat} {a : List Int} (hk : 0 < k) (h2 : 0 < b) (r : k + b < p.length) (h : CInv p k b i a) :
    ∃ (i' : Nat) (a' : List Int),q1z ((i : Int),(k,p.length - k),(b : Int),a) = some (.inl ((i' : Int),(k,p.length - k),((b + 1 : Nat) : Int),a'))∧CInv p k (b + 1) i' a':=by
  obtain ⟨h1,h3,q,h5,u⟩:=h
  have hb : decide ((b : Int) < ((p.length - k : Nat) : Int)) = true:=dlt q0
  have z : idxW a (k,p.length - k) (b : Int) = some (p[k + b]):=by
    unfold idxW;rw [qq ⟨q0,q0⟩]
    simp only [Int.toNat_natCast]
    exact q (k + b) r q0
  have r2 : idxW a (k,p.length - k) (w64 ((b : Int) - 1)) = some (p[k + b - 1]):=by
    rw [Qm q0]
    have e : (b : Int) - 1 = ((b - 1 : Nat) : Int):=by omega
    rw [e];unfold idxW;rw [qq ⟨q0,q0⟩]
    simp only [Int.toNat_natCast]
    have:=q (k + b - 1) q0 q0
    rw [show k + (b - 1) = k + b - 1 by omega];exact this
  have ai : p[k + b - 1]≤p[k + b]:=List.pairwise_iff_getElem.1 hp _ _ q0 r q0
  have l : p[k + b - 1]∈p.take (k + b):=by
    rw [List.mem_take_iff_getElem];exact ⟨k + b - 1,q0,rfl⟩
  have d : p.take (k + (b + 1)) = p.take (k + b) ++ [p[k + b]]:=by rw [← Nat.add_assoc,List.take_succ_eq_append_getElem r]
  have hw : w64 ((b : Int) + 1) = ((b + 1 : Nat) : Int):=w64s (n:=p.length) q0 hl
  by_cases v : p[k + b] = p[k + b - 1]
  · refine ⟨i,a,?_,h1,q0,fun j o t=>q j o q0,?_⟩
    · have c : (p[k + b] != p[k + b - 1]) = false:=by rw [v];simp
      simp only [q1z,hb,Q1,z,r2,qj,c,qy,hw]
    · rw [d]
      refine ⟨h5,fun x=>?_⟩
      rw [u x]
      constructor
      · intro f;exact List.mem_append.2 (.inl f)
      · intro f
        rcases List.mem_append.1 f with h | h
        · exact h
        · simp only [List.mem_singleton] at h;rw [h,v];exact l
  · have c : (p[k + b] != p[k + b - 1]) = true:=by simpa using v
    have m : i < a.length:=by omega
    have r3 : idx a (i : Int) = some a[i]:=Qu m
    have s : w64 ((i : Int) + 1) = ((i + 1 : Nat) : Int):=w64s (n:=p.length) q0 hl
    refine ⟨i + 1,a.set i p[k + b],?_,by simpa using h1,q0,fun j o t=>?_,?_⟩
    · simp only [q1z,hb,Q1,z,r2,qj,c,r3,hw,s,Int.toNat_natCast]
    · rw [List.getElem?_set_ne q0];exact q j o q0
    · have e : (a.set i p[k + b]).take (i + 1) = a.take i ++ [p[k + b]]:=by
        rw [List.take_succ_eq_append_getElem (by simpa using m)]
        simp [List.take_set_of_le]
      rw [e,d]
      refine ⟨?_,fun x=>?_⟩
      · rw [List.pairwise_append]
        refine ⟨h5,qe,fun x f y hy=>?_⟩
        simp only [List.mem_singleton] at hy;subst hy
        have g:=(u x).1 f
        rw [List.mem_take_iff_getElem] at g
        obtain ⟨j,o,rfl⟩:=g
        have : p[j]≤p[k + b - 1]:=by
          by_cases w : j = k + b - 1
          · subst w;exact Int.le_refl _
          · exact List.pairwise_iff_getElem.1 hp _ _ q0 q0 q0
        omega
      · rw [List.mem_append,List.mem_append,u x]
theorem qqv {p : List Int} (hp : p.Pairwise (·≤·)) (w : p.length≤1000000) {k : Nat} (u : 0 < k) (n : k < p.length) (r : Z5 (p.take (k + 1)) (p.take k)) :
    ∃ i : Nat,∃ a : List Int,loop q1z ((k : Int),(k,p.length - k),1,p) = some ((i : Int),a)∧a.length = p.length∧i≤p.length∧Z5 p (a.take i):=by
  have h:=J5 (f:=q1z) (mk:=fun d (c : Nat × List Int)=>((c.1 : Int),(k,p.length - k),((d : Nat) : Int),c.2)) (p.length - k) (fun d c=>0 < d∧CInv p k d c.1 c.2)
    (fun b=>∃ i : Nat,∃ a : List Int,b = ((i : Int),a)∧a.length = p.length∧i≤p.length∧Z5 p (a.take i))
    (fun d c m g=>by
      obtain ⟨q,a',o,x⟩:=qqw hp w u g.1 q0 g.2
      exact .inl ⟨(q,a'),o,q0,x⟩)
    (fun c g=>by
      obtain ⟨l,t,z,h4,y⟩:=g
      refine ⟨((c.1 : Int),c.2),?_,c.1,c.2,rfl,t,q0,?_⟩
      · simp only [q1z,dnl,qy]
      · rwa [List.take_of_length_le q0] at y)
    (k0:=1) (c0:=(k,p)) q0 ⟨q0,rfl,qe,fun j s _=>by simp [s],r⟩
  obtain ⟨b,hb,i,a,rfl,v⟩:=h
  exact ⟨i,a,hb,v⟩
theorem qj1 {p : List Int} (hp : p.Pairwise (·≤·)) (y : p.length≤1000000) :
    ∃ w a,q16 p = some ((0,w),a)∧a.length = p.length∧w≤p.length∧Z5 p (a.take w):=by
  unfold q16
  by_cases hs : p.length < 2
  · rw [Q7 (by omega : (p.length : Int) < 2),Q1]
    refine ⟨p.length,p,rfl,rfl,Nat.le_refl _,?_⟩
    rw [List.take_length]
    refine ⟨?_,fun x=>Iff.rfl⟩
    match p,hs with
    | [],_=>simp
    | [x],_=>simp
  rw [Q6 (by omega : ¬ (p.length : Int) < 2),qy]
  have c : ∀ k,k≤p.length→(∀ j (d : j < k),0 < j→∀ h : j < p.length,p[j]≠p[j - 1])→Z5 (p.take k) (p.take k):=by
    intro k o q
    refine ⟨?_,fun x=>Iff.rfl⟩
    rw [List.pairwise_iff_getElem]
    intro i j hi d ab
    simp only [List.length_take] at hi d
    simp only [List.getElem_take]
    have g : p[j - 1]≤p[j]:=List.pairwise_iff_getElem.1 hp _ _ q0 q0 q0
    have r:=q j q0 q0 q0
    have h3 : p[i]≤p[j - 1]:=by
      by_cases e : i = j - 1
      · subst e;exact Int.le_refl _
      · exact List.pairwise_iff_getElem.1 hp _ _ q0 q0 q0
    omega
  have b : ∀ k,0 < k→∀ h : k < p.length,p[k]≠p[k - 1]→Jk p (k : Int) = some (.inl ((k + 1 : Nat) : Int)):=by
    intro k n h q
    have t : idx p (w64 ((k : Int) - 1)) = some (p[k - 1]):=by rw [Qm q0];exact J4 q0 q0
    have hb : (p[k] == p[k - 1]) = false:=by simpa using q
    simp only [Jk,dlt h,Q1,Qu h,t,qj,hb,qy,w64s h y]
  by_cases u : ∀ j,0 < j→∀ h : j < p.length,p[j]≠p[j - 1]
  · have g : loop (Jk p) 1 = some (.inl ()):=by
      exact Zw (f:=Jk p) (fun k=>((k + 1 : Nat) : Int)) (p.length - 1) _ (fun k o=>by
        exact b (k + 1) q0 q0 (u (k + 1) q0 q0)) (by
        show Jk p (((p.length - 1) + 1 : Nat) : Int) = _
        rw [show p.length - 1 + 1 = p.length by omega]
        simp only [Jk,dnl,qy]) (Nat.zero_le _)
    rw [g]
    refine ⟨p.length,p,rfl,rfl,Nat.le_refl _,?_⟩
    have:=c p.length (Nat.le_refl _) fun j _ n h=>u j n h
    rw [List.take_length] at this ⊢;exact this
  · have r : ∃ k,(0 < k∧∃ h : k < p.length,p[k] = p[k - 1])∧∀ j,j < k→¬ (0 < j∧∃ h : j < p.length,p[j] = p[j - 1]):=by
      have : ∃ k,0 < k∧∃ h : k < p.length,p[k] = p[k - 1]:=by
        refine Classical.byContradiction fun hn=>u fun j n h m=>hn ⟨j,n,h,m⟩
      obtain ⟨k,o⟩:=this
      induction k using Nat.strongRecOn with
      | _ k ih=>
        by_cases d : ∃ j,j < k∧(0 < j∧∃ h : j < p.length,p[j] = p[j - 1])
        · obtain ⟨j,g,r⟩:=d;exact ih j g r
        · exact ⟨k,o,fun j g r=>d ⟨j,g,r⟩⟩
    obtain ⟨k,⟨n,o,m⟩,l⟩:=r
    have v : Z5 (p.take k) (p.take k):=c k q0 fun j d n h m=>l j d ⟨n,h,m⟩
    have s : Z5 (p.take (k + 1)) (p.take k):=by
      refine ⟨v.1,fun x=>?_⟩
      rw [List.take_succ_eq_append_getElem o,List.mem_append]
      refine ⟨.inl,fun h=>h.elim id fun h=>?_⟩
      simp only [List.mem_singleton] at h
      rw [h,m,List.mem_take_iff_getElem]
      exact ⟨k - 1,q0,rfl⟩
    obtain ⟨i,a,e1,e2,e3,z⟩:=qqv hp y n o s
    have s1 : sub2 p.length (k : Int) (p.length : Int) = some (k,p.length - k):=by unfold sub2;rw [qq ⟨q0,q0,q0⟩];simp
    have s2 : sub2 a.length (i : Int) (a.length : Int) = some (i,a.length - i):=by unfold sub2;rw [qq ⟨q0,q0,q0⟩];simp
    have s3 : sub2 a.length 0 (i : Int) = some (0,i):=by unfold sub2;rw [qq ⟨q0,q0,q0⟩];simp
    have t : idx p (w64 ((k : Int) - 1)) = some (p[k - 1]):=by rw [Qm q0];exact J4 q0 q0
    have g : loop (Jk p) 1 = some (.inr ((0,i),clrw a (i,a.length - i) 0)):=by
      exact Zw (f:=Jk p) (fun k=>((k + 1 : Nat) : Int)) (k - 1) _ (fun j d=>by
        exact b (j + 1) q0 q0 fun m=>l (j + 1) q0 ⟨q0,q0,m⟩) (by
        show Jk p (((k - 1) + 1 : Nat) : Int) = _
        rw [show k - 1 + 1 = k by omega]
        have hb : (p[k] == p[k - 1]) = true:=by simpa using m
        simp only [Jk,dlt o,Q1,Qu o,t,qj,hb,s1,e1,s2,s3]) (Nat.zero_le _)
    rw [g]
    refine ⟨i,clrw a (i,a.length - i) 0,rfl,by rw [qis (by simp;omega)];exact e2,e3,?_⟩
    have : (clrw a (i,a.length - i) 0).take i = a.take i:=by
      unfold clrw splice
      rw [List.append_assoc,List.take_append_of_le_length (by simp;omega)]
      simp [List.take_take]
    rw [this];exact z
end Go.Sh
namespace Go.Sh
open Go Go.Am
theorem q8u {α : Type} [DecidableEq α] (e : α→α→Bool) (g : ∀ v w,e v w = decide (v = w)) (p q : List α) (r : p.length≤1000000) (f : Int→Option (Int ⊕ (Unit ⊕ Bool)))
    (l : ∀ k,f k = cond (decide (k < (p.length : Int))) ((idx p k).bind fun v=>(idx q k).bind fun w=>cond (!(e v w)) (some (.inr (.inr false))) (some (.inl (w64 (k + 1))))) (some (.inr (.inl ())))) :
    cond ((p.length : Int) != (q.length : Int)) (some false) ((loop f 0).bind fun m=>(match m with | .inl _=>some true | .inr x=>some x)) = some (decide (p = q)):=by
  by_cases a : p.length = q.length
  · have : ((p.length : Int) != (q.length : Int)) = false:=by rw [a];simp
    rw [this,qy]
    let c : Nat→Bool:=fun k=>if h : k < p.length then !(e p[k] (q[k]'(q0))) else false
    have hs : ∀ (k : Nat) (h : k < (List.range p.length).length),f (k : Int) = some (if c (List.range p.length)[k] = true then .inr (.inr false) else .inl ((k + 1 : Nat) : Int)):=by
      intro k h
      have h : k < p.length:=by simpa using h
      rw [l]
      simp only [dlt h,Q1,Qu h,Qu (xs:=q) (k:=k) q0,qj,List.getElem_range,c,dif_pos h,w64s h r]
      cases e p[k] (q[k]'(q0)) <;> simp
    have hd : f ((List.range p.length).length : Int) = some (.inr (.inl ())):=by rw [l];simp []
    rcases Z8 (List.range p.length) c (fun _ _=>false) () f hs hd with ⟨o,b⟩ | ⟨k,s,j,_,b⟩
    · rw [b]
      have : p = q:=by
        refine List.ext_getElem a fun k d t=>?_
        have:=o k (by simpa using d)
        simp only [c,dif_pos d,g,Bool.not_eq_false',decide_eq_true_eq] at this
        exact this
      simp [this]
    · rw [b]
      have n : k < p.length:=by simpa using s
      have : p≠q:=by
        intro h
        simp only [List.getElem_range,c,g,h] at j
        simp at j
      simp [this]
  · have : ((p.length : Int) != (q.length : Int)) = true:=by simpa using (fun h : (p.length : Int) = q.length=>a q0)
    rw [this,Q1]
    have : p≠q:=fun h=>a (by rw [h])
    simp [this]
theorem qjg (p q : List qk) (a : p.length≤1000000) : q9u p q = some (decide (p = q)):=
  q8u (fun v w=>((v.Lo == w.Lo) && ((v.Hi == w.Hi) && true))) (fun v w=>by cases v;cases w;rw [Bool.eq_iff_iff];simp) p q a (qd6 p q) (fun _=>rfl)
theorem qmz (p q : List qk) (a : p.length≤1000000) : q5y p q = some (decide (p = q)):=
  q8u (fun v w=>((v.Lo == w.Lo) && ((v.Hi == w.Hi) && true))) (fun v w=>by cases v;cases w;rw [Bool.eq_iff_iff];simp) p q a (qcp p q) (fun _=>rfl)
theorem qez (p q : List qi) (a : p.length≤1000000) : q6t p q = some (decide (p = q)):=
  q8u (fun v w=>((v.X0 == w.X0) && ((v.Y0 == w.Y0) && ((v.X1 == w.X1) && ((v.Y1 == w.Y1) && true))))) (fun v w=>by cases v;cases w;rw [Bool.eq_iff_iff];simp) p q a (qd4 p q) (fun _=>rfl)
theorem qmy (p q : List qi) (a : p.length≤1000000) : q62 p q = some (decide (p = q)):=
  q8u (fun v w=>((v.X0 == w.X0) && ((v.Y0 == w.Y0) && ((v.X1 == w.X1) && ((v.Y1 == w.Y1) && true))))) (fun v w=>by cases v;cases w;rw [Bool.eq_iff_iff];simp) p q a (qcq p q) (fun _=>rfl)
theorem sameBox (p q : List qg) (a : p.length≤1000000) : q4g p q = some (decide (p = q)):=
  q8u (fun v w=>((v.Lo.X == w.Lo.X) && ((v.Lo.Y == w.Lo.Y) && ((v.Lo.Z == w.Lo.Z) && ((v.Hi.X == w.Hi.X) && ((v.Hi.Y == w.Hi.Y) && ((v.Hi.Z == w.Hi.Z) && true))))))) (fun v w=>by rcases v with ⟨⟨_,_,_⟩,⟨_,_,_⟩⟩;rcases w with ⟨⟨_,_,_⟩,⟨_,_,_⟩⟩;rw [Bool.eq_iff_iff];simp [and_assoc]) p q a (qct p q) (fun _=>rfl)
structure Mg (σ β : Type) where
  done : List β
  sec : List σ
  lo : Int
  hi : Int
section
variable {σ β : Type} [DecidableEq σ] (put : Int→Int→σ→β)
def Mg.flat (s : Mg σ β) : List β:=s.done ++ s.sec.map (put s.lo s.hi)
def addM (s : Mg σ β) (a b : Int) (c : List σ) : Mg σ β:=if c≠[]∧c = s.sec∧s.hi = a then ⟨s.done,s.sec,s.lo,b⟩ else ⟨s.flat put,c,a,b⟩
def Qz : Mg σ β:=⟨[],[],0,0⟩
def K1 (s0 : Mg σ β) (steps : List (Int × Int × List σ)) : Mg σ β:=steps.foldl (fun s t=>addM put s t.1 t.2.1 t.2.2) s0
theorem q3s {s0 : Mg σ β} {steps : List (Int × Int × List σ)} {i : Nat} (h : i < steps.length) : K1 put s0 (steps.take (i + 1)) = addM put (K1 put s0 (steps.take i)) steps[i].1 steps[i].2.1 steps[i].2.2:=by
  unfold K1
  rw [List.take_succ_eq_append_getElem h,List.foldl_append];rfl
theorem qhp (s : Mg σ β) (a b : Int) (c : List σ) : (addM put s a b c).hi = b:=by unfold addM;split <;> rfl
theorem qp1 (s : Mg σ β) (a b : Int) (c : List σ) : ((addM put s a b c).flat put).length≤(s.flat put).length + c.length:=by
  unfold addM;split
  · simp [Mg.flat]
  · simp [Mg.flat];omega
theorem qc2 {s0 : Mg σ β} {M : Nat} : ∀ {steps : List (Int × Int × List σ)},(∀ t∈steps,t.2.2.length≤M)→((K1 put s0 steps).flat put).length≤(s0.flat put).length + steps.length * M:=by
  intro steps
  induction steps generalizing s0 with
  | nil=>intro _;simp [K1]
  | cons t r ih=>
    intro h
    have d:=ih (s0:=addM put s0 t.1 t.2.1 t.2.2) fun u a=>h u (by simp [a])
    have f:=qp1 put s0 t.1 t.2.1 t.2.2
    have c:=h t qe
    have b : K1 put s0 (t::r) = K1 put (addM put s0 t.1 t.2.1 t.2.2) r:=rfl
    rw [b]
    simp only [List.length_cons,Nat.succ_mul]
    omega
end
section
variable {σ : Type}
def Yx (cuts : List Int) (sec : Int→List σ) : List (Int × Int × List σ):=(cuts.zip cuts.tail).map fun c=>(c.1,c.2,sec c.1)
theorem q83 (a : List Int) (sec : Int→List σ) : (Yx a sec).length = a.length - 1:=by simp [Yx]
theorem q82 {a : List Int} {sec : Int→List σ} {i : Nat} (h : i < (Yx a sec).length) (b : i + 1 < a.length) : (Yx a sec)[i] = (a[i],a[i + 1],sec a[i]):=by
  simp [Yx]
theorem q12h {a : List Int} {sec : Int→List σ} {M : Nat} (h : ∀ x,(sec x).length≤M) : ∀ t∈Yx a sec,t.2.2.length≤M:=by
  intro t b
  simp only [Yx,List.mem_map] at b
  obtain ⟨c,_,rfl⟩:=b
  exact h _
end
theorem q1d {σ β : Type} [DecidableEq σ] (put : Int→Int→σ→β) (s : Mg σ β) (a b : Int) (c : List σ) : (c≠[]∧c = s.sec∧s.hi = a∧addM put s a b c = ⟨s.done,s.sec,s.lo,b⟩)∨(¬ (c≠[]∧c = s.sec∧s.hi = a)∧addM put s a b c = ⟨s.flat put,c,a,b⟩):=by
  unfold addM
  split
  · rename_i h;exact .inl ⟨h.1,h.2.1,h.2.2,rfl⟩
  · rename_i h;exact .inr ⟨h,rfl⟩
def putR (a b : Int) (t : qk) : qi:={X0:=a,Y0:=t.Lo,X1:=b,Y1:=t.Hi}
theorem qi7 (s : Mg qk qi) (a b : Int) (c : List qk) (z : (s.flat putR).length + c.length≤1000000) :
    q6i (s.flat putR) s.sec (s.done.length : Int) s.hi a b c = some ((addM putR s a b c).sec,((addM putR s a b c).done.length : Int),(addM putR s a b c).hi,(addM putR s a b c).flat putR):=by
  have d : s.sec.length≤1000000:=by have : (s.flat putR).length = s.done.length + s.sec.length:=(by simp [Mg.flat]);omega
  unfold q6i
  rcases q1d putR s a b c with ⟨m,r,t,q⟩ | ⟨m,q⟩
  · have hb : decide ((c.length : Int) > 0) = true:=Q7 (by have:=List.length_pos_iff.2 m;omega)
    have x : (s.hi == a) = true:=by simpa using t
    rw [r] at hb
    rw [q,r]
    simp only [hb,Q1,x,qj,qjg _ _ d,decide_true]
    have:=qc1 (fun v : qi=>({X0:=v.X0,Y0:=v.Y0,X1:=b,Y1:=v.Y1} : qi)) s.done (s.sec.map (putR s.lo s.hi)) (by have : (s.done ++ s.sec.map (putR s.lo s.hi)).length = (s.flat putR).length:=rfl;omega) (q6j b) (fun k o f w=>by
      have l : (s.done ++ s.sec.map (putR s.lo s.hi)).length = (s.flat putR).length:=rfl
      simp only [q6j,dlt f,Q1,Qu f,qj,w64s f q0,Int.toNat_natCast]) (fun o=>by simp only [q6j,dnl,qy])
    rw [show s.flat putR = s.done ++ s.sec.map (putR s.lo s.hi) from rfl,this]
    simp only [qj,Mg.flat,List.map_map]
    rfl
  · rw [q]
    have y : ((cond (decide ((c.length : Int) > 0)) (some (s.hi == a)) (some false)).bind fun g=>(cond g ((q9u s.sec c).bind fun j=>some j) (some false))) = some false:=by
      by_cases l : c = []
      · subst l;simp
      · have hb : decide ((c.length : Int) > 0) = true:=Q7 (by have:=List.length_pos_iff.2 l;omega)
        simp only [hb,Q1,qj,qjg _ _ d]
        by_cases n : s.hi = a
        · have u : s.sec≠c:=fun h=>m ⟨l,h.symm,n⟩
          simp [n,u]
        · have : (s.hi == a) = false:=by simpa using n
          simp [this]
    have p:=q92 c (putR a b) (s.flat putR) (fun o=>(c,((s.flat putR).length : Int),b,o)) (q6k c a b (s.flat putR)) (fun k f o w=>by
      simp only [q6k,dlt f,Q1,Qu f,qj,w64s f q0]
      rw [Y7 (by simp;omega)]
      rfl) (fun o=>by simp only [q6k,dnl,qy])
    rw [← Option.bind_assoc,y]
    simp only [qj,qy,p]
    simp [Mg.flat]
end Go.Sh
namespace Go.Sh
open Go Go.Am
def vR (r : qi) : Prop:=r.X0 < r.X1∧r.Y0 < r.Y1∧-1000000≤r.X0∧r.X0≤1000000∧-1000000≤r.X1∧r.X1≤1000000∧-1000000≤r.Y0∧r.Y0≤1000000∧-1000000≤r.Y1∧r.Y1≤1000000
instance (r : qi) : Decidable (vR r):=by unfold vR;infer_instance
theorem qrp (x : Int) : q35 x = some (decide (-1000000≤x∧x≤1000000)):=by
  unfold q35
  by_cases h : x ≥ -1000000 <;> by_cases a : x≤1000000 <;> simp [h,a] <;> omega
theorem qor (r : qi) : q6m r = some (decide (vR r)):=by
  unfold q6m
  simp only [qrp,qqx,qj,vR]
  by_cases a : r.X0 < r.X1 <;> by_cases d : r.Y0 < r.Y1 <;> by_cases b : -1000000≤r.X0∧r.X0≤1000000 <;> by_cases f : -1000000≤r.X1∧r.X1≤1000000 <;> by_cases g : -1000000≤r.Y0∧r.Y0≤1000000 <;> by_cases c : -1000000≤r.Y1∧r.Y1≤1000000 <;> simp [a,d,b,f,g,c] <;> omega
def covR (x : Int) (r : qi) : Bool:=decide (r.X0≤x) && decide (x < r.X1)
def ysp (r : qi) : qk:={Lo:=r.Y0,Hi:=r.Y1}
def covS (l : List qi) (x : Int) : List qk:=l.flatMap fun r=>if covR x r = true then [ysp r] else []
def hasR (l : List qi) (x y : Int) : Prop:=∃ r∈l,r.X0≤x∧x < r.X1∧r.Y0≤y∧y < r.Y1
theorem qce {l : List qi} {x : Int} {t : qk} : t∈covS l x↔∃ r∈l,covR x r = true∧t = ysp r:=by
  unfold covS
  rw [List.mem_flatMap]
  constructor
  · rintro ⟨r,b,h⟩
    split at h
    · rename_i a;simp only [List.mem_singleton] at h;exact ⟨r,b,a,h⟩
    · cases h
  · rintro ⟨r,b,a,rfl⟩;exact ⟨r,b,by simp [a]⟩
theorem q13 {l : List qi} {x y : Int} : has (covS l x) y↔hasR l x y:=by
  unfold has hasR
  constructor
  · rintro ⟨t,f,b,d⟩
    obtain ⟨r,c,a,rfl⟩:=qce.1 f
    simp only [covR,Bool.and_eq_true,decide_eq_true_eq] at a
    exact ⟨r,c,a.1,a.2,b,d⟩
  · rintro ⟨r,c,b,d,g,h⟩
    exact ⟨ysp r,qce.2 ⟨r,c,by simp [covR,b,d],rfl⟩,g,h⟩
theorem Us (l : List qi) (x : Int) : (covS l x).length≤l.length:=by
  unfold covS
  induction l with
  | nil=>simp
  | cons r l ih=>
    simp only [List.flatMap_cons,List.length_append,List.length_cons]
    have : (if covR x r = true then [ysp r] else []).length≤1:=by split <;> simp
    omega
theorem qj6 {l : List qi} (h : ∀ r∈l,vR r) (x : Int) : ∀ t∈covS l x,vld t:=by
  intro t a
  obtain ⟨r,c,_,rfl⟩:=qce.1 a
  obtain ⟨_,d,_,_,_,_,b,_,_,f⟩:=h r c
  exact ⟨d,b,f⟩
def xsOf (l : List qi) : List Int:=l.flatMap fun r=>[r.X0,r.X1]
def ysOf (l : List qi) : List Int:=l.flatMap fun r=>[r.Y0,r.Y1]
theorem U6 (l : List qi) : (xsOf l).length = 2 * l.length:=by
  unfold xsOf;induction l with
  | nil=>rfl
  | cons r l ih=>simp only [List.flatMap_cons,List.length_append,List.length_cons,List.length_nil];omega
theorem qbf (l : List qi) : (ysOf l).length = 2 * l.length:=by
  unfold ysOf;induction l with
  | nil=>rfl
  | cons r l ih=>simp only [List.flatMap_cons,List.length_append,List.length_cons,List.length_nil];omega
theorem qje {l : List qi} {x y : Int} (h : y∈ends (covS l x)) : y∈ysOf l:=by
  obtain ⟨t,a,h⟩:=q94.1 h
  obtain ⟨r,b,_,rfl⟩:=qce.1 a
  unfold ysOf
  rw [List.mem_flatMap]
  exact ⟨r,b,by rcases h with h | h <;> simp [h,ysp]⟩
noncomputable def Qx (l : List Int) : List Int:=(U2 l).getD []
theorem Jy {l : List Int} (b : l.length≤1000000) : U2 l = some (Qx l)∧Z5 l (Qx l)∧(Qx l).length≤l.length:=by
  obtain ⟨t,c,a,d⟩:=qny l b
  unfold Qx;rw [c];exact ⟨rfl,a,d⟩
noncomputable def secJ (kind : Int) (p q : List qi) (x : Int) : List qk:=Jf kind (covS p x) (covS q x)
theorem qgt (kind : Int) {p q : List qi} (h : p.length + q.length≤100000) (x : Int) : (secJ kind p q x).length≤2 * (p.length + q.length):=by
  have b:=Us p x
  have a:=Us q x
  have:=(q5j kind (covS p x) (covS q x) q0 q0).2.len
  unfold secJ;omega
noncomputable def mrg (kind : Int) (p q : List qi) : Mg qk qi:=K1 putR Qz (Yx (Qx (xsOf p ++ xsOf q)) (secJ kind p q))
noncomputable def mrgR (kind : Int) (p q : List qi) : List qi:=(mrg kind p q).flat putR
theorem qbw {p q : List qi} (h : p.length + q.length≤490) : U2 (xsOf p ++ xsOf q) = some (Qx (xsOf p ++ xsOf q))∧Z5 (xsOf p ++ xsOf q) (Qx (xsOf p ++ xsOf q))∧(Qx (xsOf p ++ xsOf q)).length≤2 * (p.length + q.length):=by
  have d:=U6 p
  have f:=U6 q
  obtain ⟨a,b,c⟩:=Jy (l:=xsOf p ++ xsOf q) (by simp;omega)
  exact ⟨a,b,by simp at c;omega⟩
theorem qew {p q : List qi} (h : p.length + q.length≤490) : U2 (ysOf p ++ ysOf q) = some (Qx (ysOf p ++ ysOf q))∧Z5 (ysOf p ++ ysOf q) (Qx (ysOf p ++ ysOf q))∧(Qx (ysOf p ++ ysOf q)).length≤2 * (p.length + q.length):=by
  have d:=qbf p
  have f:=qbf q
  obtain ⟨a,b,c⟩:=Jy (l:=ysOf p ++ ysOf q) (by simp;omega)
  exact ⟨a,b,by simp at c;omega⟩
theorem qli (kind : Int) {p q : List qi} (h : p.length + q.length≤490) (i : Nat) :
    ((K1 putR Qz ((Yx (Qx (xsOf p ++ xsOf q)) (secJ kind p q)).take i)).flat putR).length≤980 * 980:=by
  have c:=qc2 putR (s0:=Qz) (M:=980) (steps:=(Yx (Qx (xsOf p ++ xsOf q)) (secJ kind p q)).take i) (fun t a=>by
    have:=q12h (M:=2 * (p.length + q.length)) (fun x=>qgt kind q0 x) t (List.mem_of_mem_take a)
    omega)
  have b : ((Yx (Qx (xsOf p ++ xsOf q)) (secJ kind p q)).take i).length≤980:=by
    have:=(qbw h).2.2
    rw [List.length_take,q83];omega
  have d : (Qz.flat putR : List qi).length = 0:=rfl
  have f : ((Yx (Qx (xsOf p ++ xsOf q)) (secJ kind p q)).take i).length * 980≤980 * 980:=Nat.mul_le_mul_right _ b
  omega
theorem qtb (l : List qi) (hl : l.length≤400) :
    (((idx [l] 0).bind fun h=>(loop (J8 h) (0,[])).bind fun x0=>some x0).bind fun f=>(U4 f).bind fun c=>(K3 c.length f.length).bind fun n=>(q16 c).bind fun b=>(K3 b.2.length c.length).bind fun q=>(q1b b.2.length b.1).bind fun m=>some ((b.2.drop b.1.1).take b.1.2)) = some (Qx (xsOf l)):=by
  have y : idx [l] 0 = some l:=rfl
  have v : loop (J8 l) (0,[]) = some (xsOf l):=by
    have:=Jt l q0 (fun r=>[r.X0,r.X1]) [] (fun o=>o) (J8 l) (fun k j o t=>by
      have h8 : o.length = 2 * k:=by rw [t,List.nil_append];have:=U6 (l.take k);rw [List.length_take,Nat.min_eq_left q0] at this;exact this
      simp only [J8,dlt j,Q1,Qu j,qj,w64s j q0]
      rw [Y7 (by simp;omega)]
      rfl) (fun o=>by simp only [J8,dnl,qy])
    rw [List.nil_append] at this
    exact this
  have hx:=U6 l
  obtain ⟨ys,s,p,u⟩:=qnw (xsOf l) q0
  have g : ys.length = (xsOf l).length:=p.length_eq
  obtain ⟨w,a,c1,c2,c3,c4⟩:=qj1 u q0
  obtain ⟨_,z,_⟩:=Jy (l:=xsOf l) q0
  have d : a.take w = Qx (xsOf l):=by
    refine qnx (l:=xsOf l) ⟨c4.1,fun x=>?_⟩ z
    rw [c4.2 x];exact p.mem_iff
  simp only [y,qj,v,s,K3,g,if_true,c1,c2,q1b]
  rw [qq q0]
  simp only [qj,List.drop_zero,d]
theorem qfr (l : List qi) (g : l.length≤400) (x : Int) : loop (Uo l x) (0,[]) = some (covS l x):=by
  have:=Jt l q0 (fun r=>if covR x r = true then [ysp r] else []) [] (fun o=>o) (Uo l x) (fun k b o d=>by
    have f : o.length≤k:=by rw [d,List.nil_append];have:=Us (l.take k) x;rw [List.length_take,Nat.min_eq_left q0] at this;exact this
    simp only [Uo,dlt b,Q1,Qu b,qj,w64s b q0]
    by_cases a : l[k].X0≤x
    · by_cases c : x < l[k].X1
      · simp only [a,c,decide_true,Q1,qj,covR,Bool.and_self,if_true]
        rw [Y7 (by simp;omega)]
        rfl
      · simp only [a,c,decide_true,decide_false,Q1,qy,qj,covR,Bool.and_false,if_false,Bool.false_eq_true,List.append_nil]
    · simp only [a,decide_false,qy,qj,covR,Bool.false_and,if_false,Bool.false_eq_true,List.append_nil]) (fun o=>by simp only [Uo,dnl,qy])
  rw [List.nil_append] at this
  exact this
theorem ql4 (l : List qi) (s : l.length≤400) (hv : ∀ r∈l,vR r) : q6l l = some (if 400 < (mrgR 2 l []).length then ([],4) else (mrgR 2 l [],0)):=by
  unfold q6l
  rw [qtb l s]
  simp only [qj]
  have c : Qx (xsOf l ++ xsOf []) = Qx (xsOf l):=by simp [xsOf]
  obtain ⟨_,o,a⟩:=qbw (p:=l) (q:=[]) (by simp;omega)
  have d:=fun i=>qli 2 (p:=l) (q:=[]) (by simp;omega) i
  rw [c] at o a
  have a : (Qx (xsOf l)).length≤2 * l.length:=by simpa using a
  have g : loop (q36 (Qx (xsOf l)) l) (1,[],0,0,[]) = some ((mrg 2 l []).sec,((mrg 2 l []).done.length : Int),(mrg 2 l []).hi,mrgR 2 l []):=by
    unfold mrgR mrg
    rw [c] at d ⊢
    generalize j : Yx (Qx (xsOf l)) (secJ 2 l []) = steps at d ⊢
    have z : steps.length = (Qx (xsOf l)).length - 1:=by rw [← j];exact q83 _ _
    have h : K1 putR Qz (steps.take steps.length) = K1 putR Qz steps:=by rw [List.take_length]
    have key:=Zw (f:=q36 (Qx (xsOf l)) l) (fun k=>(((k + 1 : Nat) : Int),(K1 putR Qz (steps.take k)).sec,((K1 putR Qz (steps.take k)).done.length : Int),(K1 putR Qz (steps.take k)).hi,(K1 putR Qz (steps.take k)).flat putR))
      steps.length ((K1 putR Qz steps).sec,((K1 putR Qz steps).done.length : Int),(K1 putR Qz steps).hi,(K1 putR Qz steps).flat putR) (fun k u=>by
        have b : k + 1 < (Qx (xsOf l)).length:=by omega
        have x : steps[k] = ((Qx (xsOf l))[k],(Qx (xsOf l))[k + 1],secJ 2 l [] (Qx (xsOf l))[k]):=by
          subst j;exact q82 u b
        have w : idx (Qx (xsOf l)) (w64 (((k + 1 : Nat) : Int) - 1)) = some (Qx (xsOf l))[k]:=by rw [Qm q0];exact J4 q0 q0
        have y:=Us l (Qx (xsOf l))[k]
        have n : q80 (covS l (Qx (xsOf l))[k]) = some (secJ 2 l [] (Qx (xsOf l))[k],0):=by
          rw [qtc]
          unfold qfs
          rw [qp q0,qq (qj6 hv _)]
          rfl
        have m:=qgt 2 (p:=l) (q:=[]) (by simp;omega) (Qx (xsOf l))[k]
        have t:=d k
        have hb:=qi7 (K1 putR Qz (steps.take k)) (Qx (xsOf l))[k] (Qx (xsOf l))[k + 1] (secJ 2 l [] (Qx (xsOf l))[k]) (by simp at m;omega)
        rw [q3s putR u,x]
        simp only [q36,dlt b,Q1,w,Qu b,qj,show idx [l] 0 = some l from rfl,qfr l s,n,hb,Bool.not_true,qy]
        rw [w64s b q0]) (by
        rw [h]
        by_cases h0 : (Qx (xsOf l)).length = 0
        · have : decide (((steps.length + 1 : Nat) : Int) < ((Qx (xsOf l)).length : Int)) = false:=Q6 q0
          simp only [q36,this,qy]
        · have : decide (((steps.length + 1 : Nat) : Int) < ((Qx (xsOf l)).length : Int)) = false:=Q6 q0
          simp only [q36,this,qy]) (Nat.zero_le _)
    exact key
  rw [g]
  simp only [qj]
  by_cases v : 400 < (mrgR 2 l []).length
  · rw [Q7 (by omega : ((mrgR 2 l []).length : Int) > 400),qq v];rfl
  · rw [Q6 (by omega : ¬ ((mrgR 2 l []).length : Int) > 400),qp v];rfl
end Go.Sh
namespace Go.Sh
open Go Go.Am
theorem qvx {p q : List qi} (h : p.length + q.length≤490) : q9c p q = some (Qx (xsOf p ++ xsOf q)):=by
  have f : loop (q48 p) (0,[]) = some (xsOf p):=by
    have:=Jt p q0 (fun r=>[r.X0,r.X1]) [] (fun o=>o) (q48 p) (fun k a o b=>by
      have c : o.length = 2 * k:=by rw [b,List.nil_append];have:=U6 (p.take k);rw [List.length_take,Nat.min_eq_left q0] at this;exact this
      simp only [q48,dlt a,Q1,Qu a,qj,w64s a q0]
      rw [Y7 (by simp;omega)]
      rfl) (fun o=>by simp only [q48,dnl,qy])
    rw [List.nil_append] at this
    exact this
  have d : loop (q49 q) (0,xsOf p) = some (xsOf p ++ xsOf q):=by
    have hp:=U6 p
    exact Jt q q0 (fun r=>[r.X0,r.X1]) (xsOf p) (fun o=>o) (q49 q) (fun k a o b=>by
      have c : o.length = 2 * p.length + 2 * k:=by
        rw [b,List.length_append,hp];have:=U6 (q.take k);rw [List.length_take,Nat.min_eq_left q0] at this
        unfold xsOf at this;omega
      simp only [q49,dlt a,Q1,Qu a,qj,w64s a q0]
      rw [Y7 (by simp;omega)]
      rfl) (fun o=>by simp only [q49,dnl,qy])
  unfold q9c
  simp only [f,d,qj,(qbw h).1]
theorem qvz {p q : List qi} (h : p.length + q.length≤490) : q9d p q = some (Qx (ysOf p ++ ysOf q)):=by
  have f : loop (q4a p) (0,[]) = some (ysOf p):=by
    have:=Jt p q0 (fun r=>[r.Y0,r.Y1]) [] (fun o=>o) (q4a p) (fun k a o b=>by
      have c : o.length = 2 * k:=by rw [b,List.nil_append];have:=qbf (p.take k);rw [List.length_take,Nat.min_eq_left q0] at this;exact this
      simp only [q4a,dlt a,Q1,Qu a,qj,w64s a q0]
      rw [Y7 (by simp;omega)]
      rfl) (fun o=>by simp only [q4a,dnl,qy])
    rw [List.nil_append] at this
    exact this
  have d : loop (q4b q) (0,ysOf p) = some (ysOf p ++ ysOf q):=by
    have hp:=qbf p
    exact Jt q q0 (fun r=>[r.Y0,r.Y1]) (ysOf p) (fun o=>o) (q4b q) (fun k a o b=>by
      have c : o.length = 2 * p.length + 2 * k:=by
        rw [b,List.length_append,hp];have:=qbf (q.take k);rw [List.length_take,Nat.min_eq_left q0] at this
        unfold ysOf at this;omega
      simp only [q4b,dlt a,Q1,Qu a,qj,w64s a q0]
      rw [Y7 (by simp;omega)]
      rfl) (fun o=>by simp only [q4b,dnl,qy])
  unfold q9d
  simp only [f,d,qj,(qew h).1]
open Classical in
theorem qma (l : List qi) (x y : Int) (s : l.length≤1000000) : q5z l x y = some (decide (hasR l x y)):=by
  let c : qi→Bool:=fun r=>decide (r.X0≤x) && (decide (x < r.X1) && (decide (r.Y0≤y) && decide (y < r.Y1)))
  have hs : ∀ (k : Nat) (h : k < l.length),q30 l x y (k : Int) = some (if c l[k] = true then .inr (.inr true) else .inl ((k + 1 : Nat) : Int)):=by
    intro k h
    simp only [q30,dlt h,Q1,Qu h,qj,w64s h s,c]
    by_cases d : l[k].X0≤x <;> by_cases b : x < l[k].X1 <;> by_cases g : l[k].Y0≤y <;> by_cases q : y < l[k].Y1 <;> simp [d,b,g,q]
  have hd : q30 l x y (l.length : Int) = some (.inr (.inl ())):=by simp only [q30,dnl,qy]
  unfold q5z
  rcases Z8 l c (fun _ _=>true) () (q30 l x y) hs hd with ⟨d,b⟩ | ⟨k,n,a,_,b⟩
  · rw [b]
    have : ¬ hasR l x y:=by
      rintro ⟨r,o,j,f,m,p⟩
      have:=d r o
      simp [c,j,f,m,p] at this
    simp [this]
  · rw [b]
    have : hasR l x y:=by
      simp only [c,Bool.and_eq_true,decide_eq_true_eq] at a
      exact ⟨l[k],Kv n,a.1,a.2.1,a.2.2.1,a.2.2.2⟩
    simp [this]
theorem qfg {kind : Int} {a b : Prop} (h : Y2 kind a b) : a∨b:=by
  rcases h with ⟨_,h,_⟩ | ⟨_,h⟩ | ⟨_,_,h,_⟩
  · exact .inl h
  · exact h
  · exact .inl h
theorem qkj {kind : Int} {a b a' c : Prop} (f : a↔a') (d : b↔c) : Y2 kind a b↔Y2 kind a' c:=by
  unfold Y2;rw [f,d]
open Classical in
theorem qpw (kind : Int) {p q : List qi} (h : p.length + q.length≤490) (x : Int) :
    q42 (Qx (ysOf p ++ ysOf q)) ((Qx (ysOf p ++ ysOf q)).map fun y=>decide (Y2 kind (hasR p x y) (hasR q x y))) = some (secJ kind p q x):=by
  obtain ⟨_,a,g⟩:=qew h
  generalize Qx (ysOf p ++ ysOf q) = ys at a g ⊢
  obtain ⟨c,o,m⟩:=qii ys (ys.map fun y=>decide (Y2 kind (hasR p x y) (hasR q x y))) a.1 q0 qe
  rw [o]
  have r:=Us p x
  have s:=Us q x
  have l:=(q5j kind (covS p x) (covS q x) q0 q0).2
  have mp : ∀ z∈ends (covS p x),z∈ys:=fun z j=>(a.2 z).2 (List.mem_append.2 (.inl (qje j)))
  have mq : ∀ z∈ends (covS q x),z∈ys:=fun z j=>(a.2 z).2 (List.mem_append.2 (.inr (qje j)))
  congr 1
  refine q59 m.can l.can fun z=>?_
  unfold secJ
  rw [m.pts z,l.pts z]
  constructor
  · rintro ⟨i,hi,n,_,f,d,b⟩
    simp only [List.getElem_map,decide_eq_true_eq] at f
    refine (qkj ?_ ?_).2 f
    · rw [q39 a.1 mp hi d b,q13]
    · rw [q39 a.1 mq hi d b,q13]
  · intro k
    have : ∃ i,∃ (h : i + 1 < ys.length),ys[i]≤z∧z < ys[i + 1]:=by
      rcases qfg k with h | h
      · exact qc6 a.1 mp h
      · exact qc6 a.1 mq h
    obtain ⟨i,hi,d,b⟩:=this
    refine ⟨i,hi,by simp;omega,q0,?_,d,b⟩
    simp only [List.getElem_map,decide_eq_true_eq]
    refine (qkj ?_ ?_).1 k
    · rw [q39 a.1 mp hi d b,q13]
    · rw [q39 a.1 mq hi d b,q13]
open Classical in
theorem qst (kind : Int) {p q : List qi} (h : p.length + q.length≤490) (ys xs : List Int) (f : ys.length≤1000000) (i : Nat) (hi : i < xs.length) (a : List qk × Int × Int × List qi) (c : a.2.2.1 = i) :
    loop (q46 ys xs a p q kind) (0,[]) = some (ys.map fun y=>decide (Y2 kind (hasR p xs[i] y) (hasR q xs[i] y))):=by
  have:=q92 ys (fun y=>decide (Y2 kind (hasR p xs[i] y) (hasR q xs[i] y))) [] (fun o=>o) (q46 ys xs a p q kind) (fun k b o d=>by
    simp only [q46,dlt b,Q1,c,Qu b,Qu hi,qj,qma p _ _ q0,qma q _ _ q0,qkk,w64s b f]
    rw [Y7 (by simp at d ⊢;omega)]
    rfl) (fun o=>by simp only [q46,dnl,qy])
  rw [List.nil_append] at this
  exact this
theorem qsu (kind : Int) {p q : List qi} (h : p.length + q.length≤490) {xs : List Int} (hx : xs.length≤1000000) {i : Nat} (hi : i + 1 < xs.length) (s : Mg qk qi) (hl : (s.flat putR).length + (secJ kind p q xs[i]).length≤1000000)
    (h0 : i = 0→s.sec = []) (h1 : 0 < i→s.hi = xs[i]) :
    q31 xs (Qx (ysOf p ++ ysOf q)) p q kind (s.sec,(s.done.length : Int),(i : Int),s.flat putR) =
      some (.inl ((addM putR s xs[i] xs[i + 1] (secJ kind p q xs[i])).sec,((addM putR s xs[i] xs[i + 1] (secJ kind p q xs[i])).done.length : Int),((i + 1 : Nat) : Int),(addM putR s xs[i] xs[i + 1] (secJ kind p q xs[i])).flat putR)):=by
  have g : i < xs.length:=by omega
  have u : w64 ((i : Int) + 1) = ((i + 1 : Nat) : Int):=w64s g hx
  have hy:=(qew h).2.2
  have ai : (s.flat putR).length = s.done.length + s.sec.length:=by simp [Mg.flat]
  have r:=qst kind h (Qx (ysOf p ++ ysOf q)) xs q0 i g (s.sec,(s.done.length : Int),(i : Int),s.flat putR) rfl
  unfold q31
  simp only [u,dlt hi,Q1,r,qj,qpw kind h]
  generalize hc : secJ kind p q xs[i] = c at hl ⊢
  by_cases a : 0 < i∧c = s.sec
  · obtain ⟨b,f⟩:=a
    have hb : decide ((i : Int) > 0) = true:=Q7 q0
    have d:=qc1 (fun v : qi=>({X0:=v.X0,Y0:=v.Y0,X1:=xs[i + 1],Y1:=v.Y1} : qi)) s.done (s.sec.map (putR s.lo s.hi)) (by simp;omega) (q47 xs (s.sec,(s.done.length : Int),(i : Int),s.flat putR)) (fun k o j ho=>by
      have h5 : (s.done ++ s.sec.map (putR s.lo s.hi)).length = (s.flat putR).length:=rfl
      simp only [q47,dlt j,Q1,Qu j,Qu hi,u,qj,w64s j q0,Int.toNat_natCast]) (fun o=>by simp only [q47,dnl,qy])
    have w : q5y c s.sec = some true:=by rw [qmz _ _ q0];simp [f]
    have d : loop (q47 xs (s.sec,(s.done.length : Int),(i : Int),s.flat putR)) ((s.done.length : Int),s.flat putR) = _:=d
    simp only [hb,Q1,w,qj,d]
    rcases q1d putR s xs[i] xs[i + 1] c with ⟨_,_,_,l⟩ | ⟨h3,l⟩
    · rw [l]
      simp only [Mg.flat,List.map_map]
      rfl
    · have t : c = []:=Classical.byContradiction fun hn=>h3 ⟨hn,f,h1 b⟩
      rw [l]
      simp [Mg.flat,← f,t]
  · have n : (cond (decide ((i : Int) > 0)) ((q5y c s.sec).bind fun m=>some m) (some false)) = some false:=by
      by_cases b : 0 < i
      · have hb : decide ((i : Int) > 0) = true:=Q7 q0
        have x : c≠s.sec:=fun h=>a ⟨b,h⟩
        rw [hb,Q1,qmz _ _ q0]
        simp [x]
      · have hb : decide ((i : Int) > 0) = false:=Q6 q0
        rw [hb,qy]
    have y:=q92 c (putR xs[i] xs[i + 1]) (s.flat putR) (fun o=>(c,((s.flat putR).length : Int),o)) (q60 c xs (s.sec,(s.done.length : Int),(i : Int),s.flat putR)) (fun k j o ho=>by
      simp only [q60,dlt j,Q1,Qu j,Qu g,Qu hi,u,qj,w64s j q0]
      rw [Y7 (by simp;omega)]
      rfl) (fun o=>by simp only [q60,dnl,qy])
    have l : addM putR s xs[i] xs[i + 1] c = ⟨s.flat putR,c,xs[i],xs[i + 1]⟩:=by
      rcases q1d putR s xs[i] xs[i + 1] c with ⟨g1,z,_,_⟩ | ⟨_,l⟩
      · refine absurd ?_ a
        refine ⟨Nat.pos_of_ne_zero fun h=>g1 ?_,z⟩
        rw [z,h0 h]
      · exact l
    rw [l]
    simp only [n,qj,qy,y]
    simp [Mg.flat]
theorem q61 (kind : Int) {p q : List qi} (h : p.length + q.length≤490) : Ji kind p q = some (mrgR kind p q):=by
  unfold Ji
  rw [qvx h,qvz h]
  simp only [qj]
  obtain ⟨_,g,d⟩:=qbw h
  have a:=fun i=>qli kind h i
  unfold mrgR mrg
  generalize Qx (xsOf p ++ xsOf q) = xs at g d a ⊢
  generalize b : Yx xs (secJ kind p q) = steps at a ⊢
  have s : steps.length = xs.length - 1:=by rw [← b];exact q83 _ _
  have key:=Zw (f:=q31 xs (Qx (ysOf p ++ ysOf q)) p q kind) (fun k=>((K1 putR Qz (steps.take k)).sec,((K1 putR Qz (steps.take k)).done.length : Int),(k : Int),(K1 putR Qz (steps.take k)).flat putR))
    steps.length ((K1 putR Qz steps).flat putR) (fun k n=>by
      have c : k + 1 < xs.length:=by omega
      have r : steps[k] = (xs[k],xs[k + 1],secJ kind p q xs[k]):=by subst b;exact q82 n c
      have o:=qgt kind (p:=p) (q:=q) q0 xs[k]
      have l:=a k
      have:=qsu kind h (xs:=xs) q0 c (K1 putR Qz (steps.take k)) q0 (fun t=>by subst t;rfl) (fun j=>by
        obtain ⟨m,rfl⟩ : ∃ m,k = m + 1:=⟨k - 1,q0⟩
        rw [q3s putR q0,qhp]
        subst b
        rw [q82 q0 q0])
      rw [this,q3s putR n,r]) (by
      rw [List.take_length]
      have hb : decide (w64 ((steps.length : Int) + 1) < (xs.length : Int)) = false:=by
        rw [Qm q0];exact Q6 q0
      unfold q31
      simp only [hb,qy]) (Nat.zero_le _)
  have key : loop (q31 xs (Qx (ysOf p ++ ysOf q)) p q kind) ([],0,0,[]) = some ((K1 putR Qz steps).flat putR):=key
  rw [key];rfl
end Go.Sh
namespace Go.Sh
open Go Go.Am
noncomputable def Yn (l : List qi) : Int:=if 400 < l.length then 4 else if ∀ r∈l,vR r then (if mrgR 2 l [] = l then 0 else 8) else 8
theorem qqk {l : List qi} (h : Yn l = 0) : l.length≤400∧(∀ r∈l,vR r)∧mrgR 2 l [] = l:=by
  unfold Yn at h
  split at h
  · omega
  · split at h
    · split at h
      · rename_i a b c;exact ⟨q0,b,c⟩
      · omega
    · omega
theorem qwo (l : List qi) (m : l.length≤1000000) : q9s l (fun a=>q33 a) = some (decide (¬ ∀ r∈l,vR r)):=by
  have hs : ∀ (k : Nat) (h : k < l.length),q4k l (fun a=>q33 a) (k : Int) = some (if (fun r=>!decide (vR r)) l[k] = true then .inr (.inr (k : Int)) else .inl ((k + 1 : Nat) : Int)):=by
    intro k h
    simp only [q4k,dlt h,Q1,Qu h,qj,w64s h m,q33,qor]
    by_cases j : vR l[k] <;> simp [j]
  have hd : q4k l (fun a=>q33 a) (l.length : Int) = some (.inr (.inl ())):=by simp only [q4k,dnl,qy]
  unfold q9s qdb
  rcases Z8 l (fun r=>!decide (vR r)) (fun k _=>(k : Int)) () _ hs hd with ⟨d,b⟩ | ⟨k,f,c,_,b⟩
  · rw [b]
    have : ∀ r∈l,vR r:=fun r g=>by simpa using d r g
    simp []
    omega
  · rw [b]
    have : ¬ ∀ r∈l,vR r:=fun h=>by simp [h _ (Kv f)] at c
    simp only [qj]
    rw [Q7 this,Q7 q0]
theorem qwi (l : List qi) : q6g l = some (Yn l):=by
  unfold q6g Yn
  by_cases d : 400 < l.length
  · rw [Q7 (by omega : (l.length : Int) > 400),Q1,qq d]
  rw [Q6 (by omega : ¬ (l.length : Int) > 400),qy,qp d,qwo l q0,qj]
  by_cases a : ∀ r∈l,vR r
  · rw [Q6 (fun h=>h a),qy,ql4 l q0 a,qq a,qj]
    by_cases b : 400 < (mrgR 2 l []).length
    · have c : mrgR 2 l []≠l:=fun h=>by rw [h] at b;exact d b
      rw [qq b,qp c];rfl
    · rw [qp b]
      simp only [qez (mrgR 2 l []) l q0]
      by_cases f : mrgR 2 l [] = l <;> simp [f]
  · rw [Q7 a,Q1,qp a]
def putB (a b : Int) (r : qi) : qg:={Lo:={X:=r.X0,Y:=r.Y0,Z:=a},Hi:={X:=r.X1,Y:=r.Y1,Z:=b}}
def qjp (z : Int) : Prop:=-1000000≤z∧z≤1000000
instance (z : Int) : Decidable (qjp z):=by unfold qjp;infer_instance
end Go.Sh
namespace Go.Sh
open Go Go.Am
def covB (z : Int) (b : qg) : Bool:=decide (b.Lo.Z≤z) && decide (z < b.Hi.Z)
def Jj (b : qg) : qi:={X0:=b.Lo.X,Y0:=b.Lo.Y,X1:=b.Hi.X,Y1:=b.Hi.Y}
def atB (l : List qg) (z : Int) : List qi:=l.flatMap fun b=>if covB z b = true then [Jj b] else []
theorem U8 (l : List qg) (x : Int) : (atB l x).length≤l.length:=by
  unfold atB
  induction l with
  | nil=>simp
  | cons r l ih=>
    simp only [List.flatMap_cons,List.length_append,List.length_cons]
    have : (if covB x r = true then [Jj r] else []).length≤1:=by split <;> simp
    omega
theorem qcr (l : List qg) (f : l.length≤1000000) (z : Int) : U3 l z = some (atB l z):=by
  have:=Jt l f (fun b=>if covB z b = true then [Jj b] else []) [] (fun o=>o) (q66 l z) (fun k c o g=>by
    have h : o.length≤k:=by rw [g,List.nil_append];have:=U8 (l.take k) z;rw [List.length_take,Nat.min_eq_left q0] at this;exact this
    simp only [q66,dlt c,Q1,Qu c,qj,w64s c f]
    by_cases a : l[k].Lo.Z≤z
    · by_cases d : z < l[k].Hi.Z
      · simp only [a,d,decide_true,Q1,qj,covB,Bool.and_self,if_true]
        rw [Y7 (by simp;omega)]
        rfl
      · simp only [a,d,decide_true,decide_false,Q1,qy,qj,covB,Bool.and_false,if_false,Bool.false_eq_true,List.append_nil]
    · simp only [a,decide_false,qy,qj,covB,Bool.false_and,if_false,Bool.false_eq_true,List.append_nil]) (fun o=>by simp only [q66,dnl,qy])
  rw [List.nil_append] at this
  unfold U3
  rw [this];rfl
def zsOf (l : List qg) : List Int:=l.flatMap fun b=>[b.Lo.Z,b.Hi.Z]
theorem Zx (l : List qg) : (zsOf l).length = 2 * l.length:=by
  unfold zsOf;induction l with
  | nil=>rfl
  | cons r l ih=>simp only [List.flatMap_cons,List.length_append,List.length_cons,List.length_nil];omega
theorem qw6 {p q : List qg} (h : p.length + q.length≤100000) : q9g p q = some (Qx (zsOf p ++ zsOf q)):=by
  have f : loop (q4c p) (0,[]) = some (zsOf p):=by
    have:=Jt p q0 (fun r=>[r.Lo.Z,r.Hi.Z]) [] (fun o=>o) (q4c p) (fun k a o b=>by
      have c : o.length = 2 * k:=by rw [b,List.nil_append];have:=Zx (p.take k);rw [List.length_take,Nat.min_eq_left q0] at this;exact this
      simp only [q4c,dlt a,Q1,Qu a,qj,w64s a q0]
      rw [Y7 (by simp;omega)]
      rfl) (fun o=>by simp only [q4c,dnl,qy])
    rw [List.nil_append] at this
    exact this
  have d : loop (q4d q) (0,zsOf p) = some (zsOf p ++ zsOf q):=by
    have hp:=Zx p
    exact Jt q q0 (fun r=>[r.Lo.Z,r.Hi.Z]) (zsOf p) (fun o=>o) (q4d q) (fun k a o b=>by
      have c : o.length = 2 * p.length + 2 * k:=by
        rw [b,List.length_append,hp];have:=Zx (q.take k);rw [List.length_take,Nat.min_eq_left q0] at this
        unfold zsOf at this;omega
      simp only [q4d,dlt a,Q1,Qu a,qj,w64s a q0]
      rw [Y7 (by simp;omega)]
      rfl) (fun o=>by simp only [q4d,dnl,qy])
  have g:=Zx p
  have j:=Zx q
  unfold q9g
  simp only [f,d,qj,(Jy (l:=zsOf p ++ zsOf q) (by simp;omega)).1]
structure qhn (kind : Int) (p q : List qg) (z : Int) : Prop where
  n : (atB p z).length + (atB q z).length≤490
  m : (mrgR kind (atB p z) (atB q z)).length≤400
  mp : (mrgR 2 (atB p z) []).length≤400
  mq : (mrgR 2 (atB q z) []).length≤400
noncomputable def secB (kind : Int) (p q : List qg) (z : Int) : List qi:=mrgR kind (atB p z) (atB q z)
theorem qss (kind : Int) {p q : List qg} (h : p.length + q.length≤100000) {xs : List Int} (hx : xs.length≤1000000) {i : Nat} (hi : i + 1 < xs.length) (z : qhn kind p q xs[i]) (s : Mg qi qg) (hl : (s.flat putB).length + 400≤1000000)
    (h0 : i = 0→s.sec = []) (h1 : 0 < i→s.hi = xs[i]) :
    q1w xs p q kind (s.sec,(s.done.length : Int),(i : Int),s.flat putB) =
      some (.inl ((addM putB s xs[i] xs[i + 1] (secB kind p q xs[i])).sec,((addM putB s xs[i] xs[i + 1] (secB kind p q xs[i])).done.length : Int),((i + 1 : Nat) : Int),(addM putB s xs[i] xs[i + 1] (secB kind p q xs[i])).flat putB)):=by
  have g : i < xs.length:=by omega
  have u : w64 ((i : Int) + 1) = ((i + 1 : Nat) : Int):=w64s g hx
  have al : (s.flat putB).length = s.done.length + s.sec.length:=by simp [Mg.flat]
  obtain ⟨t,hm,an,av⟩:=z
  have ap : U3 p xs[i] = some (atB p xs[i]):=qcr p q0 _
  have aq : U3 q xs[i] = some (atB q xs[i]):=qcr q q0 _
  have jj : Ji kind (atB p xs[i]) (atB q xs[i]) = some (secB kind p q xs[i]):=q61 kind t
  have jp : Ji 2 (atB p xs[i]) [] = some (mrgR 2 (atB p xs[i]) []):=q61 2 (by simp;omega)
  have jq : Ji 2 (atB q xs[i]) [] = some (mrgR 2 (atB q xs[i]) []):=q61 2 (by simp;omega)
  have hm : (secB kind p q xs[i]).length≤400:=hm
  have d1 : decide (((secB kind p q xs[i]).length : Int) > 400) = false:=Q6 q0
  have d2 : decide (((mrgR 2 (atB p xs[i]) []).length : Int) > 400) = false:=Q6 q0
  have d3 : decide (((mrgR 2 (atB q xs[i]) []).length : Int) > 400) = false:=Q6 q0
  unfold q1w
  simp only [u,dlt hi,Q1,Qu g,ap,aq,jj,jp,jq,d1,d2,d3,qy,qj]
  generalize hc : secB kind p q xs[i] = c at hm ⊢
  by_cases a : 0 < i∧c = s.sec
  · obtain ⟨b,f⟩:=a
    have hb : decide ((i : Int) > 0) = true:=Q7 q0
    have d:=qc1 (fun v : qg=>({Lo:=v.Lo,Hi:=({X:=v.Hi.X,Y:=v.Hi.Y,Z:=xs[i + 1]} : Qa)} : qg)) s.done (s.sec.map (putB s.lo s.hi)) (by simp;omega) (q4f xs (s.sec,(s.done.length : Int),(i : Int),s.flat putB)) (fun k o j ho=>by
      have h5 : (s.done ++ s.sec.map (putB s.lo s.hi)).length = (s.flat putB).length:=rfl
      simp only [q4f,dlt j,Q1,Qu j,Qu hi,u,qj,w64s j q0,Int.toNat_natCast]) (fun o=>by simp only [q4f,dnl,qy])
    have x : q62 c s.sec = some true:=by rw [qmy _ _ q0];simp [f]
    have d : loop (q4f xs (s.sec,(s.done.length : Int),(i : Int),s.flat putB)) ((s.done.length : Int),s.flat putB) = _:=d
    simp only [hb,Q1,x,qj,d]
    rcases q1d putB s xs[i] xs[i + 1] c with ⟨_,_,_,l⟩ | ⟨h3,l⟩
    · rw [l]
      simp only [Mg.flat,List.map_map]
      rfl
    · have r : c = []:=Classical.byContradiction fun t=>h3 ⟨t,f,h1 b⟩
      rw [l]
      simp [Mg.flat,← f,r]
  · have m : (cond (decide ((i : Int) > 0)) ((q62 c s.sec).bind fun n=>some n) (some false)) = some false:=by
      by_cases b : 0 < i
      · have hb : decide ((i : Int) > 0) = true:=Q7 q0
        have y : c≠s.sec:=fun h=>a ⟨b,h⟩
        rw [hb,Q1,qmy _ _ q0]
        simp [y]
      · have hb : decide ((i : Int) > 0) = false:=Q6 q0
        rw [hb,qy]
    have w:=q92 c (putB xs[i] xs[i + 1]) (s.flat putB) (fun o=>(c,((s.flat putB).length : Int),o)) (q68 c xs (s.sec,(s.done.length : Int),(i : Int),s.flat putB)) (fun k j o ho=>by
      simp only [q68,dlt j,Q1,Qu j,Qu g,Qu hi,u,qj,w64s j q0]
      rw [Y7 (by simp;omega)]
      rfl) (fun o=>by simp only [q68,dnl,qy])
    have l : addM putB s xs[i] xs[i + 1] c = ⟨s.flat putB,c,xs[i],xs[i + 1]⟩:=by
      rcases q1d putB s xs[i] xs[i + 1] c with ⟨g1,g2,_,_⟩ | ⟨_,l⟩
      · refine absurd ?_ a
        refine ⟨Nat.pos_of_ne_zero fun h=>g1 ?_,g2⟩
        rw [g2,h0 h]
      · exact l
    rw [l]
    simp only [m,qj,qy,w]
    simp [Mg.flat]
noncomputable def mrgB (kind : Int) (p q : List qg) : List qg:=(K1 putB Qz (Yx (Qx (zsOf p ++ zsOf q)) (secB kind p q))).flat putB
section
variable {σ β : Type} (put : Int→Int→σ→β)
def Alike (s t : Mg σ β) : Prop:=s = t∨(s.flat put = t.flat put∧s.sec = []∧t.sec = [])
theorem Alike.flat {s t : Mg σ β} (h : Alike put s t) : s.flat put = t.flat put:=by
  rcases h with rfl | h
  · rfl
  · exact h.1
end
section
variable {σ β : Type} [DecidableEq σ] (put : Int→Int→σ→β)
def runM (sec : Int→List σ) : Mg σ β→List Int→Mg σ β
  | s,a::b::r=>runM sec (addM put s a b (sec a)) (b::r)
  | s,_=>s
theorem qjt (sec : Int→List σ) : ∀ (c : List Int) (s : Mg σ β),K1 put s (Yx c sec) = runM put sec s c
  | [],s=>rfl
  | [a],s=>rfl
  | a::b::r,s=>by
    have:=qjt sec (b::r) (addM put s a b (sec a))
    simp only [runM,← this]
    rfl
theorem Alike.add {s t : Mg σ β} (h : Alike put s t) (a b : Int) (c : List σ) : Alike put (addM put s a b c) (addM put t a b c):=by
  rcases h with rfl | ⟨g,m,k⟩
  · exact .inl rfl
  · refine .inl ?_
    rcases q1d put s a b c with ⟨j,d,_,_⟩ | ⟨_,l⟩
    · exact absurd (d.trans m) j
    · rcases q1d put t a b c with ⟨o,n,_,_⟩ | ⟨_,f⟩
      · exact absurd (n.trans k) o
      · rw [l,f,g]
end
end Go.Sh
namespace Go.Sh
open Go Go.Am
structure Grp (σ : Type) where
  lo : Int
  hi : Int
  sec : List σ
section
variable {σ β : Type}
def CanG (gs : List (Grp σ)) : Prop:=(∀ g∈gs,g.lo < g.hi∧g.sec≠[])∧gs.Pairwise (fun g h=>g.hi≤h.lo∧(g.hi = h.lo→g.sec≠h.sec))
def secG : List (Grp σ)→Int→List σ
  | [],_=>[]
  | g::r,x=>if g.lo≤x∧x < g.hi then g.sec else secG r x
def Y6 (put : Int→Int→σ→β) (gs : List (Grp σ)) : List β:=gs.flatMap fun g=>g.sec.map (put g.lo g.hi)
theorem qrr (put : Int→Int→σ→β) (a b : List (Grp σ)) : Y6 put (a ++ b) = Y6 put a ++ Y6 put b:=by simp [Y6]
theorem q38 {y x : Int} : ∀ {r : List (Grp σ)},(∀ h∈r,y≤h.lo)→x < y→secG r x = []
  | [],_,_=>rfl
  | g::r,h,hx=>by
    have:=h g qe
    rw [secG,qp q0]
    exact q38 (fun k a=>h k (by simp [a])) hx
theorem q6r {y x : Int} : ∀ {r : List (Grp σ)},(∀ h∈r,h.hi≤y)→y≤x→secG r x = []
  | [],_,_=>rfl
  | g::r,h,hx=>by
    have:=h g qe
    rw [secG,qp q0]
    exact q6r (fun k a=>h k (by simp [a])) hx
theorem q9m {x : Int} : ∀ {a b : List (Grp σ)},secG a x = []→(∀ g∈a,g.sec≠[])→secG (a ++ b) x = secG b x
  | [],_,_,_=>rfl
  | g::a,b,h,hne=>by
    rw [secG] at h
    split at h
    · exact absurd h (hne g qe)
    · rename_i c
      rw [List.cons_append,secG,qp c]
      exact q9m h fun k d=>hne k (by simp [d])
theorem qgq {y x : Int} {a b : List (Grp σ)} (hb : ∀ h∈b,y≤h.lo) (c : x < y) : secG (a ++ b) x = secG a x:=by
  induction a with
  | nil=>exact q38 hb c
  | cons g a ih=>simp only [List.cons_append,secG,ih]
theorem CanG.tail {g : Grp σ} {r : List (Grp σ)} (h : CanG (g::r)) : CanG r:=⟨fun k a=>h.1 k (by simp [a]),(List.pairwise_cons.1 h.2).2⟩
theorem CanG.nxt {g : Grp σ} {r : List (Grp σ)} (h : CanG (g::r)) : ∀ k∈r,g.hi≤k.lo∧(g.hi = k.lo→g.sec≠k.sec):=(List.pairwise_cons.1 h.2).1
theorem q37 {g : Grp σ} {r : List (Grp σ)} {x : Int} (b : g.lo≤x) (a : x < g.hi) : secG (g::r) x = g.sec:=by rw [secG,qq ⟨b,a⟩]
theorem qyg {g : Grp σ} {r : List (Grp σ)} (h : CanG (g::r)) : secG (g::r) g.hi≠g.sec:=by
  rw [secG,qp q0]
  cases r with
  | nil=>exact fun e=>(h.1 g qe).2 e.symm
  | cons k r=>
    have c:=h.nxt k qe
    have a:=h.tail.1 k qe
    by_cases b : g.hi = k.lo
    · rw [q37 q0 q0];exact fun e=>c.2 b e.symm
    · rw [secG,qp q0,q38 (y:=k.hi) (fun m d=>(h.tail.nxt m d).1) q0]
      exact fun e=>(h.1 g qe).2 e.symm
theorem qeg : ∀ {a b : List (Grp σ)},CanG a→CanG b→(∀ x,secG a x = secG b x)→a = b
  | [],[],_,_,_=>rfl
  | [],g::r,_,hb,h=>by
    have:=h g.lo
    rw [q37 (Int.le_refl _) (hb.1 g qe).1] at this
    exact absurd this.symm (hb.1 g qe).2
  | g::r,[],c,_,h=>by
    have:=h g.lo
    rw [q37 (Int.le_refl _) (c.1 g qe).1] at this
    exact absurd this (c.1 g qe).2
  | g::r,k::s,c,hb,h=>by
    have q:=c.1 g qe
    have t:=hb.1 k qe
    have low : ∀ {g k : Grp σ} {r s : List (Grp σ)},CanG (g::r)→CanG (k::s)→(∀ x,secG (g::r) x = secG (k::s) x)→k.lo≤g.lo:=by
      intro g k r s c hb h
      refine Int.not_lt.1 fun j=>?_
      have d:=h g.lo
      rw [q37 (Int.le_refl _) (c.1 g qe).1,q38 (y:=k.lo) (fun m f=>?_) j] at d
      · exact (c.1 g qe).2 d
      · rcases List.mem_cons.1 f with rfl | f
        · exact Int.le_refl _
        · have:=(hb.nxt m f).1;have:=(hb.1 k qe).1;omega
    have n : g.lo = k.lo:=Int.le_antisymm (low hb c fun x=>(h x).symm) (low c hb h)
    have l : g.sec = k.sec:=by
      have d:=h g.lo
      rwa [q37 (Int.le_refl _) q.1,q37 q0 q0] at d
    have hi : ∀ {g k : Grp σ} {r s : List (Grp σ)},CanG (g::r)→CanG (k::s)→(∀ x,secG (g::r) x = secG (k::s) x)→g.lo = k.lo→g.sec = k.sec→k.hi≤g.hi:=by
      intro g k r s c hb h n l
      refine Int.not_lt.1 fun j=>?_
      have d:=h g.hi
      have:=(c.1 g qe).1
      rw [q37 (g:=k) q0 j,← l] at d
      exact qyg c d
    have p : g.hi = k.hi:=Int.le_antisymm (hi hb c (fun x=>(h x).symm) n.symm l.symm) (hi c hb h n l)
    have e : g = k:=by cases g;cases k;simp at n l p;simp [n,l,p]
    subst e
    have : r = s:=qeg c.tail hb.tail fun x=>by
      by_cases o : x < g.hi
      · rw [q38 (y:=g.hi) (fun m f=>(c.nxt m f).1) o,q38 (y:=g.hi) (fun m f=>(hb.nxt m f).1) o]
      · have d:=h x
        rwa [secG,secG,qp q0,qp q0] at d
    rw [this]
def curG (s : Mg σ β) : List (Grp σ):=if s.sec = [] then [] else [⟨s.lo,s.hi,s.sec⟩]
def secC (sec : Int→List σ) : List Int→Int→List σ
  | a::b::r,x=>if a≤x∧x < b then sec a else secC sec (b::r) x
  | _,_=>[]
theorem qjq (put : Int→Int→σ→β) (s : Mg σ β) (a : List (Grp σ)) (h : s.done = Y6 put a) : s.flat put = Y6 put (a ++ curG s):=by
  rw [qrr,Mg.flat,h]
  unfold curG
  split
  · rename_i b;simp [b,Y6]
  · simp [Y6]
theorem qcf {s : Mg σ β} {g : Grp σ} (h : g∈curG s) : s.sec≠[]∧g = ⟨s.lo,s.hi,s.sec⟩:=by
  unfold curG at h;split at h
  · cases h
  · rename_i a;exact ⟨a,by simpa using h⟩
theorem qd1 (sec : Int→List σ) {x : Int} : ∀ {d : List Int},d.Pairwise (· < ·)→
    (∀ a∈d,a≤x→(∀ c∈d,c≤a∨x < c)→sec a = sec x)→((∀ c∈d,x < c)→sec x = [])→((∀ c∈d,c≤x)→sec x = [])→secC sec d x = sec x
  | [],_,_,h2,_=>(h2 qe).symm
  | [a],_,_,h2,h3=>by
    rw [secC]
    · by_cases k : x < a
      · exact (h2 (by simpa using k)).symm
      · exact (h3 (by simpa using k)).symm
    · intro a b r h;simp at h
  | a::b::r,hp,h1,h2,h3=>by
    have p : a < b:=(List.pairwise_cons.1 hp).1 b qe
    have m:=(List.pairwise_cons.1 (List.pairwise_cons.1 hp).2).1
    rw [secC]
    split
    · rename_i k
      refine h1 a qe k.1 fun c f=>?_
      rcases List.mem_cons.1 f with rfl | f
      · exact .inl (Int.le_refl _)
      · rcases List.mem_cons.1 f with rfl | f
        · exact .inr k.2
        · have:=m c f;exact .inr q0
    · rename_i k
      by_cases n : x < a
      · have e : sec x = []:=h2 fun c f=>by
          rcases List.mem_cons.1 f with rfl | f
          · exact n
          · have:=(List.pairwise_cons.1 hp).1 c f;omega
        have:=qd1 sec (x:=x) (List.pairwise_cons.1 hp).2 (fun a' j l _=>by
          exfalso;have:=(List.pairwise_cons.1 hp).1 a' j;omega) (fun _=>e) (fun _=>e)
        exact this
      · have o : b≤x:=by omega
        exact qd1 sec (List.pairwise_cons.1 hp).2 (fun a' j l g=>h1 a' (by simp [j]) l fun c f=>by
          rcases List.mem_cons.1 f with rfl | f
          · have:=(List.pairwise_cons.1 hp).1 a' j;exact .inl q0
          · exact g c f) (fun g=>by have:=g b qe;omega) (fun g=>h3 fun c f=>by
          rcases List.mem_cons.1 f with rfl | f
          · omega
          · exact g c f)
variable [DecidableEq σ] (put : Int→Int→σ→β)
structure InvG (s : Mg σ β) (gs : List (Grp σ)) (c : Int) : Prop where
  done : s.done = Y6 put gs
  can : CanG (gs ++ curG s)
  le : ∀ g∈gs ++ curG s,g.hi≤c
  gap : s.sec = []→∀ g∈gs,g.hi = c→False
theorem qsl {s : Mg σ β} {l : List (Grp σ)} {a b : Int} {c : List σ} (u : a < b) (hi : InvG put s l a) :
    ∃ p,InvG put (addM put s a b c) p b∧∀ x,secG (p ++ curG (addM put s a b c)) x = if a≤x∧x < b then c else secG (l ++ curG s) x:=by
  rcases q1d put s a b c with ⟨v,h2,h3,h4⟩ | ⟨v,h4⟩
  · rw [h4]
    have hs : s.sec≠[]:=h2 ▸ v
    have c1 : curG s = [⟨s.lo,s.hi,s.sec⟩]:=by unfold curG;rw [qp hs]
    have c2 : curG (⟨s.done,s.sec,s.lo,b⟩ : Mg σ β) = [⟨s.lo,b,s.sec⟩]:=by unfold curG;rw [qp hs]
    have f:=hi.can
    rw [c1] at f
    have af : s.lo < s.hi:=(f.1 ⟨s.lo,s.hi,s.sec⟩ qe).1
    refine ⟨l,⟨hi.done,?_,?_,fun h=>absurd h hs⟩,?_⟩
    · rw [c2]
      refine ⟨fun g d=>?_,?_⟩
      · rcases List.mem_append.1 d with d | d
        · exact f.1 g (by simp [d])
        · obtain rfl:=List.mem_singleton.1 d;exact ⟨by simp only;omega,hs⟩
      · have:=List.pairwise_append.1 f.2
        refine List.pairwise_append.2 ⟨this.1,qe,fun g d k hk=>?_⟩
        obtain rfl:=List.mem_singleton.1 hk
        exact this.2.2 g d ⟨s.lo,s.hi,s.sec⟩ qe
    · rw [c2]
      intro g d
      rcases List.mem_append.1 d with d | d
      · have:=hi.le g (by simp [d]);omega
      · obtain rfl:=List.mem_singleton.1 d;exact Int.le_refl _
    · intro x
      rw [c1,c2]
      have z : ∀ g∈l,g.hi≤s.lo:=fun g d=>((List.pairwise_append.1 f.2).2.2 g d ⟨s.lo,s.hi,s.sec⟩ qe).1
      have r : ∀ g∈l,g.sec≠[]:=fun g d=>(f.1 g (by simp [d])).2
      by_cases n : x < s.lo
      · rw [qp q0,qgq (y:=s.lo) qe n,qgq (y:=s.lo) qe n]
      · have e : secG l x = []:=q6r z q0
        rw [q9m e r,q9m e r]
        simp only [secG]
        by_cases w : x < s.hi
        · rw [qq ⟨q0,q0⟩,qp q0,qq ⟨q0,w⟩]
        · by_cases q : x < b
          · rw [qq ⟨q0,q⟩,qq ⟨q0,q⟩,h2]
          · rw [qp q0,qp q0,qp q0]
  · rw [h4]
    have hd : s.flat put = Y6 put (l ++ curG s):=qjq put s l hi.done
    refine ⟨l ++ curG s,⟨hd,?_,?_,?_⟩,?_⟩
    · by_cases m : c = []
      · have : curG (⟨s.flat put,c,a,b⟩ : Mg σ β) = []:=by unfold curG;rw [qq m]
        rw [this,List.append_nil];exact hi.can
      · have : curG (⟨s.flat put,c,a,b⟩ : Mg σ β) = [⟨a,b,c⟩]:=by unfold curG;rw [qp m]
        rw [this]
        refine ⟨fun g d=>?_,List.pairwise_append.2 ⟨hi.can.2,qe,fun g d k hk=>?_⟩⟩
        · rcases List.mem_append.1 d with d | d
          · exact hi.can.1 g d
          · obtain rfl:=List.mem_singleton.1 d;exact ⟨u,m⟩
        · obtain rfl:=List.mem_singleton.1 hk
          refine ⟨hi.le g d,fun t o=>?_⟩
          rcases List.mem_append.1 d with j | j
          · by_cases hs : s.sec = []
            · exact hi.gap hs g j t
            · have h5 : (⟨s.lo,s.hi,s.sec⟩ : Grp σ)∈curG s:=by unfold curG;rw [qp hs];simp
              have h6:=((List.pairwise_append.1 hi.can.2).2.2 g j _ h5).1
              have h7:=(hi.can.1 _ (List.mem_append.2 (.inr h5))).1
              have h8:=hi.le _ (List.mem_append.2 (.inr h5))
              simp only at t h6 h7 h8
              omega
          · obtain ⟨hs,rfl⟩:=qcf j
            exact v ⟨m,o.symm,t⟩
    · intro g d
      rcases List.mem_append.1 d with d | d
      · have:=hi.le g d;omega
      · obtain ⟨_,rfl⟩:=qcf d;exact Int.le_refl _
    · intro m g d t
      have:=hi.le g d;omega
    · intro x
      by_cases n : a≤x∧x < b
      · rw [qq n,q9m (q6r hi.le n.1) fun g d=>(hi.can.1 g d).2]
        unfold curG
        split
        · rename_i m;simp only at m;rw [m];rfl
        · simp only [secG];rw [qq n]
      · rw [qp n]
        by_cases ac : x < a
        · exact qgq (y:=a) (fun g d=>by obtain ⟨_,rfl⟩:=qcf d;exact Int.le_refl _) ac
        · have e:=q6r (x:=x) hi.le q0
          rw [q9m e fun g d=>(hi.can.1 g d).2,e]
          exact q6r (y:=b) (fun g d=>by obtain ⟨_,rfl⟩:=qcf d;exact Int.le_refl _) q0
theorem qmv (sec : Int→List σ) : ∀ (d : List Int) (c : Int) (s : Mg σ β) (h : List (Grp σ)),(c::d).Pairwise (· < ·)→InvG put s h c→
    ∃ f,(runM put sec s (c::d)).flat put = Y6 put f∧CanG f∧∀ x,secG f x = if x < c then secG (h ++ curG s) x else secC sec (c::d) x
  | [],c,s,h,_,hi=>by
    refine ⟨h ++ curG s,qjq put s h hi.done,hi.can,fun x=>?_⟩
    by_cases j : x < c
    · rw [qq j]
    · rw [qp j];exact q6r hi.le q0
  | b::d,a,s,h,hp,hi=>by
    have m : a < b:=(List.pairwise_cons.1 hp).1 b qe
    obtain ⟨f,l,k⟩:=qsl (b:=b) (c:=sec a) put m hi
    obtain ⟨n,q,p,o⟩:=qmv sec d b _ f (List.pairwise_cons.1 hp).2 l
    refine ⟨n,q,p,fun x=>?_⟩
    rw [o x]
    by_cases j : x < a
    · rw [qq q0,qq j,k,qp q0]
    · rw [qp j]
      simp only [secC]
      by_cases g : x < b
      · rw [qq g,k,qq ⟨q0,g⟩,qq ⟨q0,g⟩]
      · rw [qp g,qp q0]
theorem qlc (sec : Int→List σ) {a : List Int} (f : a.Pairwise (· < ·)) :
    ∃ d,(K1 put Qz (Yx a sec)).flat put = Y6 put d∧CanG d∧∀ x,secG d x = secC sec a x:=by
  rw [qjt]
  cases a with
  | nil=>exact ⟨[],rfl,⟨qe,qe⟩,fun x=>rfl⟩
  | cons c a=>
    obtain ⟨d,k,j,h⟩:=qmv put sec a c (Qz : Mg σ β) [] f ⟨rfl,⟨by simp [curG,Qz],by simp [curG,Qz]⟩,by simp [curG,Qz],qe⟩
    refine ⟨d,k,j,fun x=>?_⟩
    rw [h x]
    split
    · rename_i g
      have : ∀ (a : List Int) (c : Int),(c::a).Pairwise (· < ·)→x < c→secC sec (c::a) x = []:=by
        intro a
        induction a with
        | nil=>intros;rfl
        | cons b r ih=>
          intro c hp g
          rw [secC,qp q0]
          exact ih b (List.pairwise_cons.1 hp).2 (by have:=(List.pairwise_cons.1 hp).1 b qe;omega)
      rw [this a c f g];rfl
    · rfl
end
end Go.Sh
namespace Go.Sh
open Go Go.Am
section
variable {σ : Type}
theorem qgs {x : Int} : ∀ (b : List (Grp σ)),secG b x = []∨∃ g∈b,g.lo≤x∧x < g.hi∧secG b x = g.sec
  | []=>.inl rfl
  | g::r=>by
    by_cases a : g.lo≤x∧x < g.hi
    · exact .inr ⟨g,qe,a.1,a.2,by rw [secG,qq a]⟩
    · rw [secG,qp a]
      rcases qgs r with h | ⟨k,c,h⟩
      · exact .inl h
      · exact .inr ⟨k,by simp [c],h⟩
theorem qgr : ∀ {b : List (Grp σ)},CanG b→∀ g∈b,∀ x,g.lo≤x→x < g.hi→secG b x = g.sec
  | k::r,h,g,a,x,h1,h2=>by
    rcases List.mem_cons.1 a with rfl | a
    · exact q37 h1 h2
    · have:=(h.nxt g a).1
      rw [secG,qp q0]
      exact qgr h.tail g a x h1 h2
end
theorem qkr (kind : Int) : Jf kind [] [] = []:=by
  have a:=(q5j kind [] [] qe qe).2
  refine q59 a.can ⟨qe,qe⟩ fun x=>?_
  rw [a.pts]
  have:=q1r x
  unfold Y2;simp [this]
theorem qr2 (a b : List qi) (x : Int) : covS (a ++ b) x = covS a x ++ covS b x:=by simp [covS]
theorem qr3 (s : List qk) (lo hi x : Int) : covS (s.map (putR lo hi)) x = if lo≤x∧x < hi then s else []:=by
  induction s with
  | nil=>simp [covS]
  | cons t s ih=>
    have e : covS (List.map (putR lo hi) (t::s)) x = (if covR x (putR lo hi t) = true then [t] else []) ++ covS (s.map (putR lo hi)) x:=rfl
    rw [e,ih]
    have : covR x (putR lo hi t) = (decide (lo≤x) && decide (x < hi)):=rfl
    rw [this]
    by_cases b : lo≤x <;> by_cases a : x < hi <;> simp [b,a]
theorem q8p : ∀ {b : List (Grp qk)},CanG b→∀ x,covS (Y6 putR b) x = secG b x
  | [],_,x=>rfl
  | g::r,h,x=>by
    have e : Y6 putR (g::r) = g.sec.map (putR g.lo g.hi) ++ Y6 putR r:=rfl
    rw [e,qr2,qr3,q8p h.tail x]
    by_cases a : g.lo≤x∧x < g.hi
    · rw [qq a,secG,qq a,q38 (y:=g.hi) (fun m c=>(h.nxt m c).1) a.2,List.append_nil]
    · rw [qp a,secG,qp a,List.nil_append]
theorem qj4 {l : List qi} {a x : Int} (h : ∀ r∈l,covR a r = covR x r) : covS l a = covS l x:=by
  induction l with
  | nil=>rfl
  | cons r l ih=>
    have e : ∀ y,covS (r::l) y = (if covR y r = true then [ysp r] else []) ++ covS l y:=fun _=>rfl
    rw [e,e,h r qe,ih fun k b=>h k (by simp [b])]
theorem qbv {l : List qi} {x : Int} (h : ∀ r∈l,covR x r = false) : covS l x = []:=by
  induction l with
  | nil=>rfl
  | cons r l ih=>
    have e : covS (r::l) x = (if covR x r = true then [ysp r] else []) ++ covS l x:=rfl
    rw [e,h r qe,ih fun k a=>h k (by simp [a])];rfl
theorem q5b {x : Int} {r : qi} : covR x r = true↔r.X0≤x∧x < r.X1:=by simp [covR]
theorem qla {p q : List qi} {r : qi} (h : r∈p∨r∈q) : r.X0∈xsOf p ++ xsOf q∧r.X1∈xsOf p ++ xsOf q:=by
  unfold xsOf
  simp only [List.mem_append,List.mem_flatMap]
  rcases h with h | h
  · exact ⟨.inl ⟨r,h,qe⟩,.inl ⟨r,h,qe⟩⟩
  · exact ⟨.inr ⟨r,h,qe⟩,.inr ⟨r,h,qe⟩⟩
theorem qlg (kind : Int) {p q : List qi} (h : p.length + q.length≤100000) :
    ∃ f,mrgR kind p q = Y6 putR f∧CanG f∧∀ x,secG f x = secJ kind p q x:=by
  have s:=U6 p
  have u:=U6 q
  have hs:=(Jy (l:=xsOf p ++ xsOf q) (by simp;omega)).2.1
  obtain ⟨f,m,o,n⟩:=qlc putR (secJ kind p q) hs.1
  refine ⟨f,m,o,fun x=>?_⟩
  rw [n]
  have g : ∀ r,(r∈p∨r∈q)→r.X0∈Qx (xsOf p ++ xsOf q)∧r.X1∈Qx (xsOf p ++ xsOf q):=fun r b=>
    ⟨(hs.2 _).2 (qla b).1,(hs.2 _).2 (qla b).2⟩
  refine qd1 _ hs.1 (fun a _ k c=>?_) (fun c=>?_) (fun c=>?_)
  · have d : ∀ r,(r∈p∨r∈q)→covR a r = covR x r:=fun r b=>by
      have j:=c _ (g r b).1
      have t:=c _ (g r b).2
      rw [Bool.eq_iff_iff,q5b,q5b];omega
    unfold secJ
    rw [qj4 fun r b=>d r (.inl b),qj4 fun r b=>d r (.inr b)]
  · have d : ∀ r,(r∈p∨r∈q)→covR x r = false:=fun r b=>by
      have j:=c _ (g r b).1
      rw [← Bool.not_eq_true,q5b];omega
    unfold secJ
    rw [qbv fun r b=>d r (.inl b),qbv fun r b=>d r (.inr b),qkr]
  · have d : ∀ r,(r∈p∨r∈q)→covR x r = false:=fun r b=>by
      have j:=c _ (g r b).2
      rw [← Bool.not_eq_true,q5b];omega
    unfold secJ
    rw [qbv fun r b=>d r (.inl b),qbv fun r b=>d r (.inr b),qkr]
def CanR (l : List qi) : Prop:=∃ gs : List (Grp qk),l = Y6 putR gs∧CanG gs∧∀ g∈gs,Can g.sec
theorem qpv : Can []:=⟨qe,qe⟩
theorem CanR.nil : CanR []:=⟨[],rfl,⟨qe,qe⟩,qe⟩
theorem CanR.cov {l : List qi} (h : CanR l) (x : Int) : Can (covS l x):=by
  obtain ⟨b,rfl,c,d⟩:=h
  rw [q8p c]
  rcases qgs (x:=x) b with e | ⟨g,a,_,_,e⟩
  · rw [e];exact qpv
  · rw [e];exact d g a
theorem qeh {a b : List qi} (c : CanR a) (hb : CanR b) (h : ∀ x y,hasR a x y↔hasR b x y) : a = b:=by
  have g : ∀ x,covS a x = covS b x:=fun x=>q59 (c.cov x) (hb.cov x) fun y=>by rw [q13,q13];exact h x y
  obtain ⟨j,rfl,d,_⟩:=c
  obtain ⟨k,rfl,f,_⟩:=hb
  rw [qeg d f fun x=>by rw [← q8p d,← q8p f];exact g x]
theorem qn4 (kind : Int) {p q : List qi} (h : p.length + q.length≤100000) (x : Int) : qe2 kind (covS p x) (covS q x) (secJ kind p q x):=by
  have b:=Us p x
  have a:=Us q x
  exact (q5j kind (covS p x) (covS q x) q0 q0).2
theorem qci (kind : Int) {p q : List qi} (h : p.length + q.length≤100000) : CanR (mrgR kind p q):=by
  obtain ⟨c,f,a,d⟩:=qlg kind h
  refine ⟨c,f,a,fun g b=>?_⟩
  have:=d g.lo
  rw [qgr a g b _ (Int.le_refl _) (a.1 g b).1] at this
  rw [this];exact (qn4 kind h _).can
theorem qj5 (kind : Int) {p q : List qi} (h : p.length + q.length≤100000) (x : Int) : covS (mrgR kind p q) x = secJ kind p q x:=by
  obtain ⟨d,c,b,a⟩:=qlg kind h
  rw [c,q8p b,a]
theorem qc5 (kind : Int) {p q : List qi} (h : p.length + q.length≤100000) (x y : Int) : hasR (mrgR kind p q) x y↔Y2 kind (hasR p x y) (hasR q x y):=by
  rw [← q13,qj5 kind h,(qn4 kind h x).pts,q13,q13]
theorem qfd (x y : Int) : ¬ hasR [] x y:=by rintro ⟨r,h,_⟩;cases h
theorem q3w {a b : Prop} : Y2 2 a b↔a∨b:=by unfold Y2;simp
theorem qsd {l : List qi} (h : l.length≤100000) (x y : Int) : hasR (mrgR 2 l []) x y↔hasR l x y:=by
  rw [qc5 2 (by simpa using h),q3w];simp [qfd]
theorem qlh {l : List qi} (a : l.length≤100000) (h : CanR l) : mrgR 2 l [] = l:=
  qeh (qci 2 (by simpa using a)) h fun x y=>qsd a x y
theorem ql8 {σ β : Type} {put : Int→Int→σ→β} {a : List (Grp σ)} {r : β} : r∈Y6 put a↔∃ g∈a,∃ t∈g.sec,r = put g.lo g.hi t:=by
  unfold Y6
  simp only [List.mem_flatMap,List.mem_map]
  exact ⟨fun ⟨g,hg,t,ht,e⟩=>⟨g,hg,t,ht,e.symm⟩,fun ⟨g,hg,t,ht,e⟩=>⟨g,hg,t,ht,e.symm⟩⟩
theorem CanR.lt {l : List qi} (h : CanR l) : ∀ r∈l,r.X0 < r.X1∧r.Y0 < r.Y1:=by
  obtain ⟨j,rfl,b,f⟩:=h
  intro r d
  obtain ⟨g,a,t,c,rfl⟩:=ql8.1 d
  exact ⟨(b.1 g a).1,(f g a).1 t c⟩
def InR (l : List qi) : Prop:=∀ x y,hasR l x y→(-1000000≤x∧x < 1000000)∧(-1000000≤y∧y < 1000000)
theorem CanR.vR {l : List qi} (h : CanR l) (hi : InR l) : ∀ r∈l,vR r:=by
  intro r a
  have b:=h.lt r a
  have d:=hi r.X0 r.Y0 ⟨r,a,q0⟩
  have c:=hi (r.X1 - 1) (r.Y1 - 1) ⟨r,a,q0⟩
  unfold Go.Sh.vR;omega
theorem InR.mrg {kind : Int} {p q : List qi} (h : p.length + q.length≤100000) (hp : InR p) (c : InR q) : InR (mrgR kind p q):=fun x y b=>by
  rcases qfg ((qc5 kind h x y).1 b) with a | a
  · exact hp x y a
  · exact c x y a
theorem InR.nil : InR []:=fun x y h=>absurd h (qfd x y)
theorem q8l {l : List qi} : Yn l = 0↔l.length≤400∧(∀ r∈l,vR r)∧CanR l:=by
  constructor
  · intro h
    obtain ⟨c,a,b⟩:=qqk h
    exact ⟨c,a,b ▸ qci 2 (by simp;omega)⟩
  · rintro ⟨c,a,b⟩
    unfold Yn
    rw [qp q0,qq a,qq (qlh q0 b)]
end Go.Sh
namespace Go.Sh
open Go Go.Am
def hasB (l : List qg) (x y z : Int) : Prop:=∃ b∈l,(b.Lo.X≤x∧x < b.Hi.X)∧(b.Lo.Y≤y∧y < b.Hi.Y)∧(b.Lo.Z≤z∧z < b.Hi.Z)
theorem q2h {z : Int} {b : qg} : covB z b = true↔b.Lo.Z≤z∧z < b.Hi.Z:=by simp [covB]
theorem qfw {l : List qg} {z : Int} {r : qi} : r∈atB l z↔∃ b∈l,(b.Lo.Z≤z∧z < b.Hi.Z)∧r = Jj b:=by
  unfold atB
  rw [List.mem_flatMap]
  constructor
  · rintro ⟨b,hb,h⟩
    split at h
    · rename_i a;exact ⟨b,hb,q2h.1 a,by simpa using h⟩
    · cases h
  · rintro ⟨b,hb,a,rfl⟩
    exact ⟨b,hb,by rw [qq (q2h.2 a)];simp⟩
theorem q3v {l : List qg} {x y z : Int} : hasR (atB l z) x y↔hasB l x y z:=by
  constructor
  · rintro ⟨r,h,c,f,d,g⟩
    obtain ⟨b,hb,a,rfl⟩:=qfw.1 h
    exact ⟨b,hb,⟨c,f⟩,⟨d,g⟩,a⟩
  · rintro ⟨b,hb,⟨c,f⟩,⟨d,g⟩,a⟩
    exact ⟨Jj b,qfw.2 ⟨b,hb,a,rfl⟩,c,f,d,g⟩
theorem q2r (x y z : Int) : ¬ hasB [] x y z:=by rintro ⟨r,h,_⟩;cases h
theorem qpb (a b : List qg) (z : Int) : atB (a ++ b) z = atB a z ++ atB b z:=by simp [atB]
theorem qpc (s : List qi) (lo hi z : Int) : atB (s.map (putB lo hi)) z = if lo≤z∧z < hi then s else []:=by
  induction s with
  | nil=>simp [atB]
  | cons t s ih=>
    have e : atB (List.map (putB lo hi) (t::s)) z = (if covB z (putB lo hi t) = true then [t] else []) ++ atB (s.map (putB lo hi)) z:=rfl
    rw [e,ih]
    have : covB z (putB lo hi t) = (decide (lo≤z) && decide (z < hi)):=rfl
    rw [this]
    by_cases b : lo≤z <;> by_cases a : z < hi <;> simp [b,a]
theorem q8h : ∀ {b : List (Grp qi)},CanG b→∀ z,atB (Y6 putB b) z = secG b z
  | [],_,z=>rfl
  | g::r,h,z=>by
    have e : Y6 putB (g::r) = g.sec.map (putB g.lo g.hi) ++ Y6 putB r:=rfl
    rw [e,qpb,qpc,q8h h.tail z]
    by_cases a : g.lo≤z∧z < g.hi
    · rw [qq a,secG,qq a,q38 (y:=g.hi) (fun m c=>(h.nxt m c).1) a.2,List.append_nil]
    · rw [qp a,secG,qp a,List.nil_append]
theorem qi2 {l : List qg} {a x : Int} (h : ∀ r∈l,covB a r = covB x r) : atB l a = atB l x:=by
  induction l with
  | nil=>rfl
  | cons r l ih=>
    have e : ∀ y,atB (r::l) y = (if covB y r = true then [Jj r] else []) ++ atB l y:=fun _=>rfl
    rw [e,e,h r qe,ih fun k b=>h k (by simp [b])]
theorem qbo {l : List qg} {x : Int} (h : ∀ r∈l,covB x r = false) : atB l x = []:=by
  induction l with
  | nil=>rfl
  | cons r l ih=>
    have e : atB (r::l) x = (if covB x r = true then [Jj r] else []) ++ atB l x:=rfl
    rw [e,h r qe,ih fun k a=>h k (by simp [a])];rfl
theorem qlb {p q : List qg} {r : qg} (h : r∈p∨r∈q) : r.Lo.Z∈zsOf p ++ zsOf q∧r.Hi.Z∈zsOf p ++ zsOf q:=by
  unfold zsOf
  simp only [List.mem_append,List.mem_flatMap]
  rcases h with h | h
  · exact ⟨.inl ⟨r,h,qe⟩,.inl ⟨r,h,qe⟩⟩
  · exact ⟨.inr ⟨r,h,qe⟩,.inr ⟨r,h,qe⟩⟩
theorem qg3 (kind : Int) : mrgR kind [] [] = []:=by
  refine qeh (qci kind qe) .nil fun x y=>?_
  rw [qc5 kind qe]
  have:=qfd x y
  unfold Y2;simp [this]
theorem qle (kind : Int) {p q : List qg} (h : p.length + q.length≤100000) :
    ∃ f,mrgB kind p q = Y6 putB f∧CanG f∧∀ z,secG f z = secB kind p q z:=by
  have s:=Zx p
  have u:=Zx q
  have hs:=(Jy (l:=zsOf p ++ zsOf q) (by simp;omega)).2.1
  obtain ⟨f,o,m,k⟩:=qlc putB (secB kind p q) hs.1
  refine ⟨f,o,m,fun x=>?_⟩
  rw [k]
  have g : ∀ r,(r∈p∨r∈q)→r.Lo.Z∈Qx (zsOf p ++ zsOf q)∧r.Hi.Z∈Qx (zsOf p ++ zsOf q):=fun r b=>
    ⟨(hs.2 _).2 (qlb b).1,(hs.2 _).2 (qlb b).2⟩
  refine qd1 _ hs.1 (fun a _ n c=>?_) (fun c=>?_) (fun c=>?_)
  · have d : ∀ r,(r∈p∨r∈q)→covB a r = covB x r:=fun r b=>by
      have j:=c _ (g r b).1
      have t:=c _ (g r b).2
      rw [Bool.eq_iff_iff,q2h,q2h];omega
    unfold secB
    rw [qi2 fun r b=>d r (.inl b),qi2 fun r b=>d r (.inr b)]
  · have d : ∀ r,(r∈p∨r∈q)→covB x r = false:=fun r b=>by
      have j:=c _ (g r b).1
      rw [← Bool.not_eq_true,q2h];omega
    unfold secB
    rw [qbo fun r b=>d r (.inl b),qbo fun r b=>d r (.inr b),qg3]
  · have d : ∀ r,(r∈p∨r∈q)→covB x r = false:=fun r b=>by
      have j:=c _ (g r b).2
      rw [← Bool.not_eq_true,q2h];omega
    unfold secB
    rw [qbo fun r b=>d r (.inl b),qbo fun r b=>d r (.inr b),qg3]
def CanB (l : List qg) : Prop:=∃ gs : List (Grp qi),l = Y6 putB gs∧CanG gs∧∀ g∈gs,CanR g.sec
theorem CanB.nil : CanB []:=⟨[],rfl,⟨qe,qe⟩,qe⟩
theorem CanB.at {l : List qg} (h : CanB l) (z : Int) : CanR (atB l z):=by
  obtain ⟨b,rfl,c,d⟩:=h
  rw [q8h c]
  rcases qgs (x:=z) b with e | ⟨g,a,_,_,e⟩
  · rw [e];exact .nil
  · rw [e];exact d g a
theorem qef {a b : List qg} (c : CanB a) (hb : CanB b) (h : ∀ x y z,hasB a x y z↔hasB b x y z) : a = b:=by
  have g : ∀ z,atB a z = atB b z:=fun z=>qeh (c.at z) (hb.at z) fun x y=>by rw [q3v,q3v];exact h x y z
  obtain ⟨j,rfl,d,_⟩:=c
  obtain ⟨k,rfl,f,_⟩:=hb
  rw [qeg d f fun x=>by rw [← q8h d,← q8h f];exact g x]
theorem qi4 {p q : List qg} (h : p.length + q.length≤100000) (z : Int) : (atB p z).length + (atB q z).length≤100000:=by
  have:=U8 p z;have:=U8 q z;omega
theorem q95 (kind : Int) {p q : List qg} (h : p.length + q.length≤100000) : CanB (mrgB kind p q):=by
  obtain ⟨c,f,a,d⟩:=qle kind h
  refine ⟨c,f,a,fun g b=>?_⟩
  have:=d g.lo
  rw [qgr a g b _ (Int.le_refl _) (a.1 g b).1] at this
  rw [this];exact qci kind (qi4 h _)
theorem qi3 (kind : Int) {p q : List qg} (h : p.length + q.length≤100000) (z : Int) : atB (mrgB kind p q) z = secB kind p q z:=by
  obtain ⟨d,c,b,a⟩:=qle kind h
  rw [c,q8h b,a]
theorem qc4 (kind : Int) {p q : List qg} (h : p.length + q.length≤100000) (x y z : Int) : hasB (mrgB kind p q) x y z↔Y2 kind (hasB p x y z) (hasB q x y z):=by
  rw [← q3v,qi3 kind h,secB,qc5 kind (qi4 h z),q3v,q3v]
theorem qkf {l : List qg} (h : l.length≤100000) (x y z : Int) : hasB (mrgB 2 l []) x y z↔hasB l x y z:=by
  rw [qc4 2 (by simpa using h),q3w];simp [q2r]
theorem qtn {l : List qg} (a : l.length≤100000) (h : CanB l) : mrgB 2 l [] = l:=
  qef (q95 2 (by simpa using a)) h fun x y z=>qkf a x y z
theorem CanB.lt {l : List qg} (h : CanB l) : ∀ b∈l,b.Lo.X < b.Hi.X∧b.Lo.Y < b.Hi.Y∧b.Lo.Z < b.Hi.Z:=by
  obtain ⟨k,rfl,c,j⟩:=h
  intro r f
  obtain ⟨g,a,t,d,rfl⟩:=ql8.1 f
  have:=(j g a).lt t d
  exact ⟨this.1,this.2,(c.1 g a).1⟩
def vB (b : qg) : Prop:=(b.Lo.X < b.Hi.X∧b.Lo.Y < b.Hi.Y∧b.Lo.Z < b.Hi.Z)∧(-1000000≤b.Lo.X∧-1000000≤b.Lo.Y∧-1000000≤b.Lo.Z)∧b.Hi.X≤1000000∧b.Hi.Y≤1000000∧b.Hi.Z≤1000000
instance (b : qg) : Decidable (vB b):=by unfold vB;infer_instance
def InB (l : List qg) : Prop:=∀ x y z,hasB l x y z→(-1000000≤x∧x < 1000000)∧(-1000000≤y∧y < 1000000)∧(-1000000≤z∧z < 1000000)
theorem qhd {l : List qg} (h : ∀ r∈l,vB r) : InB l:=by
  rintro x y z ⟨r,a,b⟩
  have:=h r a
  unfold vB at this;omega
theorem CanB.vB {l : List qg} (h : CanB l) (hi : InB l) : ∀ r∈l,vB r:=by
  intro r a
  have b:=h.lt r a
  have d:=hi r.Lo.X r.Lo.Y r.Lo.Z ⟨r,a,q0⟩
  have c:=hi (r.Hi.X - 1) (r.Hi.Y - 1) (r.Hi.Z - 1) ⟨r,a,q0⟩
  unfold Go.Sh.vB;omega
theorem InB.mrg {kind : Int} {p q : List qg} (h : p.length + q.length≤100000) (hp : InB p) (c : InB q) : InB (mrgB kind p q):=fun x y z b=>by
  rcases qfg ((qc4 kind h x y z).1 b) with a | a
  · exact hp x y z a
  · exact c x y z a
theorem InB.nil : InB []:=fun x y z h=>absurd h (q2r x y z)
theorem qoq {l : List qg} (h : ∀ b∈l,vB b) (z : Int) : ∀ r∈atB l z,vR r:=by
  intro r a
  obtain ⟨b,hb,_,rfl⟩:=qfw.1 a
  have:=h b hb
  unfold vB at this;unfold vR Jj;simp only;omega
theorem InB.at {l : List qg} (h : InB l) (z : Int) : InR (atB l z):=fun x y a=>by
  have:=h x y z (q3v.1 a);exact ⟨this.1,this.2.1⟩
noncomputable def K0 (l : List qg) : Int:=if 400 < l.length then 4 else if ∀ b∈l,vB b then (if mrgB 2 l [] = l then 0 else 8) else 8
theorem Yd {l : List qg} : K0 l = 0↔l.length≤400∧(∀ b∈l,vB b)∧CanB l:=by
  unfold K0
  constructor
  · intro h
    split at h
    · exact absurd h qx
    · rename_i d
      split at h
      · rename_i a
        split at h
        · rename_i c
          exact ⟨q0,a,c ▸ q95 2 (by simp;omega)⟩
        · exact absurd h qx
      · exact absurd h qx
  · rintro ⟨d,a,c⟩
    rw [qp q0,qq a,qq (qtn q0 c)]
theorem qn3 (kind : Int) {p q : List qg} (h : p.length + q.length≤100000) (z : Int) : (secB kind p q z).length≤(mrgB kind p q).length:=by
  rw [← qi3 kind h];exact U8 _ _
theorem qyh (kind : Int) {p q : List qi} (h : p.length + q.length≤100000) (x : Int) : (secJ kind p q x).length≤(mrgR kind p q).length:=by
  rw [← qj5 kind h];exact Us _ _
noncomputable def mkB (l : List qg) : List qg × Int:=if 400 < l.length then ([],4) else if ∀ b∈l,vB b then (if 400 < (mrgB 2 l []).length then ([],4) else (mrgB 2 l [],0)) else ([],8)
noncomputable def jB (kind : Int) (p q : List qg) : List qg × Int:=
  if K0 p≠0 then ([],K0 p) else if K0 q≠0 then ([],K0 q) else if 400 < (mrgB kind p q).length then ([],4) else (mrgB kind p q,0)
noncomputable def mkR (l : List qi) : List qi × Int:=if 400 < l.length then ([],4) else if ∀ b∈l,vR b then (if 400 < (mrgR 2 l []).length then ([],4) else (mrgR 2 l [],0)) else ([],8)
noncomputable def jR (kind : Int) (p q : List qi) : List qi × Int:=
  if Yn p≠0 then ([],Yn p) else if Yn q≠0 then ([],Yn q) else if 400 < (mrgR kind p q).length then ([],4) else (mrgR kind p q,0)
end Go.Sh
