/- Pt1 Pt2 Pt3 Pt4 Pt5 Pt6 Pt7 Qa1 Qa2 Qa3 -/
import Derived.Test.YtbknppciefodiaaGreatK10
namespace Go.Sh
open Go Go.Am
theorem Zh {α β : Type} {f : α→Option (α ⊕ β)} (st : Nat→α) (n : Nat) (b : β) (hs : ∀ k,k < n→f (st k) = some (.inl (st (k + 1)))) (hd : f (st n) = some (.inr b)) : ∀ {k : Nat},k≤n→loop f (st k) = some b:=by
  have key : ∀ m k,n - k = m→k≤n→loop f (st k) = some b:=by
    intro m
    induction m with
    | zero => intro k c a; obtain rfl : k = n := by omega
              exact K7 hd
    | succ m ih=>intro k c a;rw [Kr (hs k q0)];exact ih (k + 1) q0 q0
  intro k a
  exact key _ k rfl a
theorem w64s {k : Nat} {n : Nat} (h : k < n) (a : n≤1000000) : w64 ((k : Int) + 1) = ((k + 1 : Nat) : Int):=by rw [Qe q0];omega
theorem dlt {k n : Nat} (h : k < n) : decide ((k : Int) < (n : Int)) = true:=decide_eq_true q0
theorem dnl {n : Nat} : decide ((n : Int) < (n : Int)) = false:=decide_eq_false q0
theorem Jg {α β γ : Type} (src : List α) (b : src.length≤1000000) (h : α→List γ) (out : List γ) (fin : List γ→β) (f : Int × List γ→Option ((Int × List γ) ⊕ β))
    (hs : ∀ (k : Nat) (a : k < src.length) (o : List γ),o = out ++ (src.take k).flatMap h→f ((k : Int),o) = some (.inl (((k + 1 : Nat) : Int),o ++ h src[k])))
    (hd : ∀ o,f ((src.length : Int),o) = some (.inr (fin o))) : loop f (0,out) = some (fin (out ++ src.flatMap h)):=by
  have e : ∀ k (a : k < src.length),(src.take (k + 1)).flatMap h = (src.take k).flatMap h ++ h src[k]:=fun k a=>by
    rw [List.take_succ_eq_append_getElem a,List.flatMap_append,List.flatMap_cons,List.flatMap_nil,List.append_nil]
  have:=Zh (f:=f) (fun k=>((k : Int),out ++ (src.take k).flatMap h)) src.length (fin (out ++ src.flatMap h)) (fun k a=>by
    rw [hs k a _ rfl,e k a,List.append_assoc]) (by simp only [List.take_length];exact hd _) (Nat.zero_le _)
  simpa using this
theorem q8q {α β γ : Type} (src : List α) (h : α→γ) (out : List γ) (fin : List γ→β) (f : Int × List γ→Option ((Int × List γ) ⊕ β))
    (hs : ∀ (k : Nat) (a : k < src.length) (o : List γ),o.length = out.length + k→f ((k : Int),o) = some (.inl (((k + 1 : Nat) : Int),o ++ [h src[k]])))
    (hd : ∀ o,f ((src.length : Int),o) = some (.inr (fin o))) : loop f (0,out) = some (fin (out ++ src.map h)):=by
  have e : ∀ k (a : k < src.length),(src.take (k + 1)).map h = (src.take k).map h ++ [h src[k]]:=fun k a=>by
    rw [List.take_succ_eq_append_getElem a,List.map_append,List.map_cons,List.map_nil]
  have:=Zh (f:=f) (fun k=>((k : Int),out ++ (src.take k).map h)) src.length (fin (out ++ src.map h)) (fun k a=>by
    rw [hs k a _ (by simp;omega),e k a,List.append_assoc]) (by simp only [List.take_length];exact hd _) (Nat.zero_le _)
  simpa using this
theorem qbo {γ : Type} (g : γ→γ) (a b : List γ) (l : (a ++ b).length≤1000000) (f : Int × List γ→Option ((Int × List γ) ⊕ (List γ)))
    (hs : ∀ (k : Nat) (o : List γ) (h : k < o.length),o.length = (a ++ b).length→f ((k : Int),o) = some (.inl (((k + 1 : Nat) : Int),o.set k (g o[k]))))
    (hd : ∀ o : List γ,f ((o.length : Int),o) = some (.inr o)) : loop f ((a.length : Int),a ++ b) = some (a ++ b.map g):=by
  have m : a.length + b.length≤1000000:=by simpa using l
  have key:=Zh (f:=f) (fun k=>(((a.length + k : Nat) : Int),a ++ ((b.take k).map g ++ b.drop k))) b.length (a ++ b.map g) (fun k h=>by
    have c : (a ++ ((b.take k).map g ++ b.drop k)).length = (a ++ b).length:=by simp;omega
    have d : a.length + k < (a ++ ((b.take k).map g ++ b.drop k)).length:=by rw [c];simp;omega
    rw [hs (a.length + k) _ d c]
    have j : ((b.take k).map g).length = k:=by simp;omega
    have e : (a ++ ((b.take k).map g ++ b.drop k))[a.length + k]'d = b[k]:=by
      rw [List.getElem_append_right q0]
      rw [List.getElem_append_right (by rw [j];omega)]
      simp [List.length_take,Nat.min_eq_left (Nat.le_of_lt h)]
    rw [e]
    congr 4
    rw [List.set_append,if_neg q0,List.set_append,if_neg (by rw [j];omega),j]
    have z : a.length + k - a.length - k = 0:=by omega
    rw [z,List.take_succ_eq_append_getElem h,List.drop_eq_getElem_cons h,List.set_cons_zero,List.map_append,List.map_cons,List.map_nil,List.append_assoc]
    rfl) (by
    simp only [List.take_length,List.drop_length,List.append_nil]
    have:=hd (a ++ b.map g)
    simpa using this) (Nat.zero_le _)
  simpa using key
theorem Yy {α γ υ : Type} (l : List α) (c : α→Bool) (g : (k : Nat)→k < l.length→γ) (u : υ) (f : Int→Option (Int ⊕ (υ ⊕ γ)))
    (hs : ∀ (k : Nat) (h : k < l.length),f (k : Int) = some (if c l[k] = true then .inr (.inr (g k h)) else .inl ((k + 1 : Nat) : Int))) (hd : f (l.length : Int) = some (.inr (.inl u))) :
    ((∀ v∈l,c v = false)∧loop f 0 = some (.inl u))∨∃ k,∃ h : k < l.length,c l[k] = true∧(∀ j (d : j < k),c (l[j]'(q0)) = false)∧loop f 0 = some (.inr (g k h)):=by
  by_cases p : ∀ v∈l,c v = false
  · refine .inl ⟨p,?_⟩
    exact Zh (f:=f) (fun k=>(k : Int)) l.length _ (fun k b=>by rw [hs k b,p _ (List.getElem_mem b)];rfl) hd (Nat.zero_le _)
  · refine .inr ?_
    have : ∃ k,∃ h : k < l.length,c l[k] = true:=by
      refine Classical.byContradiction fun r=>p fun v s=>?_
      obtain ⟨k,b,rfl⟩:=List.getElem_of_mem s
      cases o : c l[k]
      · rfl
      · exact absurd ⟨k,b,o⟩ r
    have m : ∃ k,(∃ h : k < l.length,c l[k] = true)∧∀ j,j < k→¬ ∃ h : j < l.length,c l[j] = true:=by
      obtain ⟨k,b⟩:=this
      induction k using Nat.strongRecOn with
      | _ k ih=>
        by_cases d : ∃ j,j < k∧∃ h : j < l.length,c l[j] = true
        · obtain ⟨j,q,m⟩:=d;exact ih j q m
        · exact ⟨k,b,fun j q m=>d ⟨j,q,m⟩⟩
    obtain ⟨k,⟨b,o⟩,n⟩:=m
    have a : ∀ j (d : j < k),c (l[j]'(q0)) = false:=fun j d=>by
      cases h : c (l[j]'(q0))
      · rfl
      · exact absurd ⟨q0,h⟩ (n j d)
    refine ⟨k,b,o,a,?_⟩
    exact Zh (f:=f) (fun k=>(k : Int)) k _ (fun j d=>by rw [hs j q0,a j d];rfl) (by rw [hs k b,if_pos o]) (Nat.zero_le _)
theorem qnc : ∀ {l a b : List Int},Yq l a→Yq l b→a = b:=by
  have key : ∀ (a b : List Int),a.Pairwise (· < ·)→b.Pairwise (· < ·)→(∀ x,x∈a↔x∈b)→a = b:=by
    intro a
    induction a with
    | nil=>intro b _ _ h;cases b with
      | nil=>rfl
      | cons y b=>exact absurd ((h y).2 qe) qe
    | cons x a ih=>
      intro b d hb h
      cases b with
      | nil=>exact absurd ((h x).1 qe) qe
      | cons y b=>
        rw [List.pairwise_cons] at d hb
        have j : x = y:=by
          rcases List.mem_cons.1 ((h x).1 qe) with c | c
          · exact c
          · rcases List.mem_cons.1 ((h y).2 qe) with g | g
            · exact g.symm
            · have:=hb.1 _ c;have:=d.1 _ g;omega
        subst j
        rw [ih b d.2 hb.2 fun z=>?_]
        constructor
        · intro f
          rcases List.mem_cons.1 ((h z).1 (by simp [f])) with c | c
          · have:=d.1 _ f;omega
          · exact c
        · intro f
          rcases List.mem_cons.1 ((h z).2 (by simp [f])) with c | c
          · have:=hb.1 _ f;omega
          · exact c
  intro l a b d hb
  exact key a b d.1 hb.1 fun x=>(d.2 x).trans (hb.2 x).symm
def ltI (a b : Int) : Bool:=decide (a < b)
theorem swoI : Sort.SWO ltI where
  irrefl:=by intro x;simp [ltI]
  trans:=by intro x y z;simp only [ltI,decide_eq_true_eq];omega
  ntrans:=by intro x y z;simp only [ltI,decide_eq_false_iff_not];omega
theorem cmpI : Ko qO ltI (fun _=>True):=by
  intro x y _ _
  refine ⟨sg x y,rfl,?_⟩
  rw [Zv];rfl
theorem qnb (l : List Int) (c : l.length≤1000000) : ∃ ys,Jt l = some ys∧ys.Perm l∧ys.Pairwise (·≤·):=by
  obtain ⟨ys,g,d,f⟩:=qna cmpI swoI l c (fun _ _=>trivial)
  refine ⟨ys,by rw [qz2];exact g,d,f.imp ?_⟩
  intro a b h
  simp only [ltI,decide_eq_false_iff_not] at h
  omega
end Go.Sh
namespace Go.Sh
open Go Go.Am
structure CInv (p : List Int) (k k2 i : Nat) (a : List Int) : Prop where
  len : a.length = p.length
  hi : i≤k + k2 - 1
  same : ∀ j (h : j < p.length),k + k2 - 1≤j→a[j]? = some p[j]
  so : Yq (p.take (k + k2)) (a.take i)
theorem qqd {p : List Int} (hp : p.Pairwise (·≤·)) (hl : p.length≤1000000) {k b i : Nat} {a : List Int} (hk : 0 < k) (h2 : 0 < b) (s : k + b < p.length) (h : CInv p k b i a) :
    ∃ (z : Nat) (a' : List Int),q1j ((i : Int),(k,p.length - k),(b : Int),a) = some (.inl ((z : Int),(k,p.length - k),((b + 1 : Nat) : Int),a'))∧CInv p k (b + 1) z a':=by
  obtain ⟨h1,h3,q,h5,w⟩:=h
  have hb : decide ((b : Int) < ((p.length - k : Nat) : Int)) = true:=dlt q0
  have r1 : idxW a (k,p.length - k) (b : Int) = some (p[k + b]):=by
    unfold idxW;rw [if_pos ⟨q0,q0⟩]
    simp only [Int.toNat_natCast]
    exact q (k + b) s q0
  have r2 : idxW a (k,p.length - k) (w64 ((b : Int) - 1)) = some (p[k + b - 1]):=by
    rw [Qe q0]
    have e : (b : Int) - 1 = ((b - 1 : Nat) : Int):=by omega
    rw [e];unfold idxW;rw [if_pos ⟨q0,q0⟩]
    simp only [Int.toNat_natCast]
    have:=q (k + b - 1) q0 q0
    rw [show k + (b - 1) = k + b - 1 by omega];exact this
  have ah : p[k + b - 1]≤p[k + b]:=List.pairwise_iff_getElem.1 hp _ _ q0 s q0
  have d : p[k + b - 1]∈p.take (k + b):=by
    rw [List.mem_take_iff_getElem];exact ⟨k + b - 1,q0,rfl⟩
  have g : p.take (k + (b + 1)) = p.take (k + b) ++ [p[k + b]]:=by rw [← Nat.add_assoc,List.take_succ_eq_append_getElem s]
  have hw : w64 ((b : Int) + 1) = ((b + 1 : Nat) : Int):=w64s (n:=p.length) q0 hl
  by_cases r : p[k + b] = p[k + b - 1]
  · refine ⟨i,a,?_,h1,q0,fun j o u=>q j o q0,?_⟩
    · have c : (p[k + b] != p[k + b - 1]) = false:=by rw [r];simp
      simp only [q1j,hb,cond_true,r1,r2,Option.bind_some,c,cond_false,hw]
    · rw [g]
      refine ⟨h5,fun x=>?_⟩
      rw [w x]
      constructor
      · intro m;exact List.mem_append.2 (.inl m)
      · intro m
        rcases List.mem_append.1 m with h | h
        · exact h
        · simp only [List.mem_singleton] at h;rw [h,r];exact d
  · have c : (p[k + b] != p[k + b - 1]) = true:=by simpa using r
    have l : i < a.length:=by omega
    have r3 : idx a (i : Int) = some a[i]:=Qi l
    have v : w64 ((i : Int) + 1) = ((i + 1 : Nat) : Int):=w64s (n:=p.length) q0 hl
    refine ⟨i + 1,a.set i p[k + b],?_,by simpa using h1,q0,fun j o u=>?_,?_⟩
    · simp only [q1j,hb,cond_true,r1,r2,Option.bind_some,c,r3,hw,v,Int.toNat_natCast]
    · rw [List.getElem?_set_ne q0];exact q j o q0
    · have e : (a.set i p[k + b]).take (i + 1) = a.take i ++ [p[k + b]]:=by
        rw [List.take_succ_eq_append_getElem (by simpa using l)]
        simp [List.take_set_of_le]
      rw [e,g]
      refine ⟨?_,fun x=>?_⟩
      · rw [List.pairwise_append]
        refine ⟨h5,qe,fun x m y hy=>?_⟩
        simp only [List.mem_singleton] at hy;subst hy
        have f:=(w x).1 m
        rw [List.mem_take_iff_getElem] at f
        obtain ⟨j,o,rfl⟩:=f
        have : p[j]≤p[k + b - 1]:=by
          by_cases t : j = k + b - 1
          · subst t;exact Int.le_refl _
          · exact List.pairwise_iff_getElem.1 hp _ _ q0 q0 q0
        omega
      · rw [List.mem_append,List.mem_append,w x]
theorem qqc {p : List Int} (hp : p.Pairwise (·≤·)) (s : p.length≤1000000) {k : Nat} (w : 0 < k) (t : k < p.length) (o : Yq (p.take (k + 1)) (p.take k)) :
    ∃ i : Nat,∃ a : List Int,loop q1j ((k : Int),(k,p.length - k),1,p) = some ((i : Int),a)∧a.length = p.length∧i≤p.length∧Yq p (a.take i):=by
  have h:=Zs (f:=q1j) (mk:=fun d (c : Nat × List Int)=>((c.1 : Int),(k,p.length - k),((d : Nat) : Int),c.2)) (p.length - k) (fun d c=>0 < d∧CInv p k d c.1 c.2)
    (fun b=>∃ i : Nat,∃ a : List Int,b = ((i : Int),a)∧a.length = p.length∧i≤p.length∧Yq p (a.take i))
    (fun d c r g=>by
      obtain ⟨m,a',n,y⟩:=qqd hp s w g.1 q0 g.2
      exact .inl ⟨(m,a'),n,q0,y⟩)
    (fun c g=>by
      obtain ⟨l,x,h3,z,q⟩:=g
      refine ⟨((c.1 : Int),c.2),?_,c.1,c.2,rfl,x,q0,?_⟩
      · simp only [q1j,dnl,cond_false]
      · rwa [List.take_of_length_le q0] at q)
    (k0:=1) (c0:=(k,p)) q0 ⟨q0,rfl,qe,fun j v _=>by simp [v],o⟩
  obtain ⟨b,hb,i,a,rfl,u⟩:=h
  exact ⟨i,a,hb,u⟩
theorem qid {p : List Int} (hp : p.Pairwise (·≤·)) (y : p.length≤1000000) :
    ∃ w a,Ur p = some ((0,w),a)∧a.length = p.length∧w≤p.length∧Yq p (a.take w):=by
  unfold Ur
  by_cases hs : p.length < 2
  · rw [decide_eq_true (by omega : (p.length : Int) < 2),cond_true]
    refine ⟨p.length,p,rfl,rfl,Nat.le_refl _,?_⟩
    rw [List.take_length]
    refine ⟨?_,fun x=>Iff.rfl⟩
    match p,hs with
    | [],_=>simp
    | [x],_=>simp
  rw [decide_eq_false (by omega : ¬ (p.length : Int) < 2),cond_false]
  have c : ∀ k,k≤p.length→(∀ j (g : j < k),0 < j→∀ h : j < p.length,p[j]≠p[j - 1])→Yq (p.take k) (p.take k):=by
    intro k o q
    refine ⟨?_,fun x=>Iff.rfl⟩
    rw [List.pairwise_iff_getElem]
    intro i j hi g ag
    simp only [List.length_take] at hi g
    simp only [List.getElem_take]
    have l : p[j - 1]≤p[j]:=List.pairwise_iff_getElem.1 hp _ _ q0 q0 q0
    have r:=q j q0 q0 q0
    have h3 : p[i]≤p[j - 1]:=by
      by_cases e : i = j - 1
      · subst e;exact Int.le_refl _
      · exact List.pairwise_iff_getElem.1 hp _ _ q0 q0 q0
    omega
  have b : ∀ k,0 < k→∀ h : k < p.length,p[k]≠p[k - 1]→J7 p (k : Int) = some (.inl ((k + 1 : Nat) : Int)):=by
    intro k d h q
    have u : idx p (w64 ((k : Int) - 1)) = some (p[k - 1]):=by rw [Qe q0];exact Zr q0 q0
    have hb : (p[k] == p[k - 1]) = false:=by simpa using q
    simp only [J7,dlt h,cond_true,Qi h,u,Option.bind_some,hb,cond_false,w64s h y]
  by_cases v : ∀ j,0 < j→∀ h : j < p.length,p[j]≠p[j - 1]
  · have l : loop (J7 p) 1 = some (.inl ()):=by
      exact Zh (f:=J7 p) (fun k=>((k + 1 : Nat) : Int)) (p.length - 1) _ (fun k o=>by
        exact b (k + 1) q0 q0 (v (k + 1) q0 q0)) (by
        show J7 p (((p.length - 1) + 1 : Nat) : Int) = _
        rw [show p.length - 1 + 1 = p.length by omega]
        simp only [J7,dnl,cond_false]) (Nat.zero_le _)
    rw [l]
    refine ⟨p.length,p,rfl,rfl,Nat.le_refl _,?_⟩
    have:=c p.length (Nat.le_refl _) fun j _ d h=>v j d h
    rw [List.take_length] at this ⊢;exact this
  · have r : ∃ k,(0 < k∧∃ h : k < p.length,p[k] = p[k - 1])∧∀ j,j < k→¬ (0 < j∧∃ h : j < p.length,p[j] = p[j - 1]):=by
      have : ∃ k,0 < k∧∃ h : k < p.length,p[k] = p[k - 1]:=by
        refine Classical.byContradiction fun hn=>v fun j d h m=>hn ⟨j,d,h,m⟩
      obtain ⟨k,o⟩:=this
      induction k using Nat.strongRecOn with
      | _ k ih=>
        by_cases g : ∃ j,j < k∧(0 < j∧∃ h : j < p.length,p[j] = p[j - 1])
        · obtain ⟨j,l,r⟩:=g;exact ih j l r
        · exact ⟨k,o,fun j l r=>g ⟨j,l,r⟩⟩
    obtain ⟨k,⟨d,o,m⟩,n⟩:=r
    have t : Yq (p.take k) (p.take k):=c k q0 fun j g d h m=>n j g ⟨d,h,m⟩
    have s : Yq (p.take (k + 1)) (p.take k):=by
      refine ⟨t.1,fun x=>?_⟩
      rw [List.take_succ_eq_append_getElem o,List.mem_append]
      refine ⟨.inl,fun h=>h.elim id fun h=>?_⟩
      simp only [List.mem_singleton] at h
      rw [h,m,List.mem_take_iff_getElem]
      exact ⟨k - 1,q0,rfl⟩
    obtain ⟨i,a,e1,e2,e3,e4⟩:=qqc hp y d o s
    have s1 : sub2 p.length (k : Int) (p.length : Int) = some (k,p.length - k):=by unfold sub2;rw [if_pos ⟨q0,q0,q0⟩];simp
    have s2 : sub2 a.length (i : Int) (a.length : Int) = some (i,a.length - i):=by unfold sub2;rw [if_pos ⟨q0,q0,q0⟩];simp
    have z : sub2 a.length 0 (i : Int) = some (0,i):=by unfold sub2;rw [if_pos ⟨q0,q0,q0⟩];simp
    have u : idx p (w64 ((k : Int) - 1)) = some (p[k - 1]):=by rw [Qe q0];exact Zr q0 q0
    have l : loop (J7 p) 1 = some (.inr ((0,i),clrw a (i,a.length - i) 0)):=by
      exact Zh (f:=J7 p) (fun k=>((k + 1 : Nat) : Int)) (k - 1) _ (fun j g=>by
        exact b (j + 1) q0 q0 fun m=>n (j + 1) q0 ⟨q0,q0,m⟩) (by
        show J7 p (((k - 1) + 1 : Nat) : Int) = _
        rw [show k - 1 + 1 = k by omega]
        have hb : (p[k] == p[k - 1]) = true:=by simpa using m
        simp only [J7,dlt o,cond_true,Qi o,u,Option.bind_some,hb,s1,e1,s2,z]) (Nat.zero_le _)
    rw [l]
    refine ⟨i,clrw a (i,a.length - i) 0,rfl,by rw [qi4 (by simp;omega)];exact e2,e3,?_⟩
    have : (clrw a (i,a.length - i) 0).take i = a.take i:=by
      unfold clrw splice
      rw [List.append_assoc,List.take_append_of_le_length (by simp;omega)]
      simp [List.take_take]
    rw [this];exact e4
end Go.Sh
namespace Go.Sh
open Go Go.Am
theorem q8h {α : Type} [DecidableEq α] (e : α→α→Bool) (g : ∀ v w,e v w = decide (v = w)) (p q : List α) (r : p.length≤1000000) (f : Int→Option (Int ⊕ (Unit ⊕ Bool)))
    (l : ∀ k,f k = cond (decide (k < (p.length : Int))) ((idx p k).bind fun v=>(idx q k).bind fun w=>cond (!(e v w)) (some (.inr (.inr false))) (some (.inl (w64 (k + 1))))) (some (.inr (.inl ())))) :
    cond ((p.length : Int) != (q.length : Int)) (some false) ((loop f 0).bind fun m=>(match m with | .inl _=>some true | .inr x=>some x)) = some (decide (p = q)):=by
  by_cases a : p.length = q.length
  · have : ((p.length : Int) != (q.length : Int)) = false:=by rw [a];simp
    rw [this,cond_false]
    let c : Nat→Bool:=fun k=>if h : k < p.length then !(e p[k] (q[k]'(q0))) else false
    have hs : ∀ (k : Nat) (h : k < (List.range p.length).length),f (k : Int) = some (if c (List.range p.length)[k] = true then .inr (.inr false) else .inl ((k + 1 : Nat) : Int)):=by
      intro k h
      have h : k < p.length:=by simpa using h
      rw [l]
      simp only [dlt h,cond_true,Qi h,Qi (xs:=q) (k:=k) q0,Option.bind_some,List.getElem_range,c,dif_pos h,w64s h r]
      cases e p[k] (q[k]'(q0)) <;> simp
    have hd : f ((List.range p.length).length : Int) = some (.inr (.inl ())):=by rw [l];simp []
    rcases Yy (List.range p.length) c (fun _ _=>false) () f hs hd with ⟨n,b⟩ | ⟨k,s,j,_,b⟩
    · rw [b]
      have : p = q:=by
        refine List.ext_getElem a fun k d t=>?_
        have:=n k (by simpa using d)
        simp only [c,dif_pos d,g,Bool.not_eq_false',decide_eq_true_eq] at this
        exact this
      simp [this]
    · rw [b]
      have o : k < p.length:=by simpa using s
      have : p≠q:=by
        intro h
        simp only [List.getElem_range,c,g,h] at j
        simp at j
      simp [this]
  · have : ((p.length : Int) != (q.length : Int)) = true:=by simpa using (fun h : (p.length : Int) = q.length=>a q0)
    rw [this,cond_true]
    have : p≠q:=fun h=>a (by rw [h])
    simp [this]
theorem qis (p q : List qj) (a : p.length≤1000000) : q9h p q = some (decide (p = q)):=
  q8h (fun v w=>((v.Lo == w.Lo) && ((v.Hi == w.Hi) && true))) (fun v w=>by cases v;cases w;rw [Bool.eq_iff_iff];simp) p q a (qcq p q) (fun _=>rfl)
theorem qmf (p q : List qj) (a : p.length≤1000000) : q5i p q = some (decide (p = q)):=
  q8h (fun v w=>((v.Lo == w.Lo) && ((v.Hi == w.Hi) && true))) (fun v w=>by cases v;cases w;rw [Bool.eq_iff_iff];simp) p q a (qc9 p q) (fun _=>rfl)
theorem qei (p q : List qi) (a : p.length≤1000000) : q6d p q = some (decide (p = q)):=
  q8h (fun v w=>((v.X0 == w.X0) && ((v.Y0 == w.Y0) && ((v.X1 == w.X1) && ((v.Y1 == w.Y1) && true))))) (fun v w=>by cases v;cases w;rw [Bool.eq_iff_iff];simp) p q a (qco p q) (fun _=>rfl)
theorem qme (p q : List qi) (a : p.length≤1000000) : q5m p q = some (decide (p = q)):=
  q8h (fun v w=>((v.X0 == w.X0) && ((v.Y0 == w.Y0) && ((v.X1 == w.X1) && ((v.Y1 == w.Y1) && true))))) (fun v w=>by cases v;cases w;rw [Bool.eq_iff_iff];simp) p q a (qca p q) (fun _=>rfl)
theorem sameBox (p q : List qg) (a : p.length≤1000000) : q95 p q = some (decide (p = q)):=
  q8h (fun v w=>((v.Lo.X == w.Lo.X) && ((v.Lo.Y == w.Lo.Y) && ((v.Lo.Z == w.Lo.Z) && ((v.Hi.X == w.Hi.X) && ((v.Hi.Y == w.Hi.Y) && ((v.Hi.Z == w.Hi.Z) && true))))))) (fun v w=>by rcases v with ⟨⟨_,_,_⟩,⟨_,_,_⟩⟩;rcases w with ⟨⟨_,_,_⟩,⟨_,_,_⟩⟩;rw [Bool.eq_iff_iff];simp [and_assoc]) p q a (qcd p q) (fun _=>rfl)
structure Mg (σ β : Type) where
  done : List β
  sec : List σ
  lo : Int
  hi : Int
section
variable {σ β : Type} [DecidableEq σ] (put : Int→Int→σ→β)
def Mg.flat (s : Mg σ β) : List β:=s.done ++ s.sec.map (put s.lo s.hi)
def addM (s : Mg σ β) (a b : Int) (c : List σ) : Mg σ β:=if c≠[]∧c = s.sec∧s.hi = a then ⟨s.done,s.sec,s.lo,b⟩ else ⟨s.flat put,c,a,b⟩
def Qq : Mg σ β:=⟨[],[],0,0⟩
def Qs (s0 : Mg σ β) (steps : List (Int × Int × List σ)) : Mg σ β:=steps.foldl (fun s t=>addM put s t.1 t.2.1 t.2.2) s0
theorem q37 {s0 : Mg σ β} {steps : List (Int × Int × List σ)} {i : Nat} (h : i < steps.length) : Qs put s0 (steps.take (i + 1)) = addM put (Qs put s0 (steps.take i)) steps[i].1 steps[i].2.1 steps[i].2.2:=by
  unfold Qs
  rw [List.take_succ_eq_append_getElem h,List.foldl_append];rfl
theorem qh3 (s : Mg σ β) (a b : Int) (c : List σ) : (addM put s a b c).hi = b:=by unfold addM;split <;> rfl
theorem qok (s : Mg σ β) (a b : Int) (c : List σ) : ((addM put s a b c).flat put).length≤(s.flat put).length + c.length:=by
  unfold addM;split
  · simp [Mg.flat]
  · simp [Mg.flat];omega
theorem qbp {s0 : Mg σ β} {M : Nat} : ∀ {steps : List (Int × Int × List σ)},(∀ t∈steps,t.2.2.length≤M)→((Qs put s0 steps).flat put).length≤(s0.flat put).length + steps.length * M:=by
  intro steps
  induction steps generalizing s0 with
  | nil=>intro _;simp [Qs]
  | cons t r ih=>
    intro h
    have f:=ih (s0:=addM put s0 t.1 t.2.1 t.2.2) fun u a=>h u (by simp [a])
    have c:=qok put s0 t.1 t.2.1 t.2.2
    have d:=h t qe
    have b : Qs put s0 (t::r) = Qs put (addM put s0 t.1 t.2.1 t.2.2) r:=rfl
    rw [b]
    simp only [List.length_cons,Nat.succ_mul]
    omega
end
section
variable {σ : Type}
def Yl (cuts : List Int) (sec : Int→List σ) : List (Int × Int × List σ):=(cuts.zip cuts.tail).map fun c=>(c.1,c.2,sec c.1)
theorem q7p (a : List Int) (sec : Int→List σ) : (Yl a sec).length = a.length - 1:=by simp [Yl]
theorem q7o {a : List Int} {sec : Int→List σ} {i : Nat} (h : i < (Yl a sec).length) (b : i + 1 < a.length) : (Yl a sec)[i] = (a[i],a[i + 1],sec a[i]):=by
  simp [Yl]
theorem q11z {a : List Int} {sec : Int→List σ} {M : Nat} (h : ∀ x,(sec x).length≤M) : ∀ t∈Yl a sec,t.2.2.length≤M:=by
  intro t b
  simp only [Yl,List.mem_map] at b
  obtain ⟨c,_,rfl⟩:=b
  exact h _
end
theorem Ux {σ β : Type} [DecidableEq σ] (put : Int→Int→σ→β) (s : Mg σ β) (a b : Int) (c : List σ) : (c≠[]∧c = s.sec∧s.hi = a∧addM put s a b c = ⟨s.done,s.sec,s.lo,b⟩)∨(¬ (c≠[]∧c = s.sec∧s.hi = a)∧addM put s a b c = ⟨s.flat put,c,a,b⟩):=by
  unfold addM
  split
  · rename_i h;exact .inl ⟨h.1,h.2.1,h.2.2,rfl⟩
  · rename_i h;exact .inr ⟨h,rfl⟩
def putR (a b : Int) (t : qj) : qi:={X0:=a,Y0:=t.Lo,X1:=b,Y1:=t.Hi}
theorem qhk (s : Mg qj qi) (a b : Int) (c : List qj) (z : (s.flat putR).length + c.length≤1000000) :
    q61 (s.flat putR) s.sec (s.done.length : Int) s.hi a b c = some ((addM putR s a b c).sec,((addM putR s a b c).done.length : Int),(addM putR s a b c).hi,(addM putR s a b c).flat putR):=by
  have d : s.sec.length≤1000000:=by have : (s.flat putR).length = s.done.length + s.sec.length:=(by simp [Mg.flat]);omega
  unfold q61
  rcases Ux putR s a b c with ⟨m,r,t,p⟩ | ⟨m,p⟩
  · have hb : decide ((c.length : Int) > 0) = true:=decide_eq_true (by have:=List.length_pos_iff.2 m;omega)
    have u : (s.hi == a) = true:=by simpa using t
    rw [r] at hb
    rw [p,r]
    simp only [hb,cond_true,u,Option.bind_some,qis _ _ d,decide_true]
    have:=qbo (fun v : qi=>({X0:=v.X0,Y0:=v.Y0,X1:=b,Y1:=v.Y1} : qi)) s.done (s.sec.map (putR s.lo s.hi)) (by have : (s.done ++ s.sec.map (putR s.lo s.hi)).length = (s.flat putR).length:=rfl;omega) (q62 b) (fun k o f y=>by
      have l : (s.done ++ s.sec.map (putR s.lo s.hi)).length = (s.flat putR).length:=rfl
      simp only [q62,dlt f,cond_true,Qi f,Option.bind_some,w64s f q0,Int.toNat_natCast]) (fun o=>by simp only [q62,dnl,cond_false])
    rw [show s.flat putR = s.done ++ s.sec.map (putR s.lo s.hi) from rfl,this]
    simp only [Option.bind_some,Mg.flat,List.map_map]
    rfl
  · rw [p]
    have x : ((cond (decide ((c.length : Int) > 0)) (some (s.hi == a)) (some false)).bind fun j=>(cond j ((q9h s.sec c).bind fun g=>some g) (some false))) = some false:=by
      by_cases l : c = []
      · subst l;simp
      · have hb : decide ((c.length : Int) > 0) = true:=decide_eq_true (by have:=List.length_pos_iff.2 l;omega)
        simp only [hb,cond_true,Option.bind_some,qis _ _ d]
        by_cases q : s.hi = a
        · have w : s.sec≠c:=fun h=>m ⟨l,h.symm,q⟩
          simp [q,w]
        · have : (s.hi == a) = false:=by simpa using q
          simp [this]
    have n:=q8q c (putR a b) (s.flat putR) (fun o=>(c,((s.flat putR).length : Int),b,o)) (q63 c a b (s.flat putR)) (fun k f o y=>by
      simp only [q63,dlt f,cond_true,Qi f,Option.bind_some,w64s f q0]
      rw [Ky (by simp;omega)]
      rfl) (fun o=>by simp only [q63,dnl,cond_false])
    rw [← Option.bind_assoc,x]
    simp only [Option.bind_some,cond_false,n]
    simp [Mg.flat]
end Go.Sh
namespace Go.Sh
open Go Go.Am
def vR (r : qi) : Prop:=r.X0 < r.X1∧r.Y0 < r.Y1∧-1000000≤r.X0∧r.X0≤1000000∧-1000000≤r.X1∧r.X1≤1000000∧-1000000≤r.Y0∧r.Y0≤1000000∧-1000000≤r.Y1∧r.Y1≤1000000
instance (r : qi) : Decidable (vR r):=by unfold vR;infer_instance
theorem qr6 (x : Int) : q2n x = some (decide (-1000000≤x∧x≤1000000)):=by
  unfold q2n
  by_cases h : x ≥ -1000000 <;> by_cases a : x≤1000000 <;> simp [h,a] <;> omega
theorem qo8 (r : qi) : q66 r = some (decide (vR r)):=by
  unfold q66
  simp only [qr6,qqe,Option.bind_some,vR]
  by_cases f : r.X0 < r.X1 <;> by_cases c : r.Y0 < r.Y1 <;> by_cases d : -1000000≤r.X0∧r.X0≤1000000 <;> by_cases a : -1000000≤r.X1∧r.X1≤1000000 <;> by_cases g : -1000000≤r.Y0∧r.Y0≤1000000 <;> by_cases b : -1000000≤r.Y1∧r.Y1≤1000000 <;> simp [f,c,d,a,g,b] <;> omega
def covR (x : Int) (r : qi) : Bool:=decide (r.X0≤x) && decide (x < r.X1)
def ysp (r : qi) : qj:={Lo:=r.Y0,Hi:=r.Y1}
def covS (l : List qi) (x : Int) : List qj:=l.flatMap fun r=>if covR x r = true then [ysp r] else []
def hasR (l : List qi) (x y : Int) : Prop:=∃ r∈l,r.X0≤x∧x < r.X1∧r.Y0≤y∧y < r.Y1
theorem qby {l : List qi} {x : Int} {t : qj} : t∈covS l x↔∃ r∈l,covR x r = true∧t = ysp r:=by
  unfold covS
  rw [List.mem_flatMap]
  constructor
  · rintro ⟨r,b,h⟩
    split at h
    · rename_i a;simp only [List.mem_singleton] at h;exact ⟨r,b,a,h⟩
    · cases h
  · rintro ⟨r,b,a,rfl⟩;exact ⟨r,b,by simp [a]⟩
theorem Uo {l : List qi} {x y : Int} : has (covS l x) y↔hasR l x y:=by
  unfold has hasR
  constructor
  · rintro ⟨t,g,d,c⟩
    obtain ⟨r,b,a,rfl⟩:=qby.1 g
    simp only [covR,Bool.and_eq_true,decide_eq_true_eq] at a
    exact ⟨r,b,a.1,a.2,d,c⟩
  · rintro ⟨r,b,d,c,h,f⟩
    exact ⟨ysp r,qby.2 ⟨r,b,by simp [covR,d,c],rfl⟩,h,f⟩
theorem Ud (l : List qi) (x : Int) : (covS l x).length≤l.length:=by
  unfold covS
  induction l with
  | nil=>simp
  | cons r l ih=>
    simp only [List.flatMap_cons,List.length_append,List.length_cons]
    have : (if covR x r = true then [ysp r] else []).length≤1:=by split <;> simp
    omega
theorem qii {l : List qi} (h : ∀ r∈l,vR r) (x : Int) : ∀ t∈covS l x,vld t:=by
  intro t d
  obtain ⟨r,a,_,rfl⟩:=qby.1 d
  obtain ⟨_,c,_,_,_,_,f,_,_,b⟩:=h r a
  exact ⟨c,f,b⟩
def xsOf (l : List qi) : List Int:=l.flatMap fun r=>[r.X0,r.X1]
def ysOf (l : List qi) : List Int:=l.flatMap fun r=>[r.Y0,r.Y1]
theorem Jv (l : List qi) : (xsOf l).length = 2 * l.length:=by
  unfold xsOf;induction l with
  | nil=>rfl
  | cons r l ih=>simp only [List.flatMap_cons,List.length_append,List.length_cons,List.length_nil];omega
theorem qb3 (l : List qi) : (ysOf l).length = 2 * l.length:=by
  unfold ysOf;induction l with
  | nil=>rfl
  | cons r l ih=>simp only [List.flatMap_cons,List.length_append,List.length_cons,List.length_nil];omega
theorem qiq {l : List qi} {x y : Int} (h : y∈ends (covS l x)) : y∈ysOf l:=by
  obtain ⟨t,b,h⟩:=q8s.1 h
  obtain ⟨r,a,_,rfl⟩:=qby.1 b
  unfold ysOf
  rw [List.mem_flatMap]
  exact ⟨r,a,by rcases h with h | h <;> simp [h,ysp]⟩
noncomputable def Qp (l : List Int) : List Int:=(Jr l).getD []
theorem Jm {l : List Int} (b : l.length≤1000000) : Jr l = some (Qp l)∧Yq l (Qp l)∧(Qp l).length≤l.length:=by
  obtain ⟨t,a,c,d⟩:=qnd l b
  unfold Qp;rw [a];exact ⟨rfl,c,d⟩
noncomputable def secJ (kind : Int) (p q : List qi) (x : Int) : List qj:=J1 kind (covS p x) (covS q x)
theorem qgb (kind : Int) {p q : List qi} (h : p.length + q.length≤100000) (x : Int) : (secJ kind p q x).length≤2 * (p.length + q.length):=by
  have a:=Ud p x
  have b:=Ud q x
  have:=(q52 kind (covS p x) (covS q x) q0 q0).2.len
  unfold secJ;omega
noncomputable def mrg (kind : Int) (p q : List qi) : Mg qj qi:=Qs putR Qq (Yl (Qp (xsOf p ++ xsOf q)) (secJ kind p q))
noncomputable def mrgR (kind : Int) (p q : List qi) : List qi:=(mrg kind p q).flat putR
theorem qbj {p q : List qi} (h : p.length + q.length≤490) : Jr (xsOf p ++ xsOf q) = some (Qp (xsOf p ++ xsOf q))∧Yq (xsOf p ++ xsOf q) (Qp (xsOf p ++ xsOf q))∧(Qp (xsOf p ++ xsOf q)).length≤2 * (p.length + q.length):=by
  have f:=Jv p
  have d:=Jv q
  obtain ⟨a,b,c⟩:=Jm (l:=xsOf p ++ xsOf q) (by simp;omega)
  exact ⟨a,b,by simp at c;omega⟩
theorem qee {p q : List qi} (h : p.length + q.length≤490) : Jr (ysOf p ++ ysOf q) = some (Qp (ysOf p ++ ysOf q))∧Yq (ysOf p ++ ysOf q) (Qp (ysOf p ++ ysOf q))∧(Qp (ysOf p ++ ysOf q)).length≤2 * (p.length + q.length):=by
  have f:=qb3 p
  have d:=qb3 q
  obtain ⟨a,b,c⟩:=Jm (l:=ysOf p ++ ysOf q) (by simp;omega)
  exact ⟨a,b,by simp at c;omega⟩
theorem qkw (kind : Int) {p q : List qi} (h : p.length + q.length≤490) (i : Nat) :
    ((Qs putR Qq ((Yl (Qp (xsOf p ++ xsOf q)) (secJ kind p q)).take i)).flat putR).length≤980 * 980:=by
  have f:=qbp putR (s0:=Qq) (M:=980) (steps:=(Yl (Qp (xsOf p ++ xsOf q)) (secJ kind p q)).take i) (fun t b=>by
    have:=q11z (M:=2 * (p.length + q.length)) (fun x=>qgb kind q0 x) t (List.mem_of_mem_take b)
    omega)
  have a : ((Yl (Qp (xsOf p ++ xsOf q)) (secJ kind p q)).take i).length≤980:=by
    have:=(qbj h).2.2
    rw [List.length_take,q7p];omega
  have d : (Qq.flat putR : List qi).length = 0:=rfl
  have c : ((Yl (Qp (xsOf p ++ xsOf q)) (secJ kind p q)).take i).length * 980≤980 * 980:=Nat.mul_le_mul_right _ a
  omega
theorem qsn (l : List qi) (hl : l.length≤400) :
    (((idx [l] 0).bind fun g=>(loop (Zu g) (0,[])).bind fun s=>some s).bind fun f=>(Jt f).bind fun c=>(Qu c.length f.length).bind fun m=>(Ur c).bind fun b=>(Qu b.2.length c.length).bind fun q=>(Uv b.2.length b.1).bind fun n=>some ((b.2.drop b.1.1).take b.1.2)) = some (Qp (xsOf l)):=by
  have e0 : idx [l] 0 = some l:=rfl
  have t : loop (Zu l) (0,[]) = some (xsOf l):=by
    have:=Jg l q0 (fun r=>[r.X0,r.X1]) [] (fun o=>o) (Zu l) (fun k j o y=>by
      have h8 : o.length = 2 * k:=by rw [y,List.nil_append];have:=Jv (l.take k);rw [List.length_take,Nat.min_eq_left q0] at this;exact this
      simp only [Zu,dlt j,cond_true,Qi j,Option.bind_some,w64s j q0]
      rw [Ky (by simp;omega)]
      rfl) (fun o=>by simp only [Zu,dnl,cond_false])
    rw [List.nil_append] at this
    exact this
  have hx:=Jv l
  obtain ⟨ys,v,p,u⟩:=qnb (xsOf l) q0
  have h : ys.length = (xsOf l).length:=p.length_eq
  obtain ⟨w,a,c1,c2,c3,c4⟩:=qid u q0
  obtain ⟨_,z,_⟩:=Jm (l:=xsOf l) q0
  have d : a.take w = Qp (xsOf l):=by
    refine qnc (l:=xsOf l) ⟨c4.1,fun x=>?_⟩ z
    rw [c4.2 x];exact p.mem_iff
  simp only [e0,Option.bind_some,t,v,Qu,h,if_true,c1,c2,Uv]
  rw [if_pos q0]
  simp only [Option.bind_some,List.drop_zero,d]
theorem qf9 (l : List qi) (f : l.length≤400) (x : Int) : loop (Ua l x) (0,[]) = some (covS l x):=by
  have:=Jg l q0 (fun r=>if covR x r = true then [ysp r] else []) [] (fun o=>o) (Ua l x) (fun k a o d=>by
    have g : o.length≤k:=by rw [d,List.nil_append];have:=Ud (l.take k) x;rw [List.length_take,Nat.min_eq_left q0] at this;exact this
    simp only [Ua,dlt a,cond_true,Qi a,Option.bind_some,w64s a q0]
    by_cases b : l[k].X0≤x
    · by_cases c : x < l[k].X1
      · simp only [b,c,decide_true,cond_true,Option.bind_some,covR,Bool.and_self,if_true]
        rw [Ky (by simp;omega)]
        rfl
      · simp only [b,c,decide_true,decide_false,cond_true,cond_false,Option.bind_some,covR,Bool.and_false,if_false,Bool.false_eq_true,List.append_nil]
    · simp only [b,decide_false,cond_false,Option.bind_some,covR,Bool.false_and,if_false,Bool.false_eq_true,List.append_nil]) (fun o=>by simp only [Ua,dnl,cond_false])
  rw [List.nil_append] at this
  exact this
theorem qki (l : List qi) (s : l.length≤400) (z : ∀ r∈l,vR r) : q65 l = some (if 400 < (mrgR 2 l []).length then ([],4) else (mrgR 2 l [],0)):=by
  unfold q65
  rw [qsn l s]
  simp only [Option.bind_some]
  have c : Qp (xsOf l ++ xsOf []) = Qp (xsOf l):=by simp [xsOf]
  obtain ⟨_,o,a⟩:=qbj (p:=l) (q:=[]) (by simp;omega)
  have g:=fun i=>qkw 2 (p:=l) (q:=[]) (by simp;omega) i
  rw [c] at o a
  have a : (Qp (xsOf l)).length≤2 * l.length:=by simpa using a
  have d : loop (q2o (Qp (xsOf l)) l) (1,[],0,0,[]) = some ((mrg 2 l []).sec,((mrg 2 l []).done.length : Int),(mrg 2 l []).hi,mrgR 2 l []):=by
    unfold mrgR mrg
    rw [c] at g ⊢
    generalize h : Yl (Qp (xsOf l)) (secJ 2 l []) = steps at g ⊢
    have y : steps.length = (Qp (xsOf l)).length - 1:=by rw [← h];exact q7p _ _
    have j : Qs putR Qq (steps.take steps.length) = Qs putR Qq steps:=by rw [List.take_length]
    have key:=Zh (f:=q2o (Qp (xsOf l)) l) (fun k=>(((k + 1 : Nat) : Int),(Qs putR Qq (steps.take k)).sec,((Qs putR Qq (steps.take k)).done.length : Int),(Qs putR Qq (steps.take k)).hi,(Qs putR Qq (steps.take k)).flat putR))
      steps.length ((Qs putR Qq steps).sec,((Qs putR Qq steps).done.length : Int),(Qs putR Qq steps).hi,(Qs putR Qq steps).flat putR) (fun k v=>by
        have b : k + 1 < (Qp (xsOf l)).length:=by omega
        have w : steps[k] = ((Qp (xsOf l))[k],(Qp (xsOf l))[k + 1],secJ 2 l [] (Qp (xsOf l))[k]):=by
          subst h;exact q7o v b
        have i1 : idx (Qp (xsOf l)) (w64 (((k + 1 : Nat) : Int) - 1)) = some (Qp (xsOf l))[k]:=by rw [Qe q0];exact Zr q0 q0
        have x:=Ud l (Qp (xsOf l))[k]
        have m : q7k (covS l (Qp (xsOf l))[k]) = some (secJ 2 l [] (Qp (xsOf l))[k],0):=by
          rw [qso]
          unfold qfa
          rw [if_neg q0,if_pos (qii z _)]
          rfl
        have n:=qgb 2 (p:=l) (q:=[]) (by simp;omega) (Qp (xsOf l))[k]
        have t:=g k
        have hb:=qhk (Qs putR Qq (steps.take k)) (Qp (xsOf l))[k] (Qp (xsOf l))[k + 1] (secJ 2 l [] (Qp (xsOf l))[k]) (by simp at n;omega)
        rw [q37 putR v,w]
        simp only [q2o,dlt b,cond_true,i1,Qi b,Option.bind_some,show idx [l] 0 = some l from rfl,qf9 l s,m,hb,Bool.not_true,cond_false]
        rw [w64s b q0]) (by
        rw [j]
        by_cases h0 : (Qp (xsOf l)).length = 0
        · have : decide (((steps.length + 1 : Nat) : Int) < ((Qp (xsOf l)).length : Int)) = false:=decide_eq_false q0
          simp only [q2o,this,cond_false]
        · have : decide (((steps.length + 1 : Nat) : Int) < ((Qp (xsOf l)).length : Int)) = false:=decide_eq_false q0
          simp only [q2o,this,cond_false]) (Nat.zero_le _)
    exact key
  rw [d]
  simp only [Option.bind_some]
  by_cases u : 400 < (mrgR 2 l []).length
  · rw [decide_eq_true (by omega : ((mrgR 2 l []).length : Int) > 400),if_pos u];rfl
  · rw [decide_eq_false (by omega : ¬ ((mrgR 2 l []).length : Int) > 400),if_neg u];rfl
end Go.Sh
namespace Go.Sh
open Go Go.Am
theorem qva {p q : List qi} (h : p.length + q.length≤490) : q90 p q = some (Qp (xsOf p ++ xsOf q)):=by
  have d : loop (q3q p) (0,[]) = some (xsOf p):=by
    have:=Jg p q0 (fun r=>[r.X0,r.X1]) [] (fun o=>o) (q3q p) (fun k a o b=>by
      have c : o.length = 2 * k:=by rw [b,List.nil_append];have:=Jv (p.take k);rw [List.length_take,Nat.min_eq_left q0] at this;exact this
      simp only [q3q,dlt a,cond_true,Qi a,Option.bind_some,w64s a q0]
      rw [Ky (by simp;omega)]
      rfl) (fun o=>by simp only [q3q,dnl,cond_false])
    rw [List.nil_append] at this
    exact this
  have f : loop (q3r q) (0,xsOf p) = some (xsOf p ++ xsOf q):=by
    have hp:=Jv p
    exact Jg q q0 (fun r=>[r.X0,r.X1]) (xsOf p) (fun o=>o) (q3r q) (fun k a o b=>by
      have c : o.length = 2 * p.length + 2 * k:=by
        rw [b,List.length_append,hp];have:=Jv (q.take k);rw [List.length_take,Nat.min_eq_left q0] at this
        unfold xsOf at this;omega
      simp only [q3r,dlt a,cond_true,Qi a,Option.bind_some,w64s a q0]
      rw [Ky (by simp;omega)]
      rfl) (fun o=>by simp only [q3r,dnl,cond_false])
  unfold q90
  simp only [d,f,Option.bind_some,(qbj h).1]
theorem qvc {p q : List qi} (h : p.length + q.length≤490) : q91 p q = some (Qp (ysOf p ++ ysOf q)):=by
  have d : loop (q3s p) (0,[]) = some (ysOf p):=by
    have:=Jg p q0 (fun r=>[r.Y0,r.Y1]) [] (fun o=>o) (q3s p) (fun k a o b=>by
      have c : o.length = 2 * k:=by rw [b,List.nil_append];have:=qb3 (p.take k);rw [List.length_take,Nat.min_eq_left q0] at this;exact this
      simp only [q3s,dlt a,cond_true,Qi a,Option.bind_some,w64s a q0]
      rw [Ky (by simp;omega)]
      rfl) (fun o=>by simp only [q3s,dnl,cond_false])
    rw [List.nil_append] at this
    exact this
  have f : loop (q3t q) (0,ysOf p) = some (ysOf p ++ ysOf q):=by
    have hp:=qb3 p
    exact Jg q q0 (fun r=>[r.Y0,r.Y1]) (ysOf p) (fun o=>o) (q3t q) (fun k a o b=>by
      have c : o.length = 2 * p.length + 2 * k:=by
        rw [b,List.length_append,hp];have:=qb3 (q.take k);rw [List.length_take,Nat.min_eq_left q0] at this
        unfold ysOf at this;omega
      simp only [q3t,dlt a,cond_true,Qi a,Option.bind_some,w64s a q0]
      rw [Ky (by simp;omega)]
      rfl) (fun o=>by simp only [q3t,dnl,cond_false])
  unfold q91
  simp only [d,f,Option.bind_some,(qee h).1]
open Classical in
theorem qlo (l : List qi) (x y : Int) (m : l.length≤1000000) : q5j l x y = some (decide (hasR l x y)):=by
  let c : qi→Bool:=fun r=>decide (r.X0≤x) && (decide (x < r.X1) && (decide (r.Y0≤y) && decide (y < r.Y1)))
  have hs : ∀ (k : Nat) (h : k < l.length),q2i l x y (k : Int) = some (if c l[k] = true then .inr (.inr true) else .inl ((k + 1 : Nat) : Int)):=by
    intro k h
    simp only [q2i,dlt h,cond_true,Qi h,Option.bind_some,w64s h m,c]
    by_cases d : l[k].X0≤x <;> by_cases b : x < l[k].X1 <;> by_cases o : l[k].Y0≤y <;> by_cases n : y < l[k].Y1 <;> simp [d,b,o,n]
  have hd : q2i l x y (l.length : Int) = some (.inr (.inl ())):=by simp only [q2i,dnl,cond_false]
  unfold q5j
  rcases Yy l c (fun _ _=>true) () (q2i l x y) hs hd with ⟨d,b⟩ | ⟨k,p,a,_,b⟩
  · rw [b]
    have : ¬ hasR l x y:=by
      rintro ⟨r,f,s,j,q,g⟩
      have:=d r f
      simp [c,s,j,q,g] at this
    simp [this]
  · rw [b]
    have : hasR l x y:=by
      simp only [c,Bool.and_eq_true,decide_eq_true_eq] at a
      exact ⟨l[k],List.getElem_mem p,a.1,a.2.1,a.2.2.1,a.2.2.2⟩
    simp [this]
theorem qez {kind : Int} {a b : Prop} (h : Ki kind a b) : a∨b:=by
  rcases h with ⟨_,h,_⟩ | ⟨_,h⟩ | ⟨_,_,h,_⟩
  · exact .inl h
  · exact h
  · exact .inl h
theorem qju {kind : Int} {a b a' c : Prop} (d : a↔a') (f : b↔c) : Ki kind a b↔Ki kind a' c:=by
  unfold Ki;rw [d,f]
open Classical in
theorem qpe (kind : Int) {p q : List qi} (h : p.length + q.length≤490) (x : Int) :
    q3k (Qp (ysOf p ++ ysOf q)) ((Qp (ysOf p ++ ysOf q)).map fun y=>decide (Ki kind (hasR p x y) (hasR q x y))) = some (secJ kind p q x):=by
  obtain ⟨_,a,f⟩:=qee h
  generalize Qp (ysOf p ++ ysOf q) = ys at a f ⊢
  obtain ⟨c,o,k⟩:=qhs ys (ys.map fun y=>decide (Ki kind (hasR p x y) (hasR q x y))) a.1 q0 qe
  rw [o]
  have s:=Ud p x
  have r:=Ud q x
  have l:=(q52 kind (covS p x) (covS q x) q0 q0).2
  have mp : ∀ z∈ends (covS p x),z∈ys:=fun z j=>(a.2 z).2 (List.mem_append.2 (.inl (qiq j)))
  have mq : ∀ z∈ends (covS q x),z∈ys:=fun z j=>(a.2 z).2 (List.mem_append.2 (.inr (qiq j)))
  congr 1
  refine q4s k.can l.can fun z=>?_
  unfold secJ
  rw [k.pts z,l.pts z]
  constructor
  · rintro ⟨i,hi,n,_,g,d,b⟩
    simp only [List.getElem_map,decide_eq_true_eq] at g
    refine (qju ?_ ?_).2 g
    · rw [q2r a.1 mp hi d b,Uo]
    · rw [q2r a.1 mq hi d b,Uo]
  · intro m
    have : ∃ i,∃ (h : i + 1 < ys.length),ys[i]≤z∧z < ys[i + 1]:=by
      rcases qez m with h | h
      · exact qbs a.1 mp h
      · exact qbs a.1 mq h
    obtain ⟨i,hi,d,b⟩:=this
    refine ⟨i,hi,by simp;omega,q0,?_,d,b⟩
    simp only [List.getElem_map,decide_eq_true_eq]
    refine (qju ?_ ?_).1 m
    · rw [q2r a.1 mp hi d b,Uo]
    · rw [q2r a.1 mq hi d b,Uo]
open Classical in
theorem qs6 (kind : Int) {p q : List qi} (h : p.length + q.length≤490) (ys xs : List Int) (c : ys.length≤1000000) (i : Nat) (hi : i < xs.length) (a : List qj × Int × Int × List qi) (f : a.2.2.1 = i) :
    loop (q3o ys xs a p q kind) (0,[]) = some (ys.map fun y=>decide (Ki kind (hasR p xs[i] y) (hasR q xs[i] y))):=by
  have:=q8q ys (fun y=>decide (Ki kind (hasR p xs[i] y) (hasR q xs[i] y))) [] (fun o=>o) (q3o ys xs a p q kind) (fun k b o d=>by
    simp only [q3o,dlt b,cond_true,f,Qi b,Qi hi,Option.bind_some,qlo p _ _ q0,qlo q _ _ q0,qjv,w64s b c]
    rw [Ky (by simp at d ⊢;omega)]
    rfl) (fun o=>by simp only [q3o,dnl,cond_false])
  rw [List.nil_append] at this
  exact this
theorem qs7 (kind : Int) {p q : List qi} (h : p.length + q.length≤490) {xs : List Int} (hx : xs.length≤1000000) {i : Nat} (hi : i + 1 < xs.length) (s : Mg qj qi) (hl : (s.flat putR).length + (secJ kind p q xs[i]).length≤1000000)
    (h0 : i = 0→s.sec = []) (h1 : 0 < i→s.hi = xs[i]) :
    q2j xs (Qp (ysOf p ++ ysOf q)) p q kind (s.sec,(s.done.length : Int),(i : Int),s.flat putR) =
      some (.inl ((addM putR s xs[i] xs[i + 1] (secJ kind p q xs[i])).sec,((addM putR s xs[i] xs[i + 1] (secJ kind p q xs[i])).done.length : Int),((i + 1 : Nat) : Int),(addM putR s xs[i] xs[i + 1] (secJ kind p q xs[i])).flat putR)):=by
  have l : i < xs.length:=by omega
  have x : w64 ((i : Int) + 1) = ((i + 1 : Nat) : Int):=w64s l hx
  have hy:=(qee h).2.2
  have aa : (s.flat putR).length = s.done.length + s.sec.length:=by simp [Mg.flat]
  have r:=qs6 kind h (Qp (ysOf p ++ ysOf q)) xs q0 i l (s.sec,(s.done.length : Int),(i : Int),s.flat putR) rfl
  unfold q2j
  simp only [x,dlt hi,cond_true,r,Option.bind_some,qpe kind h]
  generalize hc : secJ kind p q xs[i] = c at hl ⊢
  by_cases a : 0 < i∧c = s.sec
  · obtain ⟨b,f⟩:=a
    have hb : decide ((i : Int) > 0) = true:=decide_eq_true q0
    have d:=qbo (fun v : qi=>({X0:=v.X0,Y0:=v.Y0,X1:=xs[i + 1],Y1:=v.Y1} : qi)) s.done (s.sec.map (putR s.lo s.hi)) (by simp;omega) (q3p xs (s.sec,(s.done.length : Int),(i : Int),s.flat putR)) (fun k o j ho=>by
      have h5 : (s.done ++ s.sec.map (putR s.lo s.hi)).length = (s.flat putR).length:=rfl
      simp only [q3p,dlt j,cond_true,Qi j,Qi hi,x,Option.bind_some,w64s j q0,Int.toNat_natCast]) (fun o=>by simp only [q3p,dnl,cond_false])
    have u : q5i c s.sec = some true:=by rw [qmf _ _ q0];simp [f]
    have d : loop (q3p xs (s.sec,(s.done.length : Int),(i : Int),s.flat putR)) ((s.done.length : Int),s.flat putR) = _:=d
    simp only [hb,cond_true,u,Option.bind_some,d]
    rcases Ux putR s xs[i] xs[i + 1] c with ⟨_,_,_,g⟩ | ⟨h3,g⟩
    · rw [g]
      simp only [Mg.flat,List.map_map]
      rfl
    · have n : c = []:=Classical.byContradiction fun hn=>h3 ⟨hn,f,h1 b⟩
      rw [g]
      simp [Mg.flat,← f,n]
  · have t : (cond (decide ((i : Int) > 0)) ((q5i c s.sec).bind fun m=>some m) (some false)) = some false:=by
      by_cases b : 0 < i
      · have hb : decide ((i : Int) > 0) = true:=decide_eq_true q0
        have w : c≠s.sec:=fun h=>a ⟨b,h⟩
        rw [hb,cond_true,qmf _ _ q0]
        simp [w]
      · have hb : decide ((i : Int) > 0) = false:=decide_eq_false q0
        rw [hb,cond_false]
    have y:=q8q c (putR xs[i] xs[i + 1]) (s.flat putR) (fun o=>(c,((s.flat putR).length : Int),o)) (q5k c xs (s.sec,(s.done.length : Int),(i : Int),s.flat putR)) (fun k j o ho=>by
      simp only [q5k,dlt j,cond_true,Qi j,Qi l,Qi hi,x,Option.bind_some,w64s j q0]
      rw [Ky (by simp;omega)]
      rfl) (fun o=>by simp only [q5k,dnl,cond_false])
    have g : addM putR s xs[i] xs[i + 1] c = ⟨s.flat putR,c,xs[i],xs[i + 1]⟩:=by
      rcases Ux putR s xs[i] xs[i + 1] c with ⟨g1,z,_,_⟩ | ⟨_,g⟩
      · refine absurd ?_ a
        refine ⟨Nat.pos_of_ne_zero fun h=>g1 ?_,z⟩
        rw [z,h0 h]
      · exact g
    rw [g]
    simp only [t,Option.bind_some,cond_false,y]
    simp [Mg.flat]
theorem q5l (kind : Int) {p q : List qi} (h : p.length + q.length≤490) : J5 kind p q = some (mrgR kind p q):=by
  unfold J5
  rw [qva h,qvc h]
  simp only [Option.bind_some]
  obtain ⟨_,g,d⟩:=qbj h
  have b:=fun i=>qkw kind h i
  unfold mrgR mrg
  generalize Qp (xsOf p ++ xsOf q) = xs at g d b ⊢
  generalize a : Yl xs (secJ kind p q) = steps at b ⊢
  have t : steps.length = xs.length - 1:=by rw [← a];exact q7p _ _
  have key:=Zh (f:=q2j xs (Qp (ysOf p ++ ysOf q)) p q kind) (fun k=>((Qs putR Qq (steps.take k)).sec,((Qs putR Qq (steps.take k)).done.length : Int),(k : Int),(Qs putR Qq (steps.take k)).flat putR))
    steps.length ((Qs putR Qq steps).flat putR) (fun k n=>by
      have c : k + 1 < xs.length:=by omega
      have o : steps[k] = (xs[k],xs[k + 1],secJ kind p q xs[k]):=by subst a;exact q7o n c
      have s:=qgb kind (p:=p) (q:=q) q0 xs[k]
      have l:=b k
      have:=qs7 kind h (xs:=xs) q0 c (Qs putR Qq (steps.take k)) q0 (fun r=>by subst r;rfl) (fun j=>by
        obtain ⟨m,rfl⟩ : ∃ m,k = m + 1:=⟨k - 1,q0⟩
        rw [q37 putR q0,qh3]
        subst a
        rw [q7o q0 q0])
      rw [this,q37 putR n,o]) (by
      rw [List.take_length]
      have hb : decide (w64 ((steps.length : Int) + 1) < (xs.length : Int)) = false:=by
        rw [Qe q0];exact decide_eq_false q0
      unfold q2j
      simp only [hb,cond_false]) (Nat.zero_le _)
  have key : loop (q2j xs (Qp (ysOf p ++ ysOf q)) p q kind) ([],0,0,[]) = some ((Qs putR Qq steps).flat putR):=key
  rw [key];rfl
end Go.Sh
namespace Go.Sh
open Go Go.Am
noncomputable def Yb (l : List qi) : Int:=if 400 < l.length then 4 else if ∀ r∈l,vR r then (if mrgR 2 l [] = l then 0 else 8) else 8
theorem qq2 {l : List qi} (h : Yb l = 0) : l.length≤400∧(∀ r∈l,vR r)∧mrgR 2 l [] = l:=by
  unfold Yb at h
  split at h
  · omega
  · split at h
    · split at h
      · rename_i a b c;exact ⟨q0,b,c⟩
      · omega
    · omega
theorem qw3 (l : List qi) (c : l.length≤1000000) : q9f l (fun a=>q2l a) = some (decide (¬ ∀ r∈l,vR r)):=by
  have hs : ∀ (k : Nat) (h : k < l.length),q41 l (fun a=>q2l a) (k : Int) = some (if (fun r=>!decide (vR r)) l[k] = true then .inr (.inr (k : Int)) else .inl ((k + 1 : Nat) : Int)):=by
    intro k h
    simp only [q41,dlt h,cond_true,Qi h,Option.bind_some,w64s h c,q2l,qo8]
    by_cases j : vR l[k] <;> simp [j]
  have hd : q41 l (fun a=>q2l a) (l.length : Int) = some (.inr (.inl ())):=by simp only [q41,dnl,cond_false]
  unfold q9f qcv
  rcases Yy l (fun r=>!decide (vR r)) (fun k _=>(k : Int)) () _ hs hd with ⟨m,b⟩ | ⟨k,g,d,_,b⟩
  · rw [b]
    have : ∀ r∈l,vR r:=fun r f=>by simpa using m r f
    simp []
    omega
  · rw [b]
    have : ¬ ∀ r∈l,vR r:=fun h=>by simp [h _ (List.getElem_mem g)] at d
    simp only [Option.bind_some]
    rw [decide_eq_true this,decide_eq_true q0]
theorem qvv (l : List qi) : q5y l = some (Yb l):=by
  unfold q5y Yb
  by_cases c : 400 < l.length
  · rw [decide_eq_true (by omega : (l.length : Int) > 400),cond_true,if_pos c]
  rw [decide_eq_false (by omega : ¬ (l.length : Int) > 400),cond_false,if_neg c,qw3 l q0,Option.bind_some]
  by_cases a : ∀ r∈l,vR r
  · rw [decide_eq_false (fun h=>h a),cond_false,qki l q0 a,if_pos a,Option.bind_some]
    by_cases b : 400 < (mrgR 2 l []).length
    · have d : mrgR 2 l []≠l:=fun h=>by rw [h] at b;exact c b
      rw [if_pos b,if_neg d];rfl
    · rw [if_neg b]
      simp only [qei (mrgR 2 l []) l q0]
      by_cases f : mrgR 2 l [] = l <;> simp [f]
  · rw [decide_eq_true a,cond_true,if_neg a]
def putB (a b : Int) (r : qi) : qg:={Lo:={X:=r.X0,Y:=r.Y0,Z:=a},Hi:={X:=r.X1,Y:=r.Y1,Z:=b}}
def qj1 (z : Int) : Prop:=-1000000≤z∧z≤1000000
instance (z : Int) : Decidable (qj1 z):=by unfold qj1;infer_instance
end Go.Sh
namespace Go.Sh
open Go Go.Am
def covB (z : Int) (b : qg) : Bool:=decide (b.Lo.Z≤z) && decide (z < b.Hi.Z)
def J6 (b : qg) : qi:={X0:=b.Lo.X,Y0:=b.Lo.Y,X1:=b.Hi.X,Y1:=b.Hi.Y}
def atB (l : List qg) (z : Int) : List qi:=l.flatMap fun b=>if covB z b = true then [J6 b] else []
theorem Jw (l : List qg) (x : Int) : (atB l x).length≤l.length:=by
  unfold atB
  induction l with
  | nil=>simp
  | cons r l ih=>
    simp only [List.flatMap_cons,List.length_append,List.length_cons]
    have : (if covB x r = true then [J6 r] else []).length≤1:=by split <;> simp
    omega
theorem qcb (l : List qg) (d : l.length≤1000000) (z : Int) : Js l z = some (atB l z):=by
  have:=Jg l d (fun b=>if covB z b = true then [J6 b] else []) [] (fun o=>o) (q5q l z) (fun k a o g=>by
    have h : o.length≤k:=by rw [g,List.nil_append];have:=Jw (l.take k) z;rw [List.length_take,Nat.min_eq_left q0] at this;exact this
    simp only [q5q,dlt a,cond_true,Qi a,Option.bind_some,w64s a d]
    by_cases c : l[k].Lo.Z≤z
    · by_cases f : z < l[k].Hi.Z
      · simp only [c,f,decide_true,cond_true,Option.bind_some,covB,Bool.and_self,if_true]
        rw [Ky (by simp;omega)]
        rfl
      · simp only [c,f,decide_true,decide_false,cond_true,cond_false,Option.bind_some,covB,Bool.and_false,if_false,Bool.false_eq_true,List.append_nil]
    · simp only [c,decide_false,cond_false,Option.bind_some,covB,Bool.false_and,if_false,Bool.false_eq_true,List.append_nil]) (fun o=>by simp only [q5q,dnl,cond_false])
  rw [List.nil_append] at this
  unfold Js
  rw [this];rfl
def zsOf (l : List qg) : List Int:=l.flatMap fun b=>[b.Lo.Z,b.Hi.Z]
theorem Zi (l : List qg) : (zsOf l).length = 2 * l.length:=by
  unfold zsOf;induction l with
  | nil=>rfl
  | cons r l ih=>simp only [List.flatMap_cons,List.length_append,List.length_cons,List.length_nil];omega
theorem qvj {p q : List qg} (h : p.length + q.length≤100000) : q94 p q = some (Qp (zsOf p ++ zsOf q)):=by
  have d : loop (q3u p) (0,[]) = some (zsOf p):=by
    have:=Jg p q0 (fun r=>[r.Lo.Z,r.Hi.Z]) [] (fun o=>o) (q3u p) (fun k a o b=>by
      have c : o.length = 2 * k:=by rw [b,List.nil_append];have:=Zi (p.take k);rw [List.length_take,Nat.min_eq_left q0] at this;exact this
      simp only [q3u,dlt a,cond_true,Qi a,Option.bind_some,w64s a q0]
      rw [Ky (by simp;omega)]
      rfl) (fun o=>by simp only [q3u,dnl,cond_false])
    rw [List.nil_append] at this
    exact this
  have f : loop (q3v q) (0,zsOf p) = some (zsOf p ++ zsOf q):=by
    have hp:=Zi p
    exact Jg q q0 (fun r=>[r.Lo.Z,r.Hi.Z]) (zsOf p) (fun o=>o) (q3v q) (fun k a o b=>by
      have c : o.length = 2 * p.length + 2 * k:=by
        rw [b,List.length_append,hp];have:=Zi (q.take k);rw [List.length_take,Nat.min_eq_left q0] at this
        unfold zsOf at this;omega
      simp only [q3v,dlt a,cond_true,Qi a,Option.bind_some,w64s a q0]
      rw [Ky (by simp;omega)]
      rfl) (fun o=>by simp only [q3v,dnl,cond_false])
  have j:=Zi p
  have g:=Zi q
  unfold q94
  simp only [d,f,Option.bind_some,(Jm (l:=zsOf p ++ zsOf q) (by simp;omega)).1]
structure qh1 (kind : Int) (p q : List qg) (z : Int) : Prop where
  n : (atB p z).length + (atB q z).length≤490
  m : (mrgR kind (atB p z) (atB q z)).length≤400
  mp : (mrgR 2 (atB p z) []).length≤400
  mq : (mrgR 2 (atB q z) []).length≤400
noncomputable def secB (kind : Int) (p q : List qg) (z : Int) : List qi:=mrgR kind (atB p z) (atB q z)
theorem qs5 (kind : Int) {p q : List qg} (h : p.length + q.length≤100000) {xs : List Int} (hx : xs.length≤1000000) {i : Nat} (hi : i + 1 < xs.length) (u : qh1 kind p q xs[i]) (s : Mg qi qg) (hl : (s.flat putB).length + 400≤1000000)
    (h0 : i = 0→s.sec = []) (h1 : 0 < i→s.hi = xs[i]) :
    q1g xs p q kind (s.sec,(s.done.length : Int),(i : Int),s.flat putB) =
      some (.inl ((addM putB s xs[i] xs[i + 1] (secB kind p q xs[i])).sec,((addM putB s xs[i] xs[i + 1] (secB kind p q xs[i])).done.length : Int),((i + 1 : Nat) : Int),(addM putB s xs[i] xs[i + 1] (secB kind p q xs[i])).flat putB)):=by
  have g : i < xs.length:=by omega
  have hw : w64 ((i : Int) + 1) = ((i + 1 : Nat) : Int):=w64s g hx
  have ad : (s.flat putB).length = s.done.length + s.sec.length:=by simp [Mg.flat]
  obtain ⟨w,x,ao,ae⟩:=u
  have ap : Js p xs[i] = some (atB p xs[i]):=qcb p q0 _
  have aq : Js q xs[i] = some (atB q xs[i]):=qcb q q0 _
  have jj : J5 kind (atB p xs[i]) (atB q xs[i]) = some (secB kind p q xs[i]):=q5l kind w
  have jp : J5 2 (atB p xs[i]) [] = some (mrgR 2 (atB p xs[i]) []):=q5l 2 (by simp;omega)
  have jq : J5 2 (atB q xs[i]) [] = some (mrgR 2 (atB q xs[i]) []):=q5l 2 (by simp;omega)
  have x : (secB kind p q xs[i]).length≤400:=x
  have d1 : decide (((secB kind p q xs[i]).length : Int) > 400) = false:=decide_eq_false q0
  have d2 : decide (((mrgR 2 (atB p xs[i]) []).length : Int) > 400) = false:=decide_eq_false q0
  have d3 : decide (((mrgR 2 (atB q xs[i]) []).length : Int) > 400) = false:=decide_eq_false q0
  unfold q1g
  simp only [hw,dlt hi,cond_true,Qi g,ap,aq,jj,jp,jq,d1,d2,d3,cond_false,Option.bind_some]
  generalize hc : secB kind p q xs[i] = c at x ⊢
  by_cases a : 0 < i∧c = s.sec
  · obtain ⟨b,j⟩:=a
    have hb : decide ((i : Int) > 0) = true:=decide_eq_true q0
    have d:=qbo (fun v : qg=>({Lo:=v.Lo,Hi:=({X:=v.Hi.X,Y:=v.Hi.Y,Z:=xs[i + 1]} : Qb)} : qg)) s.done (s.sec.map (putB s.lo s.hi)) (by simp;omega) (q3x xs (s.sec,(s.done.length : Int),(i : Int),s.flat putB)) (fun k o l ho=>by
      have h5 : (s.done ++ s.sec.map (putB s.lo s.hi)).length = (s.flat putB).length:=rfl
      simp only [q3x,dlt l,cond_true,Qi l,Qi hi,hw,Option.bind_some,w64s l q0,Int.toNat_natCast]) (fun o=>by simp only [q3x,dnl,cond_false])
    have t : q5m c s.sec = some true:=by rw [qme _ _ q0];simp [j]
    have d : loop (q3x xs (s.sec,(s.done.length : Int),(i : Int),s.flat putB)) ((s.done.length : Int),s.flat putB) = _:=d
    simp only [hb,cond_true,t,Option.bind_some,d]
    rcases Ux putB s xs[i] xs[i + 1] c with ⟨_,_,_,f⟩ | ⟨h3,f⟩
    · rw [f]
      simp only [Mg.flat,List.map_map]
      rfl
    · have n : c = []:=Classical.byContradiction fun w=>h3 ⟨w,j,h1 b⟩
      rw [f]
      simp [Mg.flat,← j,n]
  · have r : (cond (decide ((i : Int) > 0)) ((q5m c s.sec).bind fun m=>some m) (some false)) = some false:=by
      by_cases b : 0 < i
      · have hb : decide ((i : Int) > 0) = true:=decide_eq_true q0
        have z : c≠s.sec:=fun h=>a ⟨b,h⟩
        rw [hb,cond_true,qme _ _ q0]
        simp [z]
      · have hb : decide ((i : Int) > 0) = false:=decide_eq_false q0
        rw [hb,cond_false]
    have y:=q8q c (putB xs[i] xs[i + 1]) (s.flat putB) (fun o=>(c,((s.flat putB).length : Int),o)) (q5s c xs (s.sec,(s.done.length : Int),(i : Int),s.flat putB)) (fun k l o ho=>by
      simp only [q5s,dlt l,cond_true,Qi l,Qi g,Qi hi,hw,Option.bind_some,w64s l q0]
      rw [Ky (by simp;omega)]
      rfl) (fun o=>by simp only [q5s,dnl,cond_false])
    have f : addM putB s xs[i] xs[i + 1] c = ⟨s.flat putB,c,xs[i],xs[i + 1]⟩:=by
      rcases Ux putB s xs[i] xs[i + 1] c with ⟨g1,g2,_,_⟩ | ⟨_,f⟩
      · refine absurd ?_ a
        refine ⟨Nat.pos_of_ne_zero fun h=>g1 ?_,g2⟩
        rw [g2,h0 h]
      · exact f
    rw [f]
    simp only [r,Option.bind_some,cond_false,y]
    simp [Mg.flat]
noncomputable def mrgB (kind : Int) (p q : List qg) : List qg:=(Qs putB Qq (Yl (Qp (zsOf p ++ zsOf q)) (secB kind p q))).flat putB
section
variable {σ β : Type} (put : Int→Int→σ→β)
def Alike (s t : Mg σ β) : Prop:=s = t∨(s.flat put = t.flat put∧s.sec = []∧t.sec = [])
theorem Alike.flat {s t : Mg σ β} (h : Alike put s t) : s.flat put = t.flat put:=by
  rcases h with rfl | h
  · rfl
  · exact h.1
end
section
variable {σ β : Type} [DecidableEq σ] (put : Int→Int→σ→β)
def runM (sec : Int→List σ) : Mg σ β→List Int→Mg σ β
  | s,a::b::r=>runM sec (addM put s a b (sec a)) (b::r)
  | s,_=>s
theorem qj5 (sec : Int→List σ) : ∀ (c : List Int) (s : Mg σ β),Qs put s (Yl c sec) = runM put sec s c
  | [],s=>rfl
  | [a],s=>rfl
  | a::b::r,s=>by
    have:=qj5 sec (b::r) (addM put s a b (sec a))
    simp only [runM,← this]
    rfl
theorem Alike.add {s t : Mg σ β} (h : Alike put s t) (a b : Int) (c : List σ) : Alike put (addM put s a b c) (addM put t a b c):=by
  rcases h with rfl | ⟨j,d,f⟩
  · exact .inl rfl
  · refine .inl ?_
    rcases Ux put s a b c with ⟨o,m,_,_⟩ | ⟨_,k⟩
    · exact absurd (m.trans d) o
    · rcases Ux put t a b c with ⟨g,l,_,_⟩ | ⟨_,n⟩
      · exact absurd (l.trans f) g
      · rw [k,n,j]
end
end Go.Sh
namespace Go.Sh
open Go Go.Am
structure Grp (σ : Type) where
  lo : Int
  hi : Int
  sec : List σ
section
variable {σ β : Type}
def CanG (gs : List (Grp σ)) : Prop:=(∀ g∈gs,g.lo < g.hi∧g.sec≠[])∧gs.Pairwise (fun g h=>g.hi≤h.lo∧(g.hi = h.lo→g.sec≠h.sec))
def secG : List (Grp σ)→Int→List σ
  | [],_=>[]
  | g::r,x=>if g.lo≤x∧x < g.hi then g.sec else secG r x
def Ku (put : Int→Int→σ→β) (gs : List (Grp σ)) : List β:=gs.flatMap fun g=>g.sec.map (put g.lo g.hi)
theorem qr8 (put : Int→Int→σ→β) (a b : List (Grp σ)) : Ku put (a ++ b) = Ku put a ++ Ku put b:=by simp [Ku]
theorem q2q {y x : Int} : ∀ {r : List (Grp σ)},(∀ h∈r,y≤h.lo)→x < y→secG r x = []
  | [],_,_=>rfl
  | g::r,h,hx=>by
    have:=h g qe
    rw [secG,if_neg q0]
    exact q2q (fun k a=>h k (by simp [a])) hx
theorem q6b {y x : Int} : ∀ {r : List (Grp σ)},(∀ h∈r,h.hi≤y)→y≤x→secG r x = []
  | [],_,_=>rfl
  | g::r,h,hx=>by
    have:=h g qe
    rw [secG,if_neg q0]
    exact q6b (fun k a=>h k (by simp [a])) hx
theorem q9a {x : Int} : ∀ {a b : List (Grp σ)},secG a x = []→(∀ g∈a,g.sec≠[])→secG (a ++ b) x = secG b x
  | [],_,_,_=>rfl
  | g::a,b,h,hne=>by
    rw [secG] at h
    split at h
    · exact absurd h (hne g qe)
    · rename_i c
      rw [List.cons_append,secG,if_neg c]
      exact q9a h fun k d=>hne k (by simp [d])
theorem qg8 {y x : Int} {a b : List (Grp σ)} (hb : ∀ h∈b,y≤h.lo) (c : x < y) : secG (a ++ b) x = secG a x:=by
  induction a with
  | nil=>exact q2q hb c
  | cons g a ih=>simp only [List.cons_append,secG,ih]
theorem CanG.tail {g : Grp σ} {r : List (Grp σ)} (h : CanG (g::r)) : CanG r:=⟨fun k a=>h.1 k (by simp [a]),(List.pairwise_cons.1 h.2).2⟩
theorem CanG.nxt {g : Grp σ} {r : List (Grp σ)} (h : CanG (g::r)) : ∀ k∈r,g.hi≤k.lo∧(g.hi = k.lo→g.sec≠k.sec):=(List.pairwise_cons.1 h.2).1
theorem q2p {g : Grp σ} {r : List (Grp σ)} {x : Int} (a : g.lo≤x) (b : x < g.hi) : secG (g::r) x = g.sec:=by rw [secG,if_pos ⟨a,b⟩]
theorem qxu {g : Grp σ} {r : List (Grp σ)} (h : CanG (g::r)) : secG (g::r) g.hi≠g.sec:=by
  rw [secG,if_neg q0]
  cases r with
  | nil=>exact fun e=>(h.1 g qe).2 e.symm
  | cons k r=>
    have b:=h.nxt k qe
    have d:=h.tail.1 k qe
    by_cases c : g.hi = k.lo
    · rw [q2p q0 q0];exact fun e=>b.2 c e.symm
    · rw [secG,if_neg q0,q2q (y:=k.hi) (fun m a=>(h.tail.nxt m a).1) q0]
      exact fun e=>(h.1 g qe).2 e.symm
theorem qdy : ∀ {a b : List (Grp σ)},CanG a→CanG b→(∀ x,secG a x = secG b x)→a = b
  | [],[],_,_,_=>rfl
  | [],g::r,_,hb,h=>by
    have:=h g.lo
    rw [q2p (Int.le_refl _) (hb.1 g qe).1] at this
    exact absurd this.symm (hb.1 g qe).2
  | g::r,[],c,_,h=>by
    have:=h g.lo
    rw [q2p (Int.le_refl _) (c.1 g qe).1] at this
    exact absurd this (c.1 g qe).2
  | g::r,k::s,c,hb,h=>by
    have q:=c.1 g qe
    have t:=hb.1 k qe
    have low : ∀ {g k : Grp σ} {r s : List (Grp σ)},CanG (g::r)→CanG (k::s)→(∀ x,secG (g::r) x = secG (k::s) x)→k.lo≤g.lo:=by
      intro g k r s c hb h
      refine Int.not_lt.1 fun j=>?_
      have d:=h g.lo
      rw [q2p (Int.le_refl _) (c.1 g qe).1,q2q (y:=k.lo) (fun m f=>?_) j] at d
      · exact (c.1 g qe).2 d
      · rcases List.mem_cons.1 f with rfl | f
        · exact Int.le_refl _
        · have:=(hb.nxt m f).1;have:=(hb.1 k qe).1;omega
    have n : g.lo = k.lo:=Int.le_antisymm (low hb c fun x=>(h x).symm) (low c hb h)
    have l : g.sec = k.sec:=by
      have d:=h g.lo
      rwa [q2p (Int.le_refl _) q.1,q2p q0 q0] at d
    have hi : ∀ {g k : Grp σ} {r s : List (Grp σ)},CanG (g::r)→CanG (k::s)→(∀ x,secG (g::r) x = secG (k::s) x)→g.lo = k.lo→g.sec = k.sec→k.hi≤g.hi:=by
      intro g k r s c hb h n l
      refine Int.not_lt.1 fun j=>?_
      have d:=h g.hi
      have:=(c.1 g qe).1
      rw [q2p (g:=k) q0 j,← l] at d
      exact qxu c d
    have p : g.hi = k.hi:=Int.le_antisymm (hi hb c (fun x=>(h x).symm) n.symm l.symm) (hi c hb h n l)
    have e : g = k:=by cases g;cases k;simp at n l p;simp [n,l,p]
    subst e
    have : r = s:=qdy c.tail hb.tail fun x=>by
      by_cases o : x < g.hi
      · rw [q2q (y:=g.hi) (fun m f=>(c.nxt m f).1) o,q2q (y:=g.hi) (fun m f=>(hb.nxt m f).1) o]
      · have d:=h x
        rwa [secG,secG,if_neg q0,if_neg q0] at d
    rw [this]
def curG (s : Mg σ β) : List (Grp σ):=if s.sec = [] then [] else [⟨s.lo,s.hi,s.sec⟩]
def secC (sec : Int→List σ) : List Int→Int→List σ
  | a::b::r,x=>if a≤x∧x < b then sec a else secC sec (b::r) x
  | _,_=>[]
theorem qj2 (put : Int→Int→σ→β) (s : Mg σ β) (a : List (Grp σ)) (h : s.done = Ku put a) : s.flat put = Ku put (a ++ curG s):=by
  rw [qr8,Mg.flat,h]
  unfold curG
  split
  · rename_i b;simp [b,Ku]
  · simp [Ku]
theorem qbz {s : Mg σ β} {g : Grp σ} (h : g∈curG s) : s.sec≠[]∧g = ⟨s.lo,s.hi,s.sec⟩:=by
  unfold curG at h;split at h
  · cases h
  · rename_i a;exact ⟨a,by simpa using h⟩
theorem qck (sec : Int→List σ) {x : Int} : ∀ {d : List Int},d.Pairwise (· < ·)→
    (∀ a∈d,a≤x→(∀ c∈d,c≤a∨x < c)→sec a = sec x)→((∀ c∈d,x < c)→sec x = [])→((∀ c∈d,c≤x)→sec x = [])→secC sec d x = sec x
  | [],_,_,h2,_=>(h2 qe).symm
  | [a],_,_,h2,h3=>by
    rw [secC]
    · by_cases k : x < a
      · exact (h2 (by simpa using k)).symm
      · exact (h3 (by simpa using k)).symm
    · intro a b r h;simp at h
  | a::b::r,hp,h1,h2,h3=>by
    have o : a < b:=(List.pairwise_cons.1 hp).1 b qe
    have m:=(List.pairwise_cons.1 (List.pairwise_cons.1 hp).2).1
    rw [secC]
    split
    · rename_i k
      refine h1 a qe k.1 fun c f=>?_
      rcases List.mem_cons.1 f with rfl | f
      · exact .inl (Int.le_refl _)
      · rcases List.mem_cons.1 f with rfl | f
        · exact .inr k.2
        · have:=m c f;exact .inr q0
    · rename_i k
      by_cases n : x < a
      · have e : sec x = []:=h2 fun c f=>by
          rcases List.mem_cons.1 f with rfl | f
          · exact n
          · have:=(List.pairwise_cons.1 hp).1 c f;omega
        have:=qck sec (x:=x) (List.pairwise_cons.1 hp).2 (fun a' j l _=>by
          exfalso;have:=(List.pairwise_cons.1 hp).1 a' j;omega) (fun _=>e) (fun _=>e)
        exact this
      · have p : b≤x:=by omega
        exact qck sec (List.pairwise_cons.1 hp).2 (fun a' j l g=>h1 a' (by simp [j]) l fun c f=>by
          rcases List.mem_cons.1 f with rfl | f
          · have:=(List.pairwise_cons.1 hp).1 a' j;exact .inl q0
          · exact g c f) (fun g=>by have:=g b qe;omega) (fun g=>h3 fun c f=>by
          rcases List.mem_cons.1 f with rfl | f
          · omega
          · exact g c f)
variable [DecidableEq σ] (put : Int→Int→σ→β)
structure InvG (s : Mg σ β) (gs : List (Grp σ)) (c : Int) : Prop where
  done : s.done = Ku put gs
  can : CanG (gs ++ curG s)
  le : ∀ g∈gs ++ curG s,g.hi≤c
  gap : s.sec = []→∀ g∈gs,g.hi = c→False
theorem qs0 {s : Mg σ β} {j : List (Grp σ)} {a b : Int} {c : List σ} (v : a < b) (hi : InvG put s j a) :
    ∃ q,InvG put (addM put s a b c) q b∧∀ x,secG (q ++ curG (addM put s a b c)) x = if a≤x∧x < b then c else secG (j ++ curG s) x:=by
  rcases Ux put s a b c with ⟨w,h2,h3,h4⟩ | ⟨w,h4⟩
  · rw [h4]
    have hs : s.sec≠[]:=h2 ▸ w
    have c1 : curG s = [⟨s.lo,s.hi,s.sec⟩]:=by unfold curG;rw [if_neg hs]
    have c2 : curG (⟨s.done,s.sec,s.lo,b⟩ : Mg σ β) = [⟨s.lo,b,s.sec⟩]:=by unfold curG;rw [if_neg hs]
    have f:=hi.can
    rw [c1] at f
    have ag : s.lo < s.hi:=(f.1 ⟨s.lo,s.hi,s.sec⟩ qe).1
    refine ⟨j,⟨hi.done,?_,?_,fun h=>absurd h hs⟩,?_⟩
    · rw [c2]
      refine ⟨fun g d=>?_,?_⟩
      · rcases List.mem_append.1 d with d | d
        · exact f.1 g (by simp [d])
        · obtain rfl:=List.mem_singleton.1 d;exact ⟨by simp only;omega,hs⟩
      · have:=List.pairwise_append.1 f.2
        refine List.pairwise_append.2 ⟨this.1,qe,fun g d k hk=>?_⟩
        obtain rfl:=List.mem_singleton.1 hk
        exact this.2.2 g d ⟨s.lo,s.hi,s.sec⟩ qe
    · rw [c2]
      intro g d
      rcases List.mem_append.1 d with d | d
      · have:=hi.le g (by simp [d]);omega
      · obtain rfl:=List.mem_singleton.1 d;exact Int.le_refl _
    · intro x
      rw [c1,c2]
      have aa : ∀ g∈j,g.hi≤s.lo:=fun g d=>((List.pairwise_append.1 f.2).2.2 g d ⟨s.lo,s.hi,s.sec⟩ qe).1
      have o : ∀ g∈j,g.sec≠[]:=fun g d=>(f.1 g (by simp [d])).2
      by_cases n : x < s.lo
      · rw [if_neg q0,qg8 (y:=s.lo) qe n,qg8 (y:=s.lo) qe n]
      · have e : secG j x = []:=q6b aa q0
        rw [q9a e o,q9a e o]
        simp only [secG]
        by_cases ac : x < s.hi
        · rw [if_pos ⟨q0,q0⟩,if_neg q0,if_pos ⟨q0,ac⟩]
        · by_cases p : x < b
          · rw [if_pos ⟨q0,p⟩,if_pos ⟨q0,p⟩,h2]
          · rw [if_neg q0,if_neg q0,if_neg q0]
  · rw [h4]
    have hd : s.flat put = Ku put (j ++ curG s):=qj2 put s j hi.done
    refine ⟨j ++ curG s,⟨hd,?_,?_,?_⟩,?_⟩
    · by_cases m : c = []
      · have : curG (⟨s.flat put,c,a,b⟩ : Mg σ β) = []:=by unfold curG;rw [if_pos m]
        rw [this,List.append_nil];exact hi.can
      · have : curG (⟨s.flat put,c,a,b⟩ : Mg σ β) = [⟨a,b,c⟩]:=by unfold curG;rw [if_neg m]
        rw [this]
        refine ⟨fun g d=>?_,List.pairwise_append.2 ⟨hi.can.2,qe,fun g d k hk=>?_⟩⟩
        · rcases List.mem_append.1 d with d | d
          · exact hi.can.1 g d
          · obtain rfl:=List.mem_singleton.1 d;exact ⟨v,m⟩
        · obtain rfl:=List.mem_singleton.1 hk
          refine ⟨hi.le g d,fun t r=>?_⟩
          rcases List.mem_append.1 d with l | l
          · by_cases hs : s.sec = []
            · exact hi.gap hs g l t
            · have u : (⟨s.lo,s.hi,s.sec⟩ : Grp σ)∈curG s:=by unfold curG;rw [if_neg hs];simp
              have h6:=((List.pairwise_append.1 hi.can.2).2.2 g l _ u).1
              have h7:=(hi.can.1 _ (List.mem_append.2 (.inr u))).1
              have h8:=hi.le _ (List.mem_append.2 (.inr u))
              simp only at t h6 h7 h8
              omega
          · obtain ⟨hs,rfl⟩:=qbz l
            exact w ⟨m,r.symm,t⟩
    · intro g d
      rcases List.mem_append.1 d with d | d
      · have:=hi.le g d;omega
      · obtain ⟨_,rfl⟩:=qbz d;exact Int.le_refl _
    · intro m g d t
      have:=hi.le g d;omega
    · intro x
      by_cases n : a≤x∧x < b
      · rw [if_pos n,q9a (q6b hi.le n.1) fun g d=>(hi.can.1 g d).2]
        unfold curG
        split
        · rename_i m;simp only at m;rw [m];rfl
        · simp only [secG];rw [if_pos n]
      · rw [if_neg n]
        by_cases z : x < a
        · exact qg8 (y:=a) (fun g d=>by obtain ⟨_,rfl⟩:=qbz d;exact Int.le_refl _) z
        · have e:=q6b (x:=x) hi.le q0
          rw [q9a e fun g d=>(hi.can.1 g d).2,e]
          exact q6b (y:=b) (fun g d=>by obtain ⟨_,rfl⟩:=qbz d;exact Int.le_refl _) q0
theorem qmc (sec : Int→List σ) : ∀ (d : List Int) (c : Int) (s : Mg σ β) (h : List (Grp σ)),(c::d).Pairwise (· < ·)→InvG put s h c→
    ∃ f,(runM put sec s (c::d)).flat put = Ku put f∧CanG f∧∀ x,secG f x = if x < c then secG (h ++ curG s) x else secC sec (c::d) x
  | [],c,s,h,_,hi=>by
    refine ⟨h ++ curG s,qj2 put s h hi.done,hi.can,fun x=>?_⟩
    by_cases k : x < c
    · rw [if_pos k]
    · rw [if_neg k];exact q6b hi.le q0
  | b::d,a,s,h,hp,hi=>by
    have m : a < b:=(List.pairwise_cons.1 hp).1 b qe
    obtain ⟨f,l,j⟩:=qs0 (b:=b) (c:=sec a) put m hi
    obtain ⟨n,p,q,o⟩:=qmc sec d b _ f (List.pairwise_cons.1 hp).2 l
    refine ⟨n,p,q,fun x=>?_⟩
    rw [o x]
    by_cases k : x < a
    · rw [if_pos q0,if_pos k,j,if_neg q0]
    · rw [if_neg k]
      simp only [secC]
      by_cases g : x < b
      · rw [if_pos g,j,if_pos ⟨q0,g⟩,if_pos ⟨q0,g⟩]
      · rw [if_neg g,if_neg q0]
theorem qkq (sec : Int→List σ) {a : List Int} (f : a.Pairwise (· < ·)) :
    ∃ d,(Qs put Qq (Yl a sec)).flat put = Ku put d∧CanG d∧∀ x,secG d x = secC sec a x:=by
  rw [qj5]
  cases a with
  | nil=>exact ⟨[],rfl,⟨qe,qe⟩,fun x=>rfl⟩
  | cons c a=>
    obtain ⟨d,j,k,h⟩:=qmc put sec a c (Qq : Mg σ β) [] f ⟨rfl,⟨by simp [curG,Qq],by simp [curG,Qq]⟩,by simp [curG,Qq],qe⟩
    refine ⟨d,j,k,fun x=>?_⟩
    rw [h x]
    split
    · rename_i g
      have : ∀ (a : List Int) (c : Int),(c::a).Pairwise (· < ·)→x < c→secC sec (c::a) x = []:=by
        intro a
        induction a with
        | nil=>intros;rfl
        | cons b r ih=>
          intro c hp g
          rw [secC,if_neg q0]
          exact ih b (List.pairwise_cons.1 hp).2 (by have:=(List.pairwise_cons.1 hp).1 b qe;omega)
      rw [this a c f g];rfl
    · rfl
end
end Go.Sh
namespace Go.Sh
open Go Go.Am
section
variable {σ : Type}
theorem qga {x : Int} : ∀ (b : List (Grp σ)),secG b x = []∨∃ g∈b,g.lo≤x∧x < g.hi∧secG b x = g.sec
  | []=>.inl rfl
  | g::r=>by
    by_cases a : g.lo≤x∧x < g.hi
    · exact .inr ⟨g,qe,a.1,a.2,by rw [secG,if_pos a]⟩
    · rw [secG,if_neg a]
      rcases qga r with h | ⟨k,c,h⟩
      · exact .inl h
      · exact .inr ⟨k,by simp [c],h⟩
theorem qg9 : ∀ {b : List (Grp σ)},CanG b→∀ g∈b,∀ x,g.lo≤x→x < g.hi→secG b x = g.sec
  | k::r,h,g,a,x,h1,h2=>by
    rcases List.mem_cons.1 a with rfl | a
    · exact q2p h1 h2
    · have:=(h.nxt g a).1
      rw [secG,if_neg q0]
      exact qg9 h.tail g a x h1 h2
end
theorem qk5 (kind : Int) : J1 kind [] [] = []:=by
  have a:=(q52 kind [] [] qe qe).2
  refine q4s a.can ⟨qe,qe⟩ fun x=>?_
  rw [a.pts]
  have:=q1b x
  unfold Ki;simp [this]
theorem qqj (a b : List qi) (x : Int) : covS (a ++ b) x = covS a x ++ covS b x:=by simp [covS]
theorem qqk (s : List qj) (lo hi x : Int) : covS (s.map (putR lo hi)) x = if lo≤x∧x < hi then s else []:=by
  induction s with
  | nil=>simp [covS]
  | cons t s ih=>
    have e : covS (List.map (putR lo hi) (t::s)) x = (if covR x (putR lo hi t) = true then [t] else []) ++ covS (s.map (putR lo hi)) x:=rfl
    rw [e,ih]
    have : covR x (putR lo hi t) = (decide (lo≤x) && decide (x < hi)):=rfl
    rw [this]
    by_cases a : lo≤x <;> by_cases b : x < hi <;> simp [a,b]
theorem q8c : ∀ {b : List (Grp qj)},CanG b→∀ x,covS (Ku putR b) x = secG b x
  | [],_,x=>rfl
  | g::r,h,x=>by
    have e : Ku putR (g::r) = g.sec.map (putR g.lo g.hi) ++ Ku putR r:=rfl
    rw [e,qqj,qqk,q8c h.tail x]
    by_cases a : g.lo≤x∧x < g.hi
    · rw [if_pos a,secG,if_pos a,q2q (y:=g.hi) (fun m c=>(h.nxt m c).1) a.2,List.append_nil]
    · rw [if_neg a,secG,if_neg a,List.nil_append]
theorem qig {l : List qi} {a x : Int} (h : ∀ r∈l,covR a r = covR x r) : covS l a = covS l x:=by
  induction l with
  | nil=>rfl
  | cons r l ih=>
    have e : ∀ y,covS (r::l) y = (if covR y r = true then [ysp r] else []) ++ covS l y:=fun _=>rfl
    rw [e,e,h r qe,ih fun k b=>h k (by simp [b])]
theorem qbi {l : List qi} {x : Int} (h : ∀ r∈l,covR x r = false) : covS l x = []:=by
  induction l with
  | nil=>rfl
  | cons r l ih=>
    have e : covS (r::l) x = (if covR x r = true then [ysp r] else []) ++ covS l x:=rfl
    rw [e,h r qe,ih fun k a=>h k (by simp [a])];rfl
theorem q4u {x : Int} {r : qi} : covR x r = true↔r.X0≤x∧x < r.X1:=by simp [covR]
theorem qko {p q : List qi} {r : qi} (h : r∈p∨r∈q) : r.X0∈xsOf p ++ xsOf q∧r.X1∈xsOf p ++ xsOf q:=by
  unfold xsOf
  simp only [List.mem_append,List.mem_flatMap]
  rcases h with h | h
  · exact ⟨.inl ⟨r,h,qe⟩,.inl ⟨r,h,qe⟩⟩
  · exact ⟨.inr ⟨r,h,qe⟩,.inr ⟨r,h,qe⟩⟩
theorem qku (kind : Int) {p q : List qi} (h : p.length + q.length≤100000) :
    ∃ f,mrgR kind p q = Ku putR f∧CanG f∧∀ x,secG f x = secJ kind p q x:=by
  have s:=Jv p
  have t:=Jv q
  have hs:=(Jm (l:=xsOf p ++ xsOf q) (by simp;omega)).2.1
  obtain ⟨f,k,o,m⟩:=qkq putR (secJ kind p q) hs.1
  refine ⟨f,k,o,fun x=>?_⟩
  rw [m]
  have g : ∀ r,(r∈p∨r∈q)→r.X0∈Qp (xsOf p ++ xsOf q)∧r.X1∈Qp (xsOf p ++ xsOf q):=fun r b=>
    ⟨(hs.2 _).2 (qko b).1,(hs.2 _).2 (qko b).2⟩
  refine qck _ hs.1 (fun a _ n c=>?_) (fun c=>?_) (fun c=>?_)
  · have d : ∀ r,(r∈p∨r∈q)→covR a r = covR x r:=fun r b=>by
      have j:=c _ (g r b).1
      have u:=c _ (g r b).2
      rw [Bool.eq_iff_iff,q4u,q4u];omega
    unfold secJ
    rw [qig fun r b=>d r (.inl b),qig fun r b=>d r (.inr b)]
  · have d : ∀ r,(r∈p∨r∈q)→covR x r = false:=fun r b=>by
      have j:=c _ (g r b).1
      rw [← Bool.not_eq_true,q4u];omega
    unfold secJ
    rw [qbi fun r b=>d r (.inl b),qbi fun r b=>d r (.inr b),qk5]
  · have d : ∀ r,(r∈p∨r∈q)→covR x r = false:=fun r b=>by
      have j:=c _ (g r b).2
      rw [← Bool.not_eq_true,q4u];omega
    unfold secJ
    rw [qbi fun r b=>d r (.inl b),qbi fun r b=>d r (.inr b),qk5]
def CanR (l : List qi) : Prop:=∃ gs : List (Grp qj),l = Ku putR gs∧CanG gs∧∀ g∈gs,Can g.sec
theorem qpd : Can []:=⟨qe,qe⟩
theorem CanR.nil : CanR []:=⟨[],rfl,⟨qe,qe⟩,qe⟩
theorem CanR.cov {l : List qi} (h : CanR l) (x : Int) : Can (covS l x):=by
  obtain ⟨d,rfl,b,a⟩:=h
  rw [q8c b]
  rcases qga (x:=x) d with e | ⟨g,c,_,_,e⟩
  · rw [e];exact qpd
  · rw [e];exact a g c
theorem qdz {a b : List qi} (f : CanR a) (hb : CanR b) (h : ∀ x y,hasR a x y↔hasR b x y) : a = b:=by
  have g : ∀ x,covS a x = covS b x:=fun x=>q4s (f.cov x) (hb.cov x) fun y=>by rw [Uo,Uo];exact h x y
  obtain ⟨k,rfl,d,_⟩:=f
  obtain ⟨j,rfl,c,_⟩:=hb
  rw [qdy d c fun x=>by rw [← q8c d,← q8c c];exact g x]
theorem qmk (kind : Int) {p q : List qi} (h : p.length + q.length≤100000) (x : Int) : qdk kind (covS p x) (covS q x) (secJ kind p q x):=by
  have a:=Ud p x
  have b:=Ud q x
  exact (q52 kind (covS p x) (covS q x) q0 q0).2
theorem qc2 (kind : Int) {p q : List qi} (h : p.length + q.length≤100000) : CanR (mrgR kind p q):=by
  obtain ⟨f,d,a,c⟩:=qku kind h
  refine ⟨f,d,a,fun g b=>?_⟩
  have:=c g.lo
  rw [qg9 a g b _ (Int.le_refl _) (a.1 g b).1] at this
  rw [this];exact (qmk kind h _).can
theorem qih (kind : Int) {p q : List qi} (h : p.length + q.length≤100000) (x : Int) : covS (mrgR kind p q) x = secJ kind p q x:=by
  obtain ⟨d,b,c,a⟩:=qku kind h
  rw [b,q8c c,a]
theorem qbr (kind : Int) {p q : List qi} (h : p.length + q.length≤100000) (x y : Int) : hasR (mrgR kind p q) x y↔Ki kind (hasR p x y) (hasR q x y):=by
  rw [← Uo,qih kind h,(qmk kind h x).pts,Uo,Uo]
theorem qew (x y : Int) : ¬ hasR [] x y:=by rintro ⟨r,h,_⟩;cases h
theorem q3c {a b : Prop} : Ki 2 a b↔a∨b:=by unfold Ki;simp
theorem qjt {a b : Prop} : Ki 1 a b↔a∧b:=by unfold Ki;simp
theorem qrs {l : List qi} (h : l.length≤100000) (x y : Int) : hasR (mrgR 2 l []) x y↔hasR l x y:=by
  rw [qbr 2 (by simpa using h),q3c];simp [qew]
theorem qkv {l : List qi} (a : l.length≤100000) (h : CanR l) : mrgR 2 l [] = l:=
  qdz (qc2 2 (by simpa using a)) h fun x y=>qrs a x y
theorem qkm {σ β : Type} {put : Int→Int→σ→β} {a : List (Grp σ)} {r : β} : r∈Ku put a↔∃ g∈a,∃ t∈g.sec,r = put g.lo g.hi t:=by
  unfold Ku
  simp only [List.mem_flatMap,List.mem_map]
  exact ⟨fun ⟨g,hg,t,ht,e⟩=>⟨g,hg,t,ht,e.symm⟩,fun ⟨g,hg,t,ht,e⟩=>⟨g,hg,t,ht,e.symm⟩⟩
theorem CanR.lt {l : List qi} (h : CanR l) : ∀ r∈l,r.X0 < r.X1∧r.Y0 < r.Y1:=by
  obtain ⟨j,rfl,f,c⟩:=h
  intro r b
  obtain ⟨g,a,t,d,rfl⟩:=qkm.1 b
  exact ⟨(f.1 g a).1,(c g a).1 t d⟩
def InR (l : List qi) : Prop:=∀ x y,hasR l x y→(-1000000≤x∧x < 1000000)∧(-1000000≤y∧y < 1000000)
theorem CanR.vR {l : List qi} (h : CanR l) (hi : InR l) : ∀ r∈l,vR r:=by
  intro r a
  have d:=h.lt r a
  have b:=hi r.X0 r.Y0 ⟨r,a,q0⟩
  have c:=hi (r.X1 - 1) (r.Y1 - 1) ⟨r,a,q0⟩
  unfold Go.Sh.vR;omega
theorem InR.mrg {kind : Int} {p q : List qi} (h : p.length + q.length≤100000) (hp : InR p) (c : InR q) : InR (mrgR kind p q):=fun x y b=>by
  rcases qez ((qbr kind h x y).1 b) with a | a
  · exact hp x y a
  · exact c x y a
theorem InR.nil : InR []:=fun x y h=>absurd h (qew x y)
theorem q87 {l : List qi} : Yb l = 0↔l.length≤400∧(∀ r∈l,vR r)∧CanR l:=by
  constructor
  · intro h
    obtain ⟨c,a,b⟩:=qq2 h
    exact ⟨c,a,b ▸ qc2 2 (by simp;omega)⟩
  · rintro ⟨c,a,b⟩
    unfold Yb
    rw [if_neg q0,if_pos a,if_pos (qkv q0 b)]
end Go.Sh
namespace Go.Sh
open Go Go.Am
def hasB (l : List qg) (x y z : Int) : Prop:=∃ b∈l,(b.Lo.X≤x∧x < b.Hi.X)∧(b.Lo.Y≤y∧y < b.Hi.Y)∧(b.Lo.Z≤z∧z < b.Hi.Z)
theorem q20 {z : Int} {b : qg} : covB z b = true↔b.Lo.Z≤z∧z < b.Hi.Z:=by simp [covB]
theorem qfe {l : List qg} {z : Int} {r : qi} : r∈atB l z↔∃ b∈l,(b.Lo.Z≤z∧z < b.Hi.Z)∧r = J6 b:=by
  unfold atB
  rw [List.mem_flatMap]
  constructor
  · rintro ⟨b,hb,h⟩
    split at h
    · rename_i a;exact ⟨b,hb,q20.1 a,by simpa using h⟩
    · cases h
  · rintro ⟨b,hb,a,rfl⟩
    exact ⟨b,hb,by rw [if_pos (q20.2 a)];simp⟩
theorem q3b {l : List qg} {x y z : Int} : hasR (atB l z) x y↔hasB l x y z:=by
  constructor
  · rintro ⟨r,h,g,c,d,a⟩
    obtain ⟨b,hb,f,rfl⟩:=qfe.1 h
    exact ⟨b,hb,⟨g,c⟩,⟨d,a⟩,f⟩
  · rintro ⟨b,hb,⟨g,c⟩,⟨d,a⟩,f⟩
    exact ⟨J6 b,qfe.2 ⟨b,hb,f,rfl⟩,g,c,d,a⟩
theorem q3a (x y z : Int) : ¬ hasB [] x y z:=by rintro ⟨r,h,_⟩;cases h
theorem qou (a b : List qg) (z : Int) : atB (a ++ b) z = atB a z ++ atB b z:=by simp [atB]
theorem qov (s : List qi) (lo hi z : Int) : atB (s.map (putB lo hi)) z = if lo≤z∧z < hi then s else []:=by
  induction s with
  | nil=>simp [atB]
  | cons t s ih=>
    have e : atB (List.map (putB lo hi) (t::s)) z = (if covB z (putB lo hi t) = true then [t] else []) ++ atB (s.map (putB lo hi)) z:=rfl
    rw [e,ih]
    have : covB z (putB lo hi t) = (decide (lo≤z) && decide (z < hi)):=rfl
    rw [this]
    by_cases a : lo≤z <;> by_cases b : z < hi <;> simp [a,b]
theorem q84 : ∀ {b : List (Grp qi)},CanG b→∀ z,atB (Ku putB b) z = secG b z
  | [],_,z=>rfl
  | g::r,h,z=>by
    have e : Ku putB (g::r) = g.sec.map (putB g.lo g.hi) ++ Ku putB r:=rfl
    rw [e,qou,qov,q84 h.tail z]
    by_cases a : g.lo≤z∧z < g.hi
    · rw [if_pos a,secG,if_pos a,q2q (y:=g.hi) (fun m c=>(h.nxt m c).1) a.2,List.append_nil]
    · rw [if_neg a,secG,if_neg a,List.nil_append]
theorem qhf {l : List qg} {a x : Int} (h : ∀ r∈l,covB a r = covB x r) : atB l a = atB l x:=by
  induction l with
  | nil=>rfl
  | cons r l ih=>
    have e : ∀ y,atB (r::l) y = (if covB y r = true then [J6 r] else []) ++ atB l y:=fun _=>rfl
    rw [e,e,h r qe,ih fun k b=>h k (by simp [b])]
theorem qbc {l : List qg} {x : Int} (h : ∀ r∈l,covB x r = false) : atB l x = []:=by
  induction l with
  | nil=>rfl
  | cons r l ih=>
    have e : atB (r::l) x = (if covB x r = true then [J6 r] else []) ++ atB l x:=rfl
    rw [e,h r qe,ih fun k a=>h k (by simp [a])];rfl
theorem qkp {p q : List qg} {r : qg} (h : r∈p∨r∈q) : r.Lo.Z∈zsOf p ++ zsOf q∧r.Hi.Z∈zsOf p ++ zsOf q:=by
  unfold zsOf
  simp only [List.mem_append,List.mem_flatMap]
  rcases h with h | h
  · exact ⟨.inl ⟨r,h,qe⟩,.inl ⟨r,h,qe⟩⟩
  · exact ⟨.inr ⟨r,h,qe⟩,.inr ⟨r,h,qe⟩⟩
theorem qfl (kind : Int) : mrgR kind [] [] = []:=by
  refine qdz (qc2 kind qe) .nil fun x y=>?_
  rw [qbr kind qe]
  have:=qew x y
  unfold Ki;simp [this]
theorem qks (kind : Int) {p q : List qg} (h : p.length + q.length≤100000) :
    ∃ f,mrgB kind p q = Ku putB f∧CanG f∧∀ z,secG f z = secB kind p q z:=by
  have t:=Zi p
  have u:=Zi q
  have hs:=(Jm (l:=zsOf p ++ zsOf q) (by simp;omega)).2.1
  obtain ⟨f,o,n,k⟩:=qkq putB (secB kind p q) hs.1
  refine ⟨f,o,n,fun x=>?_⟩
  rw [k]
  have g : ∀ r,(r∈p∨r∈q)→r.Lo.Z∈Qp (zsOf p ++ zsOf q)∧r.Hi.Z∈Qp (zsOf p ++ zsOf q):=fun r b=>
    ⟨(hs.2 _).2 (qkp b).1,(hs.2 _).2 (qkp b).2⟩
  refine qck _ hs.1 (fun a _ m c=>?_) (fun c=>?_) (fun c=>?_)
  · have d : ∀ r,(r∈p∨r∈q)→covB a r = covB x r:=fun r b=>by
      have j:=c _ (g r b).1
      have s:=c _ (g r b).2
      rw [Bool.eq_iff_iff,q20,q20];omega
    unfold secB
    rw [qhf fun r b=>d r (.inl b),qhf fun r b=>d r (.inr b)]
  · have d : ∀ r,(r∈p∨r∈q)→covB x r = false:=fun r b=>by
      have j:=c _ (g r b).1
      rw [← Bool.not_eq_true,q20];omega
    unfold secB
    rw [qbc fun r b=>d r (.inl b),qbc fun r b=>d r (.inr b),qfl]
  · have d : ∀ r,(r∈p∨r∈q)→covB x r = false:=fun r b=>by
      have j:=c _ (g r b).2
      rw [← Bool.not_eq_true,q20];omega
    unfold secB
    rw [qbc fun r b=>d r (.inl b),qbc fun r b=>d r (.inr b),qfl]
def CanB (l : List qg) : Prop:=∃ gs : List (Grp qi),l = Ku putB gs∧CanG gs∧∀ g∈gs,CanR g.sec
theorem CanB.nil : CanB []:=⟨[],rfl,⟨qe,qe⟩,qe⟩
theorem CanB.at {l : List qg} (h : CanB l) (z : Int) : CanR (atB l z):=by
  obtain ⟨d,rfl,b,a⟩:=h
  rw [q84 b]
  rcases qga (x:=z) d with e | ⟨g,c,_,_,e⟩
  · rw [e];exact .nil
  · rw [e];exact a g c
theorem qhr {a b : List qg} (f : CanB a) (hb : CanB b) (h : ∀ x y z,hasB a x y z↔hasB b x y z) : a = b:=by
  have g : ∀ z,atB a z = atB b z:=fun z=>qdz (f.at z) (hb.at z) fun x y=>by rw [q3b,q3b];exact h x y z
  obtain ⟨k,rfl,d,_⟩:=f
  obtain ⟨j,rfl,c,_⟩:=hb
  rw [qdy d c fun x=>by rw [← q84 d,← q84 c];exact g x]
theorem qhh {p q : List qg} (h : p.length + q.length≤100000) (z : Int) : (atB p z).length + (atB q z).length≤100000:=by
  have:=Jw p z;have:=Jw q z;omega
theorem q5e (kind : Int) {p q : List qg} (h : p.length + q.length≤100000) : CanB (mrgB kind p q):=by
  obtain ⟨f,d,a,c⟩:=qks kind h
  refine ⟨f,d,a,fun g b=>?_⟩
  have:=c g.lo
  rw [qg9 a g b _ (Int.le_refl _) (a.1 g b).1] at this
  rw [this];exact qc2 kind (qhh h _)
theorem qhg (kind : Int) {p q : List qg} (h : p.length + q.length≤100000) (z : Int) : atB (mrgB kind p q) z = secB kind p q z:=by
  obtain ⟨d,b,c,a⟩:=qks kind h
  rw [b,q84 c,a]
theorem q8m (kind : Int) {p q : List qg} (h : p.length + q.length≤100000) (x y z : Int) : hasB (mrgB kind p q) x y z↔Ki kind (hasB p x y z) (hasB q x y z):=by
  rw [← q3b,qhg kind h,secB,qbr kind (qhh h z),q3b,q3b]
theorem qjq {l : List qg} (h : l.length≤100000) (x y z : Int) : hasB (mrgB 2 l []) x y z↔hasB l x y z:=by
  rw [q8m 2 (by simpa using h),q3c];simp [q3a]
theorem qt1 {l : List qg} (a : l.length≤100000) (h : CanB l) : mrgB 2 l [] = l:=
  qhr (q5e 2 (by simpa using a)) h fun x y z=>qjq a x y z
theorem CanB.lt {l : List qg} (h : CanB l) : ∀ b∈l,b.Lo.X < b.Hi.X∧b.Lo.Y < b.Hi.Y∧b.Lo.Z < b.Hi.Z:=by
  obtain ⟨k,rfl,j,d⟩:=h
  intro r c
  obtain ⟨g,a,t,f,rfl⟩:=qkm.1 c
  have:=(d g a).lt t f
  exact ⟨this.1,this.2,(j.1 g a).1⟩
def vB (b : qg) : Prop:=(b.Lo.X < b.Hi.X∧b.Lo.Y < b.Hi.Y∧b.Lo.Z < b.Hi.Z)∧(-1000000≤b.Lo.X∧-1000000≤b.Lo.Y∧-1000000≤b.Lo.Z)∧b.Hi.X≤1000000∧b.Hi.Y≤1000000∧b.Hi.Z≤1000000
instance (b : qg) : Decidable (vB b):=by unfold vB;infer_instance
def InB (l : List qg) : Prop:=∀ x y z,hasB l x y z→(-1000000≤x∧x < 1000000)∧(-1000000≤y∧y < 1000000)∧(-1000000≤z∧z < 1000000)
theorem qgs {l : List qg} (h : ∀ r∈l,vB r) : InB l:=by
  rintro x y z ⟨r,a,b⟩
  have:=h r a
  unfold vB at this;omega
theorem CanB.vB {l : List qg} (h : CanB l) (hi : InB l) : ∀ r∈l,vB r:=by
  intro r a
  have d:=h.lt r a
  have b:=hi r.Lo.X r.Lo.Y r.Lo.Z ⟨r,a,q0⟩
  have c:=hi (r.Hi.X - 1) (r.Hi.Y - 1) (r.Hi.Z - 1) ⟨r,a,q0⟩
  unfold Go.Sh.vB;omega
theorem InB.mrg {kind : Int} {p q : List qg} (h : p.length + q.length≤100000) (hp : InB p) (c : InB q) : InB (mrgB kind p q):=fun x y z b=>by
  rcases qez ((q8m kind h x y z).1 b) with a | a
  · exact hp x y z a
  · exact c x y z a
theorem InB.nil : InB []:=fun x y z h=>absurd h (q3a x y z)
theorem qo7 {l : List qg} (h : ∀ b∈l,vB b) (z : Int) : ∀ r∈atB l z,vR r:=by
  intro r a
  obtain ⟨b,hb,_,rfl⟩:=qfe.1 a
  have:=h b hb
  unfold vB at this;unfold vR J6;simp only;omega
theorem InB.at {l : List qg} (h : InB l) (z : Int) : InR (atB l z):=fun x y a=>by
  have:=h x y z (q3b.1 a);exact ⟨this.1,this.2.1⟩
noncomputable def Qr (l : List qg) : Int:=if 400 < l.length then 4 else if ∀ b∈l,vB b then (if mrgB 2 l [] = l then 0 else 8) else 8
theorem Ya {l : List qg} : Qr l = 0↔l.length≤400∧(∀ b∈l,vB b)∧CanB l:=by
  unfold Qr
  constructor
  · intro h
    split at h
    · exact absurd h qs
    · rename_i d
      split at h
      · rename_i a
        split at h
        · rename_i c
          exact ⟨q0,a,c ▸ q5e 2 (by simp;omega)⟩
        · exact absurd h qs
      · exact absurd h qs
  · rintro ⟨d,a,c⟩
    rw [if_neg q0,if_pos a,if_pos (qt1 q0 c)]
theorem qmj (kind : Int) {p q : List qg} (h : p.length + q.length≤100000) (z : Int) : (secB kind p q z).length≤(mrgB kind p q).length:=by
  rw [← qhg kind h];exact Jw _ _
theorem qxv (kind : Int) {p q : List qi} (h : p.length + q.length≤100000) (x : Int) : (secJ kind p q x).length≤(mrgR kind p q).length:=by
  rw [← qih kind h];exact Ud _ _
noncomputable def mkB (l : List qg) : List qg × Int:=if 400 < l.length then ([],4) else if ∀ b∈l,vB b then (if 400 < (mrgB 2 l []).length then ([],4) else (mrgB 2 l [],0)) else ([],8)
noncomputable def jB (kind : Int) (p q : List qg) : List qg × Int:=
  if Qr p≠0 then ([],Qr p) else if Qr q≠0 then ([],Qr q) else if 400 < (mrgB kind p q).length then ([],4) else (mrgB kind p q,0)
noncomputable def mkR (l : List qi) : List qi × Int:=if 400 < l.length then ([],4) else if ∀ b∈l,vR b then (if 400 < (mrgR 2 l []).length then ([],4) else (mrgR 2 l [],0)) else ([],8)
noncomputable def jR (kind : Int) (p q : List qi) : List qi × Int:=
  if Yb p≠0 then ([],Yb p) else if Yb q≠0 then ([],Yb q) else if 400 < (mrgR kind p q).length then ([],4) else (mrgR kind p q,0)
end Go.Sh
