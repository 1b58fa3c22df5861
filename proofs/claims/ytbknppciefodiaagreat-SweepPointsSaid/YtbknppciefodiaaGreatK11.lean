/- Pt1 Pt2 Pt3 Pt4 Pt5 Pt6 Pt7 Qa1 Qa2 Qa3 -/
import Derived.Test.YtbknppciefodiaaGreatK10
namespace Go.Sh
open Go Go.Am
theorem Zu {α β : Type} {f : α→Option (α ⊕ β)} (st : Nat→α) (n : Nat) (b : β) (hs : ∀ k,k < n→f (st k) = some (.inl (st (k + 1)))) (hd : f (st n) = some (.inr b)) : ∀ {k : Nat},k≤n→loop f (st k) = some b:=by
  have key : ∀ m k,n - k = m→k≤n→loop f (st k) = some b:=by
    intro m
    induction m with
    | zero => intro k c a; obtain rfl : k = n := by omega
              exact Kh hd
    | succ m ih=>intro k c a;rw [Y3 (hs k q6)];exact ih (k + 1) q6 q6
  intro k a;exact key _ k rfl a
theorem w64s {k : Nat} {n : Nat} (h : k < n) (a : n≤1000000) : w64 ((k : Int) + 1) = ((k + 1 : Nat) : Int):=by rw [Qg q6];omega
theorem dlt {k n : Nat} (h : k < n) : decide ((k : Int) < (n : Int)) = true:=Q8 q6
theorem dnl {n : Nat} : decide ((n : Int) < (n : Int)) = false:=Q7 q6
theorem Jt {α β γ : Type} (src : List α) (b : src.length≤1000000) (h : α→List γ) (out : List γ) (fin : List γ→β) (f : Int × List γ→Option ((Int × List γ) ⊕ β))
    (hs : ∀ (k : Nat) (a : k < src.length) (o : List γ),o = out ++ (src.take k).flatMap h→f ((k : Int),o) = some (.inl (((k + 1 : Nat) : Int),o ++ h src[k])))
    (hd : ∀ o,f ((src.length : Int),o) = some (.inr (fin o))) : loop f (0,out) = some (fin (out ++ src.flatMap h)):=by
  have e : ∀ k (a : k < src.length),(src.take (k + 1)).flatMap h = (src.take k).flatMap h ++ h src[k]:=fun k a=>by
    rw [List.take_succ_eq_append_getElem a,List.flatMap_append,List.flatMap_cons,List.flatMap_nil,List.append_nil]
  have:=Zu (f:=f) (fun k=>((k : Int),out ++ (src.take k).flatMap h)) src.length (fin (out ++ src.flatMap h)) (fun k a=>by
    rw [hs k a _ rfl,e k a,List.append_assoc]) (by simp only [List.take_length];exact hd _) (Nat.zero_le _)
  simpa using this
theorem q93 {α β γ : Type} (src : List α) (h : α→γ) (out : List γ) (fin : List γ→β) (f : Int × List γ→Option ((Int × List γ) ⊕ β))
    (hs : ∀ (k : Nat) (a : k < src.length) (o : List γ),o.length = out.length + k→f ((k : Int),o) = some (.inl (((k + 1 : Nat) : Int),o ++ [h src[k]])))
    (hd : ∀ o,f ((src.length : Int),o) = some (.inr (fin o))) : loop f (0,out) = some (fin (out ++ src.map h)):=by
  have e : ∀ k (a : k < src.length),(src.take (k + 1)).map h = (src.take k).map h ++ [h src[k]]:=fun k a=>by
    rw [List.take_succ_eq_append_getElem a,List.map_append,List.map_cons,List.map_nil]
  have:=Zu (f:=f) (fun k=>((k : Int),out ++ (src.take k).map h)) src.length (fin (out ++ src.map h)) (fun k a=>by
    rw [hs k a _ (by simp;omega),e k a,List.append_assoc]) (by simp only [List.take_length];exact hd _) (Nat.zero_le _)
  simpa using this
theorem qcb {γ : Type} (g : γ→γ) (a b : List γ) (l : (a ++ b).length≤1000000) (f : Int × List γ→Option ((Int × List γ) ⊕ (List γ)))
    (hs : ∀ (k : Nat) (o : List γ) (h : k < o.length),o.length = (a ++ b).length→f ((k : Int),o) = some (.inl (((k + 1 : Nat) : Int),o.set k (g o[k]))))
    (hd : ∀ o : List γ,f ((o.length : Int),o) = some (.inr o)) : loop f ((a.length : Int),a ++ b) = some (a ++ b.map g):=by
  have m : a.length + b.length≤1000000:=by simpa using l
  have key:=Zu (f:=f) (fun k=>(((a.length + k : Nat) : Int),a ++ ((b.take k).map g ++ b.drop k))) b.length (a ++ b.map g) (fun k h=>by
    have c : (a ++ ((b.take k).map g ++ b.drop k)).length = (a ++ b).length:=by simp;omega
    have d : a.length + k < (a ++ ((b.take k).map g ++ b.drop k)).length:=by rw [c];simp;omega
    rw [hs (a.length + k) _ d c];have j : ((b.take k).map g).length = k:=by simp;omega
    have e : (a ++ ((b.take k).map g ++ b.drop k))[a.length + k]'d = b[k]:=by
      rw [List.getElem_append_right q6];rw [List.getElem_append_right (by rw [j];omega)];simp [List.length_take,Nat.min_eq_left (Nat.le_of_lt h)]
    rw [e];congr 4;rw [List.set_append,qp q6,List.set_append,qp (by rw [j];omega),j];have z : a.length + k - a.length - k = 0:=by omega
    rw [z,List.take_succ_eq_append_getElem h,List.drop_eq_getElem_cons h,List.set_cons_zero,List.map_append,List.map_cons,List.map_nil,List.append_assoc]
    rfl) (by
    simp only [List.take_length,List.drop_length,List.append_nil];have:=hd (a ++ b.map g)
    simpa using this) (Nat.zero_le _)
  simpa using key
theorem Z2 {α γ υ : Type} (l : List α) (c : α→Bool) (n : (k : Nat)→k < l.length→γ) (u : υ) (f : Int→Option (Int ⊕ (υ ⊕ γ)))
    (hs : ∀ (k : Nat) (h : k < l.length),f (k : Int) = some (if c l[k] = true then .inr (.inr (n k h)) else .inl ((k + 1 : Nat) : Int))) (hd : f (l.length : Int) = some (.inr (.inl u))) :
    ((∀ v∈l,c v = false)∧loop f 0 = some (.inl u))∨∃ k,∃ h : k < l.length,c l[k] = true∧(∀ j (d : j < k),c (l[j]'(q6)) = false)∧loop f 0 = some (.inr (n k h)):=by
  by_cases q : ∀ v∈l,c v = false
  · refine .inl ⟨q,?_⟩;exact Zu (f:=f) (fun k=>(k : Int)) l.length _ (fun k b=>by rw [hs k b,q _ (Kq b)];rfl) hd (Nat.zero_le _)
  · refine .inr ?_
    have : ∃ k,∃ h : k < l.length,c l[k] = true:=by
      refine Classical.byContradiction fun s=>q fun v r=>?_;obtain ⟨k,b,rfl⟩:=List.getElem_of_mem r;cases o : c l[k]
      · rfl
      · exact absurd ⟨k,b,o⟩ s
    have g : ∃ k,(∃ h : k < l.length,c l[k] = true)∧∀ j,j < k→¬ ∃ h : j < l.length,c l[j] = true:=by
      obtain ⟨k,b⟩:=this
      induction k using Nat.strongRecOn with
      | _ k ih=>
        by_cases d : ∃ j,j < k∧∃ h : j < l.length,c l[j] = true
        · obtain ⟨j,p,g⟩:=d;exact ih j p g
        · exact ⟨k,b,fun j p g=>d ⟨j,p,g⟩⟩
    obtain ⟨k,⟨b,o⟩,m⟩:=g
    have a : ∀ j (d : j < k),c (l[j]'(q6)) = false:=fun j d=>by
      cases h : c (l[j]'(q6))
      · rfl
      · exact absurd ⟨q6,h⟩ (m j d)
    refine ⟨k,b,o,a,?_⟩;exact Zu (f:=f) (fun k=>(k : Int)) k _ (fun j d=>by rw [hs j q6,a j d];rfl) (by rw [hs k b,qr o]) (Nat.zero_le _)
theorem qo3 : ∀ {l a b : List Int},Z4 l a→Z4 l b→a = b:=by
  have key : ∀ (a b : List Int),a.Pairwise (· < ·)→b.Pairwise (· < ·)→(∀ x,x∈a↔x∈b)→a = b:=by
    intro a
    induction a with
    | nil=>intro b _ _ h;cases b with
      | nil=>rfl
      | cons y b=>exact absurd ((h y).2 qe) qe
    | cons x a ih=>
      intro b d hb h
      cases b with
      | nil=>exact absurd ((h x).1 qe) qe
      | cons y b=>
        rw [List.pairwise_cons] at d hb
        have g : x = y:=by
          rcases List.mem_cons.1 ((h x).1 qe) with c | c
          · exact c
          · rcases List.mem_cons.1 ((h y).2 qe) with j | j
            · exact j.symm
            · have:=hb.1 _ c;have:=d.1 _ j;omega
        subst g;rw [ih b d.2 hb.2 fun z=>?_];constructor
        · intro f;rcases List.mem_cons.1 ((h z).1 (by simp [f])) with c | c
          · have:=d.1 _ f;omega
          · exact c
        · intro f;rcases List.mem_cons.1 ((h z).2 (by simp [f])) with c | c
          · have:=hb.1 _ f;omega
          · exact c
  intro l a b d hb;exact key a b d.1 hb.1 fun x=>(d.2 x).trans (hb.2 x).symm
def ltI (a b : Int) : Bool:=decide (a < b)
theorem swoI : Sort.SWO ltI where
  irrefl:=by intro x;simp [ltI]
  trans:=by intro x y z;simp only [ltI,decide_eq_true_eq];omega
  ntrans:=by intro x y z;simp only [ltI,decide_eq_false_iff_not];omega
theorem cmpI : Kx qO ltI (fun _=>True):=by
  intro x y _ _;refine ⟨sg x y,rfl,?_⟩;rw [J7];rfl
theorem qo2 (l : List Int) (d : l.length≤1000000) : ∃ ys,U7 l = some ys∧ys.Perm l∧ys.Pairwise (·≤·):=by
  obtain ⟨ys,c,g,f⟩:=qo1 cmpI swoI l d (fun _ _=>trivial);refine ⟨ys,by rw [q100];exact c,g,f.imp ?_⟩;intro a b h;simp only [ltI,decide_eq_false_iff_not] at h;omega
end Go.Sh
namespace Go.Sh
open Go Go.Am
structure CInv (p : List Int) (k k2 i : Nat) (a : List Int) : Prop where
  len : a.length = p.length
  hi : i≤k + k2 - 1
  same : ∀ j (h : j < p.length),k + k2 - 1≤j→a[j]? = some p[j]
  so : Z4 (p.take (k + k2)) (a.take i)
theorem qr2 {p : List Int} (hp : p.Pairwise (·≤·)) (hl : p.length≤1000000) {k b i : Nat} {a : List Int} (hk : 0 < k) (h2 : 0 < b) (u : k + b < p.length) (h : CInv p k b i a) :
    ∃ (z : Nat) (a' : List Int),q1z ((i : Int),(k,p.length - k),(b : Int),a) = some (.inl ((z : Int),(k,p.length - k),((b + 1 : Nat) : Int),a'))∧CInv p k (b + 1) z a':=by
  obtain ⟨h1,h3,o,h5,w⟩:=h;have hb : decide ((b : Int) < ((p.length - k : Nat) : Int)) = true:=dlt q6
  have r1 : idxW a (k,p.length - k) (b : Int) = some (p[k + b]):=by
    unfold idxW;rw [qr ⟨q6,q6⟩];simp only [Int.toNat_natCast];exact o (k + b) u q6
  have r2 : idxW a (k,p.length - k) (w64 ((b : Int) - 1)) = some (p[k + b - 1]):=by
    rw [Qg q6];have e : (b : Int) - 1 = ((b - 1 : Nat) : Int):=by omega
    rw [e];unfold idxW;rw [qr ⟨q6,q6⟩];simp only [Int.toNat_natCast];have:=o (k + b - 1) q6 q6;rw [show k + (b - 1) = k + b - 1 by omega];exact this
  have ah : p[k + b - 1]≤p[k + b]:=List.pairwise_iff_getElem.1 hp _ _ q6 u q6
  have g : p[k + b - 1]∈p.take (k + b):=by
    rw [List.mem_take_iff_getElem];exact ⟨k + b - 1,q6,rfl⟩
  have l : p.take (k + (b + 1)) = p.take (k + b) ++ [p[k + b]]:=by rw [← Nat.add_assoc,List.take_succ_eq_append_getElem u]
  have hw : w64 ((b : Int) + 1) = ((b + 1 : Nat) : Int):=w64s (n:=p.length) q6 hl;by_cases v : p[k + b] = p[k + b - 1]
  · refine ⟨i,a,?_,h1,q6,fun j q r=>o j q q6,?_⟩
    · have c : (p[k + b] != p[k + b - 1]) = false:=by rw [v];simp
      simp only [q1z,hb,Q1,r1,r2,qj,c,qy,hw]
    · rw [l];refine ⟨h5,fun x=>?_⟩;rw [w x];constructor
      · intro d;exact List.mem_append.2 (.inl d)
      · intro d;rcases List.mem_append.1 d with h | h
        · exact h
        · simp only [List.mem_singleton] at h;rw [h,v];exact g
  · have c : (p[k + b] != p[k + b - 1]) = true:=by simpa using v
    have m : i < a.length:=by omega
    have r3 : idx a (i : Int) = some a[i]:=Qt m;have s : w64 ((i : Int) + 1) = ((i + 1 : Nat) : Int):=w64s (n:=p.length) q6 hl;refine ⟨i + 1,a.set i p[k + b],?_,by simpa using h1,q6,fun j q r=>?_,?_⟩
    · simp only [q1z,hb,Q1,r1,r2,qj,c,r3,hw,s,Int.toNat_natCast]
    · rw [List.getElem?_set_ne q6];exact o j q q6
    · have e : (a.set i p[k + b]).take (i + 1) = a.take i ++ [p[k + b]]:=by
        rw [List.take_succ_eq_append_getElem (by simpa using m)];simp [List.take_set_of_le]
      rw [e,l];refine ⟨?_,fun x=>?_⟩
      · rw [List.pairwise_append];refine ⟨h5,qe,fun x d y hy=>?_⟩;simp only [List.mem_singleton] at hy;subst hy;have f:=(w x).1 d;rw [List.mem_take_iff_getElem] at f;obtain ⟨j,q,rfl⟩:=f
        have : p[j]≤p[k + b - 1]:=by
          by_cases t : j = k + b - 1
          · subst t;exact Int.le_refl _
          · exact List.pairwise_iff_getElem.1 hp _ _ q6 q6 q6
        omega
      · rw [List.mem_append,List.mem_append,w x]
theorem qr1 {p : List Int} (hp : p.Pairwise (·≤·)) (s : p.length≤1000000) {k : Nat} (w : 0 < k) (x : k < p.length) (y : Z4 (p.take (k + 1)) (p.take k)) :
    ∃ i : Nat,∃ a : List Int,loop q1z ((k : Int),(k,p.length - k),1,p) = some ((i : Int),a)∧a.length = p.length∧i≤p.length∧Z4 p (a.take i):=by
  have h:=J5 (f:=q1z) (mk:=fun d (c : Nat × List Int)=>((c.1 : Int),(k,p.length - k),((d : Nat) : Int),c.2)) (p.length - k) (fun d c=>0 < d∧CInv p k d c.1 c.2)
    (fun b=>∃ i : Nat,∃ a : List Int,b = ((i : Int),a)∧a.length = p.length∧i≤p.length∧Z4 p (a.take i))
    (fun d c n g=>by
      obtain ⟨m,a',q,t⟩:=qr2 hp s w g.1 q6 g.2
      exact .inl ⟨(m,a'),q,q6,t⟩)
    (fun c g=>by
      obtain ⟨l,o,h3,z,v⟩:=g;refine ⟨((c.1 : Int),c.2),?_,c.1,c.2,rfl,o,q6,?_⟩
      · simp only [q1z,dnl,qy]
      · rwa [List.take_of_length_le q6] at v)
    (k0:=1) (c0:=(k,p)) q6 ⟨q6,rfl,qe,fun j u _=>by simp [u],y⟩
  obtain ⟨b,hb,i,a,rfl,r⟩:=h;exact ⟨i,a,hb,r⟩
theorem qj7 {p : List Int} (hp : p.Pairwise (·≤·)) (y : p.length≤1000000) :
    ∃ w a,q14 p = some ((0,w),a)∧a.length = p.length∧w≤p.length∧Z4 p (a.take w):=by
  unfold q14;by_cases hs : p.length < 2
  · rw [Q8 (by omega : (p.length : Int) < 2),Q1];refine ⟨p.length,p,rfl,rfl,Nat.le_refl _,?_⟩;rw [List.take_length];refine ⟨?_,fun x=>Iff.rfl⟩
    match p,hs with
    | [],_=>simp
    | [x],_=>simp
  rw [Q7 (by omega : ¬ (p.length : Int) < 2),qy]
  have b : ∀ k,k≤p.length→(∀ j (m : j < k),0 < j→∀ h : j < p.length,p[j]≠p[j - 1])→Z4 (p.take k) (p.take k):=by
    intro k n q;refine ⟨?_,fun x=>Iff.rfl⟩;rw [List.pairwise_iff_getElem];intro i j hi m af;simp only [List.length_take] at hi m;simp only [List.getElem_take];have g : p[j - 1]≤p[j]:=List.pairwise_iff_getElem.1 hp _ _ q6 q6 q6;have r:=q j q6 q6 q6
    have h3 : p[i]≤p[j - 1]:=by
      by_cases e : i = j - 1
      · subst e;exact Int.le_refl _
      · exact List.pairwise_iff_getElem.1 hp _ _ q6 q6 q6
    omega
  have c : ∀ k,0 < k→∀ h : k < p.length,p[k]≠p[k - 1]→Jj p (k : Int) = some (.inl ((k + 1 : Nat) : Int)):=by
    intro k o h q;have t : idx p (w64 ((k : Int) - 1)) = some (p[k - 1]):=by rw [Qg q6];exact J4 q6 q6
    have hb : (p[k] == p[k - 1]) = false:=by simpa using q
    simp only [Jj,dlt h,Q1,Qt h,t,qj,hb,qy,w64s h y]
  by_cases v : ∀ j,0 < j→∀ h : j < p.length,p[j]≠p[j - 1]
  · have g : loop (Jj p) 1 = some (.inl ()):=by
      exact Zu (f:=Jj p) (fun k=>((k + 1 : Nat) : Int)) (p.length - 1) _ (fun k n=>by
        exact c (k + 1) q6 q6 (v (k + 1) q6 q6)) (by
        show Jj p (((p.length - 1) + 1 : Nat) : Int) = _;rw [show p.length - 1 + 1 = p.length by omega]
        simp only [Jj,dnl,qy]) (Nat.zero_le _)
    rw [g];refine ⟨p.length,p,rfl,rfl,Nat.le_refl _,?_⟩;have:=b p.length (Nat.le_refl _) fun j _ o h=>v j o h;rw [List.take_length] at this ⊢;exact this
  · have r : ∃ k,(0 < k∧∃ h : k < p.length,p[k] = p[k - 1])∧∀ j,j < k→¬ (0 < j∧∃ h : j < p.length,p[j] = p[j - 1]):=by
      have : ∃ k,0 < k∧∃ h : k < p.length,p[k] = p[k - 1]:=by
        refine Classical.byContradiction fun hn=>v fun j o h d=>hn ⟨j,o,h,d⟩
      obtain ⟨k,n⟩:=this
      induction k using Nat.strongRecOn with
      | _ k ih=>
        by_cases m : ∃ j,j < k∧(0 < j∧∃ h : j < p.length,p[j] = p[j - 1])
        · obtain ⟨j,g,r⟩:=m;exact ih j g r
        · exact ⟨k,n,fun j g r=>m ⟨j,g,r⟩⟩
    obtain ⟨k,⟨o,n,d⟩,l⟩:=r;have u : Z4 (p.take k) (p.take k):=b k q6 fun j m o h d=>l j m ⟨o,h,d⟩
    have s : Z4 (p.take (k + 1)) (p.take k):=by
      refine ⟨u.1,fun x=>?_⟩;rw [List.take_succ_eq_append_getElem n,List.mem_append];refine ⟨.inl,fun h=>h.elim id fun h=>?_⟩;simp only [List.mem_singleton] at h;rw [h,d,List.mem_take_iff_getElem];exact ⟨k - 1,q6,rfl⟩
    obtain ⟨i,a,e1,e2,e3,e4⟩:=qr1 hp y o n s;have s1 : sub2 p.length (k : Int) (p.length : Int) = some (k,p.length - k):=by unfold sub2;rw [qr ⟨q6,q6,q6⟩];simp
    have z : sub2 a.length (i : Int) (a.length : Int) = some (i,a.length - i):=by unfold sub2;rw [qr ⟨q6,q6,q6⟩];simp
    have s3 : sub2 a.length 0 (i : Int) = some (0,i):=by unfold sub2;rw [qr ⟨q6,q6,q6⟩];simp
    have t : idx p (w64 ((k : Int) - 1)) = some (p[k - 1]):=by rw [Qg q6];exact J4 q6 q6
    have g : loop (Jj p) 1 = some (.inr ((0,i),clrw a (i,a.length - i) 0)):=by
      exact Zu (f:=Jj p) (fun k=>((k + 1 : Nat) : Int)) (k - 1) _ (fun j m=>by
        exact c (j + 1) q6 q6 fun d=>l (j + 1) q6 ⟨q6,q6,d⟩) (by
        show Jj p (((k - 1) + 1 : Nat) : Int) = _;rw [show k - 1 + 1 = k by omega];have hb : (p[k] == p[k - 1]) = true:=by simpa using d
        simp only [Jj,dlt n,Q1,Qt n,t,qj,hb,s1,e1,z,s3]) (Nat.zero_le _)
    rw [g];refine ⟨i,clrw a (i,a.length - i) 0,rfl,by rw [qiy (by simp;omega)];exact e2,e3,?_⟩
    have : (clrw a (i,a.length - i) 0).take i = a.take i:=by
      unfold clrw splice;rw [List.append_assoc,List.take_append_of_le_length (by simp;omega)];simp [List.take_take]
    rw [this];exact e4
end Go.Sh
namespace Go.Sh
open Go Go.Am
theorem q8v {α : Type} [DecidableEq α] (e : α→α→Bool) (g : ∀ v w,e v w = decide (v = w)) (p q : List α) (n : p.length≤1000000) (f : Int→Option (Int ⊕ (Unit ⊕ Bool)))
    (j : ∀ k,f k = cond (decide (k < (p.length : Int))) ((idx p k).bind fun v=>(idx q k).bind fun w=>cond (!(e v w)) (some (.inr (.inr false))) (some (.inl (w64 (k + 1))))) (some (.inr (.inl ())))) :
    cond ((p.length : Int) != (q.length : Int)) (some false) ((loop f 0).bind fun m=>(match m with | .inl _=>some true | .inr x=>some x)) = some (decide (p = q)):=by
  by_cases a : p.length = q.length
  · have : ((p.length : Int) != (q.length : Int)) = false:=by rw [a];simp
    rw [this,qy]
    let c : Nat→Bool:=fun k=>if h : k < p.length then !(e p[k] (q[k]'(q6))) else false
    have hs : ∀ (k : Nat) (h : k < (List.range p.length).length),f (k : Int) = some (if c (List.range p.length)[k] = true then .inr (.inr false) else .inl ((k + 1 : Nat) : Int)):=by
      intro k h;have h : k < p.length:=by simpa using h
      rw [j];simp only [dlt h,Q1,Qt h,Qt (xs:=q) (k:=k) q6,qj,List.getElem_range,c,dif_pos h,w64s h n];cases e p[k] (q[k]'(q6)) <;> simp
    have hd : f ((List.range p.length).length : Int) = some (.inr (.inl ())):=by rw [j];simp []
    rcases Z2 (List.range p.length) c (fun _ _=>false) () f hs hd with ⟨r,b⟩ | ⟨k,s,d,_,b⟩
    · rw [b]
      have : p = q:=by
        refine List.ext_getElem a fun k l t=>?_;have:=r k (by simpa using l);simp only [c,dif_pos l,g,Bool.not_eq_false',decide_eq_true_eq] at this;exact this
      simp [this]
    · rw [b];have o : k < p.length:=by simpa using s
      have : p≠q:=by
        intro h;simp only [List.getElem_range,c,g,h] at d;simp at d
      simp [this]
  · have : ((p.length : Int) != (q.length : Int)) = true:=by simpa using (fun h : (p.length : Int) = q.length=>a q6)
    rw [this,Q1];have : p≠q:=fun h=>a (by rw [h]);simp [this]
theorem qjm (p q : List qk) (a : p.length≤1000000) : q9z p q = some (decide (p = q)):=
  q8v (fun v w=>((v.Lo == w.Lo) && ((v.Hi == w.Hi) && true))) (fun v w=>by cases v;cases w;rw [Bool.eq_iff_iff];simp) p q a (qdk p q) (fun _=>rfl)
theorem qn7 (p q : List qk) (a : p.length≤1000000) : q5t p q = some (decide (p = q)):=
  q8v (fun v w=>((v.Lo == w.Lo) && ((v.Hi == w.Hi) && true))) (fun v w=>by cases v;cases w;rw [Bool.eq_iff_iff];simp) p q a (qd0 p q) (fun _=>rfl)
theorem qfa (p q : List qi) (a : p.length≤1000000) : q6p p q = some (decide (p = q)):=
  q8v (fun v w=>((v.X0 == w.X0) && ((v.Y0 == w.Y0) && ((v.X1 == w.X1) && ((v.Y1 == w.Y1) && true))))) (fun v w=>by cases v;cases w;rw [Bool.eq_iff_iff];simp) p q a (qdi p q) (fun _=>rfl)
theorem qn6 (p q : List qi) (a : p.length≤1000000) : q5x p q = some (decide (p = q)):=
  q8v (fun v w=>((v.X0 == w.X0) && ((v.Y0 == w.Y0) && ((v.X1 == w.X1) && ((v.Y1 == w.Y1) && true))))) (fun v w=>by cases v;cases w;rw [Bool.eq_iff_iff];simp) p q a (qd1 p q) (fun _=>rfl)
theorem sameBox (p q : List qg) (a : p.length≤1000000) : q9l p q = some (decide (p = q)):=
  q8v (fun v w=>((v.Lo.X == w.Lo.X) && ((v.Lo.Y == w.Lo.Y) && ((v.Lo.Z == w.Lo.Z) && ((v.Hi.X == w.Hi.X) && ((v.Hi.Y == w.Hi.Y) && ((v.Hi.Z == w.Hi.Z) && true))))))) (fun v w=>by rcases v with ⟨⟨_,_,_⟩,⟨_,_,_⟩⟩;rcases w with ⟨⟨_,_,_⟩,⟨_,_,_⟩⟩;rw [Bool.eq_iff_iff];simp [and_assoc]) p q a (qd4 p q) (fun _=>rfl)
structure Mg (σ β : Type) where
  done : List β
  sec : List σ
  lo : Int
  hi : Int
section
variable {σ β : Type} [DecidableEq σ] (put : Int→Int→σ→β)
def Mg.flat (s : Mg σ β) : List β:=s.done ++ s.sec.map (put s.lo s.hi)
def addM (s : Mg σ β) (a b : Int) (c : List σ) : Mg σ β:=if c≠[]∧c = s.sec∧s.hi = a then ⟨s.done,s.sec,s.lo,b⟩ else ⟨s.flat put,c,a,b⟩
def Qy : Mg σ β:=⟨[],[],0,0⟩
def K0 (s0 : Mg σ β) (steps : List (Int × Int × List σ)) : Mg σ β:=steps.foldl (fun s t=>addM put s t.1 t.2.1 t.2.2) s0
theorem q3j {s0 : Mg σ β} {steps : List (Int × Int × List σ)} {i : Nat} (h : i < steps.length) : K0 put s0 (steps.take (i + 1)) = addM put (K0 put s0 (steps.take i)) steps[i].1 steps[i].2.1 steps[i].2.2:=by
  unfold K0;rw [List.take_succ_eq_append_getElem h,List.foldl_append];rfl
theorem qhy (s : Mg σ β) (a b : Int) (c : List σ) : (addM put s a b c).hi = b:=by unfold addM;split <;> rfl
theorem qpb (s : Mg σ β) (a b : Int) (c : List σ) : ((addM put s a b c).flat put).length≤(s.flat put).length + c.length:=by
  unfold addM;split
  · simp [Mg.flat]
  · simp [Mg.flat];omega
theorem qcd {s0 : Mg σ β} {M : Nat} : ∀ {steps : List (Int × Int × List σ)},(∀ t∈steps,t.2.2.length≤M)→((K0 put s0 steps).flat put).length≤(s0.flat put).length + steps.length * M:=by
  intro steps
  induction steps generalizing s0 with
  | nil=>intro _;simp [K0]
  | cons t r ih=>
    intro h;have c:=ih (s0:=addM put s0 t.1 t.2.1 t.2.2) fun u b=>h u (by simp [b]);have d:=qpb put s0 t.1 t.2.1 t.2.2;have f:=h t qe;have a : K0 put s0 (t::r) = K0 put (addM put s0 t.1 t.2.1 t.2.2) r:=rfl;rw [a];simp only [List.length_cons,Nat.succ_mul];omega
end
section
variable {σ : Type}
def Yv (cuts : List Int) (sec : Int→List σ) : List (Int × Int × List σ):=(cuts.zip cuts.tail).map fun c=>(c.1,c.2,sec c.1)
theorem q80 (a : List Int) (sec : Int→List σ) : (Yv a sec).length = a.length - 1:=by simp [Yv]
theorem q7z {a : List Int} {sec : Int→List σ} {i : Nat} (h : i < (Yv a sec).length) (b : i + 1 < a.length) : (Yv a sec)[i] = (a[i],a[i + 1],sec a[i]):=by
  simp [Yv]
theorem q132 {a : List Int} {sec : Int→List σ} {M : Nat} (h : ∀ x,(sec x).length≤M) : ∀ t∈Yv a sec,t.2.2.length≤M:=by
  intro t b;simp only [Yv,List.mem_map] at b;obtain ⟨c,_,rfl⟩:=b;exact h _
end
theorem q19 {σ β : Type} [DecidableEq σ] (put : Int→Int→σ→β) (s : Mg σ β) (a b : Int) (c : List σ) : (c≠[]∧c = s.sec∧s.hi = a∧addM put s a b c = ⟨s.done,s.sec,s.lo,b⟩)∨(¬ (c≠[]∧c = s.sec∧s.hi = a)∧addM put s a b c = ⟨s.flat put,c,a,b⟩):=by
  unfold addM;split
  · rename_i h;exact .inl ⟨h.1,h.2.1,h.2.2,rfl⟩
  · rename_i h;exact .inr ⟨h,rfl⟩
def putR (a b : Int) (t : qk) : qi:={X0:=a,Y0:=t.Lo,X1:=b,Y1:=t.Hi}
theorem qif (s : Mg qk qi) (a b : Int) (c : List qk) (z : (s.flat putR).length + c.length≤1000000) :
    q6e (s.flat putR) s.sec (s.done.length : Int) s.hi a b c = some ((addM putR s a b c).sec,((addM putR s a b c).done.length : Int),(addM putR s a b c).hi,(addM putR s a b c).flat putR):=by
  have d : s.sec.length≤1000000:=by have : (s.flat putR).length = s.done.length + s.sec.length:=(by simp [Mg.flat]);omega
  unfold q6e;rcases q19 putR s a b c with ⟨m,r,y,n⟩ | ⟨m,n⟩
  · have hb : decide ((c.length : Int) > 0) = true:=Q8 (by have:=List.length_pos_iff.2 m;omega);have w : (s.hi == a) = true:=by simpa using y
    rw [r] at hb;rw [n,r];simp only [hb,Q1,w,qj,qjm _ _ d,decide_true]
    have:=qcb (fun v : qi=>({X0:=v.X0,Y0:=v.Y0,X1:=b,Y1:=v.Y1} : qi)) s.done (s.sec.map (putR s.lo s.hi)) (by have : (s.done ++ s.sec.map (putR s.lo s.hi)).length = (s.flat putR).length:=rfl;omega) (q6f b) (fun k o f x=>by
      have l : (s.done ++ s.sec.map (putR s.lo s.hi)).length = (s.flat putR).length:=rfl
      simp only [q6f,dlt f,Q1,Qt f,qj,w64s f q6,Int.toNat_natCast]) (fun o=>by simp only [q6f,dnl,qy])
    rw [show s.flat putR = s.done ++ s.sec.map (putR s.lo s.hi) from rfl,this];simp only [qj,Mg.flat,List.map_map];rfl
  · rw [n]
    have u : ((cond (decide ((c.length : Int) > 0)) (some (s.hi == a)) (some false)).bind fun g=>(cond g ((q9z s.sec c).bind fun j=>some j) (some false))) = some false:=by
      by_cases l : c = []
      · subst l;simp
      · have hb : decide ((c.length : Int) > 0) = true:=Q8 (by have:=List.length_pos_iff.2 l;omega);simp only [hb,Q1,qj,qjm _ _ d];by_cases p : s.hi = a
        · have t : s.sec≠c:=fun h=>m ⟨l,h.symm,p⟩;simp [p,t]
        · have : (s.hi == a) = false:=by simpa using p
          simp [this]
    have q:=q93 c (putR a b) (s.flat putR) (fun o=>(c,((s.flat putR).length : Int),b,o)) (q6g c a b (s.flat putR)) (fun k f o x=>by
      simp only [q6g,dlt f,Q1,Qt f,qj,w64s f q6];rw [Y7 (by simp;omega)]
      rfl) (fun o=>by simp only [q6g,dnl,qy])
    rw [← Option.bind_assoc,u];simp only [qj,qy,q];simp [Mg.flat]
end Go.Sh
namespace Go.Sh
open Go Go.Am
def vR (r : qi) : Prop:=r.X0 < r.X1∧r.Y0 < r.Y1∧-1000000≤r.X0∧r.X0≤1000000∧-1000000≤r.X1∧r.X1≤1000000∧-1000000≤r.Y0∧r.Y0≤1000000∧-1000000≤r.Y1∧r.Y1≤1000000
instance (r : qi) : Decidable (vR r):=by unfold vR;infer_instance
theorem qrv (x : Int) : q2z x = some (decide (-1000000≤x∧x≤1000000)):=by
  unfold q2z;by_cases h : x ≥ -1000000 <;> by_cases a : x≤1000000 <;> simp [h,a] <;> omega
theorem qp0 (r : qi) : q6i r = some (decide (vR r)):=by
  unfold q6i;simp only [qrv,qr3,qj,vR];by_cases a : r.X0 < r.X1 <;> by_cases f : r.Y0 < r.Y1 <;> by_cases d : -1000000≤r.X0∧r.X0≤1000000 <;> by_cases b : -1000000≤r.X1∧r.X1≤1000000 <;> by_cases c : -1000000≤r.Y0∧r.Y0≤1000000 <;> by_cases g : -1000000≤r.Y1∧r.Y1≤1000000 <;> simp [a,f,d,b,c,g] <;> omega
def covR (x : Int) (r : qi) : Bool:=decide (r.X0≤x) && decide (x < r.X1)
def ysp (r : qi) : qk:={Lo:=r.Y0,Hi:=r.Y1}
def covS (l : List qi) (x : Int) : List qk:=l.flatMap fun r=>if covR x r = true then [ysp r] else []
def hasR (l : List qi) (x y : Int) : Prop:=∃ r∈l,r.X0≤x∧x < r.X1∧r.Y0≤y∧y < r.Y1
theorem qcp {l : List qi} {x : Int} {t : qk} : t∈covS l x↔∃ r∈l,covR x r = true∧t = ysp r:=by
  unfold covS;rw [List.mem_flatMap];constructor
  · rintro ⟨r,a,h⟩;split at h
    · rename_i b;simp only [List.mem_singleton] at h;exact ⟨r,a,b,h⟩
    · cases h
  · rintro ⟨r,a,b,rfl⟩;exact ⟨r,a,by simp [b]⟩
theorem q11 {l : List qi} {x y : Int} : has (covS l x) y↔hasR l x y:=by
  unfold has hasR;constructor
  · rintro ⟨t,h,a,c⟩;obtain ⟨r,b,d,rfl⟩:=qcp.1 h;simp only [covR,Bool.and_eq_true,decide_eq_true_eq] at d;exact ⟨r,b,d.1,d.2,a,c⟩
  · rintro ⟨r,b,a,c,g,f⟩;exact ⟨ysp r,qcp.2 ⟨r,b,by simp [covR,a,c],rfl⟩,g,f⟩
theorem Uq (l : List qi) (x : Int) : (covS l x).length≤l.length:=by
  unfold covS
  induction l with
  | nil=>simp
  | cons r l ih=>
    simp only [List.flatMap_cons,List.length_append,List.length_cons];have : (if covR x r = true then [ysp r] else []).length≤1:=by split <;> simp
    omega
theorem qjc {l : List qi} (h : ∀ r∈l,vR r) (x : Int) : ∀ t∈covS l x,vld t:=by
  intro t f;obtain ⟨r,b,_,rfl⟩:=qcp.1 f;obtain ⟨_,d,_,_,_,_,c,_,_,a⟩:=h r b;exact ⟨d,c,a⟩
def xsOf (l : List qi) : List Int:=l.flatMap fun r=>[r.X0,r.X1]
def ysOf (l : List qi) : List Int:=l.flatMap fun r=>[r.Y0,r.Y1]
theorem U9 (l : List qi) : (xsOf l).length = 2 * l.length:=by
  unfold xsOf;induction l with
  | nil=>rfl
  | cons r l ih=>simp only [List.flatMap_cons,List.length_append,List.length_cons,List.length_nil];omega
theorem qbo (l : List qi) : (ysOf l).length = 2 * l.length:=by
  unfold ysOf;induction l with
  | nil=>rfl
  | cons r l ih=>simp only [List.flatMap_cons,List.length_append,List.length_cons,List.length_nil];omega
theorem qjk {l : List qi} {x y : Int} (h : y∈ends (covS l x)) : y∈ysOf l:=by
  obtain ⟨t,b,h⟩:=q95.1 h;obtain ⟨r,a,_,rfl⟩:=qcp.1 b;unfold ysOf;rw [List.mem_flatMap];exact ⟨r,a,by rcases h with h | h <;> simp [h,ysp]⟩
noncomputable def Qx (l : List Int) : List Int:=(U5 l).getD []
theorem Jz {l : List Int} (a : l.length≤1000000) : U5 l = some (Qx l)∧Z4 l (Qx l)∧(Qx l).length≤l.length:=by
  obtain ⟨t,d,c,b⟩:=qo4 l a;unfold Qx;rw [d];exact ⟨rfl,c,b⟩
noncomputable def secJ (kind : Int) (p q : List qi) (x : Int) : List qk:=Jd kind (covS p x) (covS q x)
theorem qh5 (kind : Int) {p q : List qi} (h : p.length + q.length≤100000) (x : Int) : (secJ kind p q x).length≤2 * (p.length + q.length):=by
  have b:=Uq p x;have a:=Uq q x;have:=(q5c kind (covS p x) (covS q x) q6 q6).2.len;unfold secJ;omega
noncomputable def mrg (kind : Int) (p q : List qi) : Mg qk qi:=K0 putR Qy (Yv (Qx (xsOf p ++ xsOf q)) (secJ kind p q))
noncomputable def mrgR (kind : Int) (p q : List qi) : List qi:=(mrg kind p q).flat putR
theorem qc5 {p q : List qi} (h : p.length + q.length≤490) : U5 (xsOf p ++ xsOf q) = some (Qx (xsOf p ++ xsOf q))∧Z4 (xsOf p ++ xsOf q) (Qx (xsOf p ++ xsOf q))∧(Qx (xsOf p ++ xsOf q)).length≤2 * (p.length + q.length):=by
  have d:=U9 p;have f:=U9 q;obtain ⟨a,b,c⟩:=Jz (l:=xsOf p ++ xsOf q) (by simp;omega);exact ⟨a,b,by simp at c;omega⟩
theorem qf6 {p q : List qi} (h : p.length + q.length≤490) : U5 (ysOf p ++ ysOf q) = some (Qx (ysOf p ++ ysOf q))∧Z4 (ysOf p ++ ysOf q) (Qx (ysOf p ++ ysOf q))∧(Qx (ysOf p ++ ysOf q)).length≤2 * (p.length + q.length):=by
  have d:=qbo p;have f:=qbo q;obtain ⟨a,b,c⟩:=Jz (l:=ysOf p ++ ysOf q) (by simp;omega);exact ⟨a,b,by simp at c;omega⟩
theorem qln (kind : Int) {p q : List qi} (h : p.length + q.length≤490) (i : Nat) :
    ((K0 putR Qy ((Yv (Qx (xsOf p ++ xsOf q)) (secJ kind p q)).take i)).flat putR).length≤980 * 980:=by
  have c:=qcd putR (s0:=Qy) (M:=980) (steps:=(Yv (Qx (xsOf p ++ xsOf q)) (secJ kind p q)).take i) (fun t b=>by
    have:=q132 (M:=2 * (p.length + q.length)) (fun x=>qh5 kind q6 x) t (List.mem_of_mem_take b)
    omega)
  have a : ((Yv (Qx (xsOf p ++ xsOf q)) (secJ kind p q)).take i).length≤980:=by
    have:=(qc5 h).2.2;rw [List.length_take,q80];omega
  have f : (Qy.flat putR : List qi).length = 0:=rfl;have d : ((Yv (Qx (xsOf p ++ xsOf q)) (secJ kind p q)).take i).length * 980≤980 * 980:=Nat.mul_le_mul_right _ a;omega
theorem qth (l : List qi) (hl : l.length≤400) :
    (((idx [l] 0).bind fun j=>(loop (J6 j) (0,[])).bind fun y=>some y).bind fun f=>(U7 f).bind fun c=>(K4 c.length f.length).bind fun q=>(q14 c).bind fun b=>(K4 b.2.length c.length).bind fun n=>(q17 b.2.length b.1).bind fun p=>some ((b.2.drop b.1.1).take b.1.2)) = some (Qx (xsOf l)):=by
  have e0 : idx [l] 0 = some l:=rfl
  have u : loop (J6 l) (0,[]) = some (xsOf l):=by
    have:=Jt l q6 (fun r=>[r.X0,r.X1]) [] (fun o=>o) (J6 l) (fun k h o v=>by
      have h8 : o.length = 2 * k:=by rw [v,List.nil_append];have:=U9 (l.take k);rw [List.length_take,Nat.min_eq_left q6] at this;exact this
      simp only [J6,dlt h,Q1,Qt h,qj,w64s h q6];rw [Y7 (by simp;omega)]
      rfl) (fun o=>by simp only [J6,dnl,qy])
    rw [List.nil_append] at this;exact this
  have hx:=U9 l;obtain ⟨ys,z,m,t⟩:=qo2 (xsOf l) q6;have g : ys.length = (xsOf l).length:=m.length_eq;obtain ⟨w,a,c1,c2,c3,c4⟩:=qj7 t q6;obtain ⟨_,s,_⟩:=Jz (l:=xsOf l) q6
  have d : a.take w = Qx (xsOf l):=by
    refine qo3 (l:=xsOf l) ⟨c4.1,fun x=>?_⟩ s;rw [c4.2 x];exact m.mem_iff
  simp only [e0,qj,u,z,K4,g,if_true,c1,c2,q17];rw [qr q6];simp only [qj,List.drop_zero,d]
theorem qg1 (l : List qi) (g : l.length≤400) (x : Int) : loop (Um l x) (0,[]) = some (covS l x):=by
  have:=Jt l q6 (fun r=>if covR x r = true then [ysp r] else []) [] (fun o=>o) (Um l x) (fun k b o d=>by
    have f : o.length≤k:=by rw [d,List.nil_append];have:=Uq (l.take k) x;rw [List.length_take,Nat.min_eq_left q6] at this;exact this
    simp only [Um,dlt b,Q1,Qt b,qj,w64s b q6];by_cases a : l[k].X0≤x
    · by_cases c : x < l[k].X1
      · simp only [a,c,decide_true,Q1,qj,covR,Bool.and_self,if_true];rw [Y7 (by simp;omega)];rfl
      · simp only [a,c,decide_true,decide_false,Q1,qy,qj,covR,Bool.and_false,if_false,Bool.false_eq_true,List.append_nil]
    · simp only [a,decide_false,qy,qj,covR,Bool.false_and,if_false,Bool.false_eq_true,List.append_nil]) (fun o=>by simp only [Um,dnl,qy])
  rw [List.nil_append] at this;exact this
theorem ql9 (l : List qi) (s : l.length≤400) (hv : ∀ r∈l,vR r) : q6h l = some (if 400 < (mrgR 2 l []).length then ([],4) else (mrgR 2 l [],0)):=by
  unfold q6h;rw [qth l s];simp only [qj];have c : Qx (xsOf l ++ xsOf []) = Qx (xsOf l):=by simp [xsOf]
  obtain ⟨_,o,a⟩:=qc5 (p:=l) (q:=[]) (by simp;omega);have d:=fun i=>qln 2 (p:=l) (q:=[]) (by simp;omega) i;rw [c] at o a;have a : (Qx (xsOf l)).length≤2 * l.length:=by simpa using a
  have g : loop (q30 (Qx (xsOf l)) l) (1,[],0,0,[]) = some ((mrg 2 l []).sec,((mrg 2 l []).done.length : Int),(mrg 2 l []).hi,mrgR 2 l []):=by
    unfold mrgR mrg;rw [c] at d ⊢;generalize h : Yv (Qx (xsOf l)) (secJ 2 l []) = steps at d ⊢;have y : steps.length = (Qx (xsOf l)).length - 1:=by rw [← h];exact q80 _ _
    have j : K0 putR Qy (steps.take steps.length) = K0 putR Qy steps:=by rw [List.take_length]
    have key:=Zu (f:=q30 (Qx (xsOf l)) l) (fun k=>(((k + 1 : Nat) : Int),(K0 putR Qy (steps.take k)).sec,((K0 putR Qy (steps.take k)).done.length : Int),(K0 putR Qy (steps.take k)).hi,(K0 putR Qy (steps.take k)).flat putR))
      steps.length ((K0 putR Qy steps).sec,((K0 putR Qy steps).done.length : Int),(K0 putR Qy steps).hi,(K0 putR Qy steps).flat putR) (fun k v=>by
        have b : k + 1 < (Qx (xsOf l)).length:=by omega
        have x : steps[k] = ((Qx (xsOf l))[k],(Qx (xsOf l))[k + 1],secJ 2 l [] (Qx (xsOf l))[k]):=by
          subst h;exact q7z v b
        have z : idx (Qx (xsOf l)) (w64 (((k + 1 : Nat) : Int) - 1)) = some (Qx (xsOf l))[k]:=by rw [Qg q6];exact J4 q6 q6
        have w:=Uq l (Qx (xsOf l))[k]
        have n : q7x (covS l (Qx (xsOf l))[k]) = some (secJ 2 l [] (Qx (xsOf l))[k],0):=by
          rw [qti];unfold qg2;rw [qp q6,qr (qjc hv _)];rfl
        have m:=qh5 2 (p:=l) (q:=[]) (by simp;omega) (Qx (xsOf l))[k];have t:=d k;have hb:=qif (K0 putR Qy (steps.take k)) (Qx (xsOf l))[k] (Qx (xsOf l))[k + 1] (secJ 2 l [] (Qx (xsOf l))[k]) (by simp at m;omega);rw [q3j putR v,x];simp only [q30,dlt b,Q1,z,Qt b,qj,show idx [l] 0 = some l from rfl,qg1 l s,n,hb,Bool.not_true,qy]
        rw [w64s b q6]) (by
        rw [j];by_cases h0 : (Qx (xsOf l)).length = 0
        · have : decide (((steps.length + 1 : Nat) : Int) < ((Qx (xsOf l)).length : Int)) = false:=Q7 q6;simp only [q30,this,qy]
        · have : decide (((steps.length + 1 : Nat) : Int) < ((Qx (xsOf l)).length : Int)) = false:=Q7 q6
          simp only [q30,this,qy]) (Nat.zero_le _)
    exact key
  rw [g];simp only [qj];by_cases u : 400 < (mrgR 2 l []).length
  · rw [Q8 (by omega : ((mrgR 2 l []).length : Int) > 400),qr u];rfl
  · rw [Q7 (by omega : ¬ ((mrgR 2 l []).length : Int) > 400),qp u];rfl
end Go.Sh
namespace Go.Sh
open Go Go.Am
theorem qw3 {p q : List qi} (h : p.length + q.length≤490) : q9e p q = some (Qx (xsOf p ++ xsOf q)):=by
  have f : loop (q3z p) (0,[]) = some (xsOf p):=by
    have:=Jt p q6 (fun r=>[r.X0,r.X1]) [] (fun o=>o) (q3z p) (fun k a o b=>by
      have c : o.length = 2 * k:=by rw [b,List.nil_append];have:=U9 (p.take k);rw [List.length_take,Nat.min_eq_left q6] at this;exact this
      simp only [q3z,dlt a,Q1,Qt a,qj,w64s a q6];rw [Y7 (by simp;omega)]
      rfl) (fun o=>by simp only [q3z,dnl,qy])
    rw [List.nil_append] at this;exact this
  have d : loop (q40 q) (0,xsOf p) = some (xsOf p ++ xsOf q):=by
    have hp:=U9 p
    exact Jt q q6 (fun r=>[r.X0,r.X1]) (xsOf p) (fun o=>o) (q40 q) (fun k a o b=>by
      have c : o.length = 2 * p.length + 2 * k:=by
        rw [b,List.length_append,hp];have:=U9 (q.take k);rw [List.length_take,Nat.min_eq_left q6] at this;unfold xsOf at this;omega
      simp only [q40,dlt a,Q1,Qt a,qj,w64s a q6];rw [Y7 (by simp;omega)]
      rfl) (fun o=>by simp only [q40,dnl,qy])
  unfold q9e;simp only [f,d,qj,(qc5 h).1]
theorem qw5 {p q : List qi} (h : p.length + q.length≤490) : q9f p q = some (Qx (ysOf p ++ ysOf q)):=by
  have f : loop (q41 p) (0,[]) = some (ysOf p):=by
    have:=Jt p q6 (fun r=>[r.Y0,r.Y1]) [] (fun o=>o) (q41 p) (fun k a o b=>by
      have c : o.length = 2 * k:=by rw [b,List.nil_append];have:=qbo (p.take k);rw [List.length_take,Nat.min_eq_left q6] at this;exact this
      simp only [q41,dlt a,Q1,Qt a,qj,w64s a q6];rw [Y7 (by simp;omega)]
      rfl) (fun o=>by simp only [q41,dnl,qy])
    rw [List.nil_append] at this;exact this
  have d : loop (q42 q) (0,ysOf p) = some (ysOf p ++ ysOf q):=by
    have hp:=qbo p
    exact Jt q q6 (fun r=>[r.Y0,r.Y1]) (ysOf p) (fun o=>o) (q42 q) (fun k a o b=>by
      have c : o.length = 2 * p.length + 2 * k:=by
        rw [b,List.length_append,hp];have:=qbo (q.take k);rw [List.length_take,Nat.min_eq_left q6] at this;unfold ysOf at this;omega
      simp only [q42,dlt a,Q1,Qt a,qj,w64s a q6];rw [Y7 (by simp;omega)]
      rfl) (fun o=>by simp only [q42,dnl,qy])
  unfold q9f;simp only [f,d,qj,(qf6 h).1]
open Classical in
theorem qmf (l : List qi) (x y : Int) (g : l.length≤1000000) : q5u l x y = some (decide (hasR l x y)):=by
  let c : qi→Bool:=fun r=>decide (r.X0≤x) && (decide (x < r.X1) && (decide (r.Y0≤y) && decide (y < r.Y1)))
  have hs : ∀ (k : Nat) (h : k < l.length),q2v l x y (k : Int) = some (if c l[k] = true then .inr (.inr true) else .inl ((k + 1 : Nat) : Int)):=by
    intro k h;simp only [q2v,dlt h,Q1,Qt h,qj,w64s h g,c];by_cases d : l[k].X0≤x <;> by_cases b : x < l[k].X1 <;> by_cases p : l[k].Y0≤y <;> by_cases f : y < l[k].Y1 <;> simp [d,b,p,f]
  have hd : q2v l x y (l.length : Int) = some (.inr (.inl ())):=by simp only [q2v,dnl,qy]
  unfold q5u;rcases Z2 l c (fun _ _=>true) () (q2v l x y) hs hd with ⟨d,b⟩ | ⟨k,o,a,_,b⟩
  · rw [b]
    have : ¬ hasR l x y:=by
      rintro ⟨r,n,m,j,q,s⟩;have:=d r n;simp [c,m,j,q,s] at this
    simp [this]
  · rw [b]
    have : hasR l x y:=by
      simp only [c,Bool.and_eq_true,decide_eq_true_eq] at a;exact ⟨l[k],Kq o,a.1,a.2.1,a.2.2.1,a.2.2.2⟩
    simp [this]
theorem qfr {kind : Int} {a b : Prop} (h : Y2 kind a b) : a∨b:=by
  rcases h with ⟨_,h,_⟩ | ⟨_,h⟩ | ⟨_,_,h,_⟩
  · exact .inl h
  · exact h
  · exact .inl h
theorem qkn {kind : Int} {a b a' c : Prop} (f : a↔a') (d : b↔c) : Y2 kind a b↔Y2 kind a' c:=by
  unfold Y2;rw [f,d]
open Classical in
theorem qq4 (kind : Int) {p q : List qi} (h : p.length + q.length≤490) (x : Int) :
    q3t (Qx (ysOf p ++ ysOf q)) ((Qx (ysOf p ++ ysOf q)).map fun y=>decide (Y2 kind (hasR p x y) (hasR q x y))) = some (secJ kind p q x):=by
  obtain ⟨_,a,f⟩:=qf6 h;generalize Qx (ysOf p ++ ysOf q) = ys at a f ⊢;obtain ⟨c,o,k⟩:=qio ys (ys.map fun y=>decide (Y2 kind (hasR p x y) (hasR q x y))) a.1 q6 qe;rw [o];have r:=Uq p x;have s:=Uq q x;have l:=(q5c kind (covS p x) (covS q x) q6 q6).2;have mp : ∀ z∈ends (covS p x),z∈ys:=fun z j=>(a.2 z).2 (List.mem_append.2 (.inl (qjk j)));have mq : ∀ z∈ends (covS q x),z∈ys:=fun z j=>(a.2 z).2 (List.mem_append.2 (.inr (qjk j)));congr 1;refine q52 k.can l.can fun z=>?_;unfold secJ;rw [k.pts z,l.pts z];constructor
  · rintro ⟨i,hi,n,_,g,d,b⟩;simp only [List.getElem_map,decide_eq_true_eq] at g;refine (qkn ?_ ?_).2 g
    · rw [q33 a.1 mp hi d b,q11]
    · rw [q33 a.1 mq hi d b,q11]
  · intro m
    have : ∃ i,∃ (h : i + 1 < ys.length),ys[i]≤z∧z < ys[i + 1]:=by
      rcases qfr m with h | h
      · exact qch a.1 mp h
      · exact qch a.1 mq h
    obtain ⟨i,hi,d,b⟩:=this;refine ⟨i,hi,by simp;omega,q6,?_,d,b⟩;simp only [List.getElem_map,decide_eq_true_eq];refine (qkn ?_ ?_).1 m
    · rw [q33 a.1 mp hi d b,q11]
    · rw [q33 a.1 mq hi d b,q11]
open Classical in
theorem qt0 (kind : Int) {p q : List qi} (h : p.length + q.length≤490) (ys xs : List Int) (c : ys.length≤1000000) (i : Nat) (hi : i < xs.length) (a : List qk × Int × Int × List qi) (d : a.2.2.1 = i) :
    loop (q3x ys xs a p q kind) (0,[]) = some (ys.map fun y=>decide (Y2 kind (hasR p xs[i] y) (hasR q xs[i] y))):=by
  have:=q93 ys (fun y=>decide (Y2 kind (hasR p xs[i] y) (hasR q xs[i] y))) [] (fun o=>o) (q3x ys xs a p q kind) (fun k b o f=>by
    simp only [q3x,dlt b,Q1,d,Qt b,Qt hi,qj,qmf p _ _ q6,qmf q _ _ q6,qko,w64s b c];rw [Y7 (by simp at f ⊢;omega)]
    rfl) (fun o=>by simp only [q3x,dnl,qy])
  rw [List.nil_append] at this;exact this
theorem qt1 (kind : Int) {p q : List qi} (h : p.length + q.length≤490) {xs : List Int} (hx : xs.length≤1000000) {i : Nat} (hi : i + 1 < xs.length) (s : Mg qk qi) (hl : (s.flat putR).length + (secJ kind p q xs[i]).length≤1000000)
    (h0 : i = 0→s.sec = []) (h1 : 0 < i→s.hi = xs[i]) :
    q2w xs (Qx (ysOf p ++ ysOf q)) p q kind (s.sec,(s.done.length : Int),(i : Int),s.flat putR) =
      some (.inl ((addM putR s xs[i] xs[i + 1] (secJ kind p q xs[i])).sec,((addM putR s xs[i] xs[i + 1] (secJ kind p q xs[i])).done.length : Int),((i + 1 : Nat) : Int),(addM putR s xs[i] xs[i + 1] (secJ kind p q xs[i])).flat putR)):=by
  have j : i < xs.length:=by omega
  have w : w64 ((i : Int) + 1) = ((i + 1 : Nat) : Int):=w64s j hx;have hy:=(qf6 h).2.2;have ag : (s.flat putR).length = s.done.length + s.sec.length:=by simp [Mg.flat]
  have r:=qt0 kind h (Qx (ysOf p ++ ysOf q)) xs q6 i j (s.sec,(s.done.length : Int),(i : Int),s.flat putR) rfl;unfold q2w;simp only [w,dlt hi,Q1,r,qj,qq4 kind h];generalize hc : secJ kind p q xs[i] = c at hl ⊢;by_cases a : 0 < i∧c = s.sec
  · obtain ⟨d,f⟩:=a;have hb : decide ((i : Int) > 0) = true:=Q8 q6
    have b:=qcb (fun v : qi=>({X0:=v.X0,Y0:=v.Y0,X1:=xs[i + 1],Y1:=v.Y1} : qi)) s.done (s.sec.map (putR s.lo s.hi)) (by simp;omega) (q3y xs (s.sec,(s.done.length : Int),(i : Int),s.flat putR)) (fun k o l ho=>by
      have h5 : (s.done ++ s.sec.map (putR s.lo s.hi)).length = (s.flat putR).length:=rfl
      simp only [q3y,dlt l,Q1,Qt l,Qt hi,w,qj,w64s l q6,Int.toNat_natCast]) (fun o=>by simp only [q3y,dnl,qy])
    have y : q5t c s.sec = some true:=by rw [qn7 _ _ q6];simp [f]
    have b : loop (q3y xs (s.sec,(s.done.length : Int),(i : Int),s.flat putR)) ((s.done.length : Int),s.flat putR) = _:=b;simp only [hb,Q1,y,qj,b];rcases q19 putR s xs[i] xs[i + 1] c with ⟨_,_,_,g⟩ | ⟨h3,g⟩
    · rw [g];simp only [Mg.flat,List.map_map];rfl
    · have t : c = []:=Classical.byContradiction fun hn=>h3 ⟨hn,f,h1 d⟩;rw [g];simp [Mg.flat,← f,t]
  · have m : (cond (decide ((i : Int) > 0)) ((q5t c s.sec).bind fun n=>some n) (some false)) = some false:=by
      by_cases d : 0 < i
      · have hb : decide ((i : Int) > 0) = true:=Q8 q6;have x : c≠s.sec:=fun h=>a ⟨d,h⟩;rw [hb,Q1,qn7 _ _ q6];simp [x]
      · have hb : decide ((i : Int) > 0) = false:=Q7 q6;rw [hb,qy]
    have u:=q93 c (putR xs[i] xs[i + 1]) (s.flat putR) (fun o=>(c,((s.flat putR).length : Int),o)) (q5v c xs (s.sec,(s.done.length : Int),(i : Int),s.flat putR)) (fun k l o ho=>by
      simp only [q5v,dlt l,Q1,Qt l,Qt j,Qt hi,w,qj,w64s l q6];rw [Y7 (by simp;omega)]
      rfl) (fun o=>by simp only [q5v,dnl,qy])
    have g : addM putR s xs[i] xs[i + 1] c = ⟨s.flat putR,c,xs[i],xs[i + 1]⟩:=by
      rcases q19 putR s xs[i] xs[i + 1] c with ⟨g1,z,_,_⟩ | ⟨_,g⟩
      · refine absurd ?_ a;refine ⟨Nat.pos_of_ne_zero fun h=>g1 ?_,z⟩;rw [z,h0 h]
      · exact g
    rw [g];simp only [m,qj,qy,u];simp [Mg.flat]
theorem q5w (kind : Int) {p q : List qi} (h : p.length + q.length≤490) : Jh kind p q = some (mrgR kind p q):=by
  unfold Jh;rw [qw3 h,qw5 h];simp only [qj];obtain ⟨_,g,d⟩:=qc5 h;have a:=fun i=>qln kind h i;unfold mrgR mrg;generalize Qx (xsOf p ++ xsOf q) = xs at g d a ⊢;generalize b : Yv xs (secJ kind p q) = steps at a ⊢;have s : steps.length = xs.length - 1:=by rw [← b];exact q80 _ _
  have key:=Zu (f:=q2w xs (Qx (ysOf p ++ ysOf q)) p q kind) (fun k=>((K0 putR Qy (steps.take k)).sec,((K0 putR Qy (steps.take k)).done.length : Int),(k : Int),(K0 putR Qy (steps.take k)).flat putR))
    steps.length ((K0 putR Qy steps).flat putR) (fun k n=>by
      have c : k + 1 < xs.length:=by omega
      have o : steps[k] = (xs[k],xs[k + 1],secJ kind p q xs[k]):=by subst b;exact q7z n c
      have r:=qh5 kind (p:=p) (q:=q) q6 xs[k];have j:=a k
      have:=qt1 kind h (xs:=xs) q6 c (K0 putR Qy (steps.take k)) q6 (fun t=>by subst t;rfl) (fun l=>by
        obtain ⟨m,rfl⟩ : ∃ m,k = m + 1:=⟨k - 1,q6⟩
        rw [q3j putR q6,qhy];subst b
        rw [q7z q6 q6])
      rw [this,q3j putR n,o]) (by
      rw [List.take_length]
      have hb : decide (w64 ((steps.length : Int) + 1) < (xs.length : Int)) = false:=by
        rw [Qg q6];exact Q7 q6
      unfold q2w
      simp only [hb,qy]) (Nat.zero_le _)
  have key : loop (q2w xs (Qx (ysOf p ++ ysOf q)) p q kind) ([],0,0,[]) = some ((K0 putR Qy steps).flat putR):=key;rw [key];rfl
end Go.Sh
namespace Go.Sh
open Go Go.Am
noncomputable def Yn (l : List qi) : Int:=if 400 < l.length then 4 else if ∀ r∈l,vR r then (if mrgR 2 l [] = l then 0 else 8) else 8
theorem qqs {l : List qi} (h : Yn l = 0) : l.length≤400∧(∀ r∈l,vR r)∧mrgR 2 l [] = l:=by
  unfold Yn at h;split at h
  · omega
  · split at h
    · split at h
      · rename_i a b c;exact ⟨q6,b,c⟩
      · omega
    · omega
theorem qwz (l : List qi) (j : l.length≤1000000) : q9x l (fun a=>q2x a) = some (decide (¬ ∀ r∈l,vR r)):=by
  have hs : ∀ (k : Nat) (h : k < l.length),q4c l (fun a=>q2x a) (k : Int) = some (if (fun r=>!decide (vR r)) l[k] = true then .inr (.inr (k : Int)) else .inl ((k + 1 : Nat) : Int)):=by
    intro k h;simp only [q4c,dlt h,Q1,Qt h,qj,w64s h j,q2x,qp0];by_cases c : vR l[k] <;> simp [c]
  have hd : q4c l (fun a=>q2x a) (l.length : Int) = some (.inr (.inl ())):=by simp only [q4c,dnl,qy]
  unfold q9x qdp;rcases Z2 l (fun r=>!decide (vR r)) (fun k _=>(k : Int)) () _ hs hd with ⟨d,b⟩ | ⟨k,g,m,_,b⟩
  · rw [b];have : ∀ r∈l,vR r:=fun r f=>by simpa using d r f
    simp [];omega
  · rw [b];have : ¬ ∀ r∈l,vR r:=fun h=>by simp [h _ (Kq g)] at m
    simp only [qj];rw [Q8 this,Q8 q6]
theorem qwt (l : List qi) : q6c l = some (Yn l):=by
  unfold q6c Yn;by_cases d : 400 < l.length
  · rw [Q8 (by omega : (l.length : Int) > 400),Q1,qr d]
  rw [Q7 (by omega : ¬ (l.length : Int) > 400),qy,qp d,qwz l q6,qj];by_cases a : ∀ r∈l,vR r
  · rw [Q7 (fun h=>h a),qy,ql9 l q6 a,qr a,qj];by_cases b : 400 < (mrgR 2 l []).length
    · have c : mrgR 2 l []≠l:=fun h=>by rw [h] at b;exact d b
      rw [qr b,qp c];rfl
    · rw [qp b];simp only [qfa (mrgR 2 l []) l q6];by_cases f : mrgR 2 l [] = l <;> simp [f]
  · rw [Q8 a,Q1,qp a]
def putB (a b : Int) (r : qi) : qg:={Lo:={X:=r.X0,Y:=r.Y0,Z:=a},Hi:={X:=r.X1,Y:=r.Y1,Z:=b}}
def qjv (z : Int) : Prop:=-1000000≤z∧z≤1000000
instance (z : Int) : Decidable (qjv z):=by unfold qjv;infer_instance
end Go.Sh
namespace Go.Sh
open Go Go.Am
def covB (z : Int) (b : qg) : Bool:=decide (b.Lo.Z≤z) && decide (z < b.Hi.Z)
def Ji (b : qg) : qi:={X0:=b.Lo.X,Y0:=b.Lo.Y,X1:=b.Hi.X,Y1:=b.Hi.Y}
def atB (l : List qg) (z : Int) : List qi:=l.flatMap fun b=>if covB z b = true then [Ji b] else []
theorem Ua (l : List qg) (x : Int) : (atB l x).length≤l.length:=by
  unfold atB
  induction l with
  | nil=>simp
  | cons r l ih=>
    simp only [List.flatMap_cons,List.length_append,List.length_cons];have : (if covB x r = true then [Ji r] else []).length≤1:=by split <;> simp
    omega
theorem qd2 (l : List qg) (d : l.length≤1000000) (z : Int) : U6 l z = some (atB l z):=by
  have:=Jt l d (fun b=>if covB z b = true then [Ji b] else []) [] (fun o=>o) (q61 l z) (fun k c o g=>by
    have h : o.length≤k:=by rw [g,List.nil_append];have:=Ua (l.take k) z;rw [List.length_take,Nat.min_eq_left q6] at this;exact this
    simp only [q61,dlt c,Q1,Qt c,qj,w64s c d];by_cases a : l[k].Lo.Z≤z
    · by_cases f : z < l[k].Hi.Z
      · simp only [a,f,decide_true,Q1,qj,covB,Bool.and_self,if_true];rw [Y7 (by simp;omega)];rfl
      · simp only [a,f,decide_true,decide_false,Q1,qy,qj,covB,Bool.and_false,if_false,Bool.false_eq_true,List.append_nil]
    · simp only [a,decide_false,qy,qj,covB,Bool.false_and,if_false,Bool.false_eq_true,List.append_nil]) (fun o=>by simp only [q61,dnl,qy])
  rw [List.nil_append] at this;unfold U6;rw [this];rfl
def zsOf (l : List qg) : List Int:=l.flatMap fun b=>[b.Lo.Z,b.Hi.Z]
theorem Zw (l : List qg) : (zsOf l).length = 2 * l.length:=by
  unfold zsOf;induction l with
  | nil=>rfl
  | cons r l ih=>simp only [List.flatMap_cons,List.length_append,List.length_cons,List.length_nil];omega
theorem qwb {p q : List qg} (h : p.length + q.length≤100000) : q9i p q = some (Qx (zsOf p ++ zsOf q)):=by
  have f : loop (q44 p) (0,[]) = some (zsOf p):=by
    have:=Jt p q6 (fun r=>[r.Lo.Z,r.Hi.Z]) [] (fun o=>o) (q44 p) (fun k a o b=>by
      have c : o.length = 2 * k:=by rw [b,List.nil_append];have:=Zw (p.take k);rw [List.length_take,Nat.min_eq_left q6] at this;exact this
      simp only [q44,dlt a,Q1,Qt a,qj,w64s a q6];rw [Y7 (by simp;omega)]
      rfl) (fun o=>by simp only [q44,dnl,qy])
    rw [List.nil_append] at this;exact this
  have d : loop (q45 q) (0,zsOf p) = some (zsOf p ++ zsOf q):=by
    have hp:=Zw p
    exact Jt q q6 (fun r=>[r.Lo.Z,r.Hi.Z]) (zsOf p) (fun o=>o) (q45 q) (fun k a o b=>by
      have c : o.length = 2 * p.length + 2 * k:=by
        rw [b,List.length_append,hp];have:=Zw (q.take k);rw [List.length_take,Nat.min_eq_left q6] at this;unfold zsOf at this;omega
      simp only [q45,dlt a,Q1,Qt a,qj,w64s a q6];rw [Y7 (by simp;omega)]
      rfl) (fun o=>by simp only [q45,dnl,qy])
  have g:=Zw p;have j:=Zw q;unfold q9i;simp only [f,d,qj,(Jz (l:=zsOf p ++ zsOf q) (by simp;omega)).1]
structure qhw (kind : Int) (p q : List qg) (z : Int) : Prop where
  n : (atB p z).length + (atB q z).length≤490
  m : (mrgR kind (atB p z) (atB q z)).length≤400
  mp : (mrgR 2 (atB p z) []).length≤400
  mq : (mrgR 2 (atB q z) []).length≤400
noncomputable def secB (kind : Int) (p q : List qg) (z : Int) : List qi:=mrgR kind (atB p z) (atB q z)
theorem qsz (kind : Int) {p q : List qg} (h : p.length + q.length≤100000) {xs : List Int} (hx : xs.length≤1000000) {i : Nat} (hi : i + 1 < xs.length) (y : qhw kind p q xs[i]) (s : Mg qi qg) (hl : (s.flat putB).length + 400≤1000000)
    (h0 : i = 0→s.sec = []) (h1 : 0 < i→s.hi = xs[i]) :
    q1w xs p q kind (s.sec,(s.done.length : Int),(i : Int),s.flat putB) =
      some (.inl ((addM putB s xs[i] xs[i + 1] (secB kind p q xs[i])).sec,((addM putB s xs[i] xs[i + 1] (secB kind p q xs[i])).done.length : Int),((i + 1 : Nat) : Int),(addM putB s xs[i] xs[i + 1] (secB kind p q xs[i])).flat putB)):=by
  have l : i < xs.length:=by omega
  have w : w64 ((i : Int) + 1) = ((i + 1 : Nat) : Int):=w64s l hx;have ah : (s.flat putB).length = s.done.length + s.sec.length:=by simp [Mg.flat]
  obtain ⟨t,x,ao,ak⟩:=y;have ap : U6 p xs[i] = some (atB p xs[i]):=qd2 p q6 _;have aq : U6 q xs[i] = some (atB q xs[i]):=qd2 q q6 _;have jj : Jh kind (atB p xs[i]) (atB q xs[i]) = some (secB kind p q xs[i]):=q5w kind t;have jp : Jh 2 (atB p xs[i]) [] = some (mrgR 2 (atB p xs[i]) []):=q5w 2 (by simp;omega);have jq : Jh 2 (atB q xs[i]) [] = some (mrgR 2 (atB q xs[i]) []):=q5w 2 (by simp;omega);have x : (secB kind p q xs[i]).length≤400:=x;have d1 : decide (((secB kind p q xs[i]).length : Int) > 400) = false:=Q7 q6;have d2 : decide (((mrgR 2 (atB p xs[i]) []).length : Int) > 400) = false:=Q7 q6;have d3 : decide (((mrgR 2 (atB q xs[i]) []).length : Int) > 400) = false:=Q7 q6;unfold q1w;simp only [w,dlt hi,Q1,Qt l,ap,aq,jj,jp,jq,d1,d2,d3,qy,qj];generalize hc : secB kind p q xs[i] = c at x ⊢;by_cases a : 0 < i∧c = s.sec
  · obtain ⟨d,j⟩:=a;have hb : decide ((i : Int) > 0) = true:=Q8 q6
    have b:=qcb (fun v : qg=>({Lo:=v.Lo,Hi:=({X:=v.Hi.X,Y:=v.Hi.Y,Z:=xs[i + 1]} : Q3)} : qg)) s.done (s.sec.map (putB s.lo s.hi)) (by simp;omega) (q47 xs (s.sec,(s.done.length : Int),(i : Int),s.flat putB)) (fun k o g ho=>by
      have h5 : (s.done ++ s.sec.map (putB s.lo s.hi)).length = (s.flat putB).length:=rfl
      simp only [q47,dlt g,Q1,Qt g,Qt hi,w,qj,w64s g q6,Int.toNat_natCast]) (fun o=>by simp only [q47,dnl,qy])
    have aa : q5x c s.sec = some true:=by rw [qn6 _ _ q6];simp [j]
    have b : loop (q47 xs (s.sec,(s.done.length : Int),(i : Int),s.flat putB)) ((s.done.length : Int),s.flat putB) = _:=b;simp only [hb,Q1,aa,qj,b];rcases q19 putB s xs[i] xs[i + 1] c with ⟨_,_,_,f⟩ | ⟨h3,f⟩
    · rw [f];simp only [Mg.flat,List.map_map];rfl
    · have r : c = []:=Classical.byContradiction fun t=>h3 ⟨t,j,h1 d⟩;rw [f];simp [Mg.flat,← j,r]
  · have m : (cond (decide ((i : Int) > 0)) ((q5x c s.sec).bind fun n=>some n) (some false)) = some false:=by
      by_cases d : 0 < i
      · have hb : decide ((i : Int) > 0) = true:=Q8 q6;have z : c≠s.sec:=fun h=>a ⟨d,h⟩;rw [hb,Q1,qn6 _ _ q6];simp [z]
      · have hb : decide ((i : Int) > 0) = false:=Q7 q6;rw [hb,qy]
    have u:=q93 c (putB xs[i] xs[i + 1]) (s.flat putB) (fun o=>(c,((s.flat putB).length : Int),o)) (q65 c xs (s.sec,(s.done.length : Int),(i : Int),s.flat putB)) (fun k g o ho=>by
      simp only [q65,dlt g,Q1,Qt g,Qt l,Qt hi,w,qj,w64s g q6];rw [Y7 (by simp;omega)]
      rfl) (fun o=>by simp only [q65,dnl,qy])
    have f : addM putB s xs[i] xs[i + 1] c = ⟨s.flat putB,c,xs[i],xs[i + 1]⟩:=by
      rcases q19 putB s xs[i] xs[i + 1] c with ⟨g1,g2,_,_⟩ | ⟨_,f⟩
      · refine absurd ?_ a;refine ⟨Nat.pos_of_ne_zero fun h=>g1 ?_,g2⟩;rw [g2,h0 h]
      · exact f
    rw [f];simp only [m,qj,qy,u];simp [Mg.flat]
noncomputable def mrgB (kind : Int) (p q : List qg) : List qg:=(K0 putB Qy (Yv (Qx (zsOf p ++ zsOf q)) (secB kind p q))).flat putB
section
variable {σ β : Type} (put : Int→Int→σ→β)
def Alike (s t : Mg σ β) : Prop:=s = t∨(s.flat put = t.flat put∧s.sec = []∧t.sec = [])
theorem Alike.flat {s t : Mg σ β} (h : Alike put s t) : s.flat put = t.flat put:=by
  rcases h with rfl | h
  · rfl
  · exact h.1
end
section
variable {σ β : Type} [DecidableEq σ] (put : Int→Int→σ→β)
def runM (sec : Int→List σ) : Mg σ β→List Int→Mg σ β
  | s,a::b::r=>runM sec (addM put s a b (sec a)) (b::r)
  | s,_=>s
theorem qjy (sec : Int→List σ) : ∀ (c : List Int) (s : Mg σ β),K0 put s (Yv c sec) = runM put sec s c
  | [],s=>rfl
  | [a],s=>rfl
  | a::b::r,s=>by
    have:=qjy sec (b::r) (addM put s a b (sec a))
    simp only [runM,← this]
    rfl
theorem Alike.add {s t : Mg σ β} (h : Alike put s t) (a b : Int) (c : List σ) : Alike put (addM put s a b c) (addM put t a b c):=by
  rcases h with rfl | ⟨d,j,f⟩
  · exact .inl rfl
  · refine .inl ?_;rcases q19 put s a b c with ⟨o,m,_,_⟩ | ⟨_,k⟩
    · exact absurd (m.trans j) o
    · rcases q19 put t a b c with ⟨g,n,_,_⟩ | ⟨_,l⟩
      · exact absurd (n.trans f) g
      · rw [k,l,d]
end
end Go.Sh
namespace Go.Sh
open Go Go.Am
structure Grp (σ : Type) where
  lo : Int
  hi : Int
  sec : List σ
section
variable {σ β : Type}
def CanG (gs : List (Grp σ)) : Prop:=(∀ g∈gs,g.lo < g.hi∧g.sec≠[])∧gs.Pairwise (fun g h=>g.hi≤h.lo∧(g.hi = h.lo→g.sec≠h.sec))
def secG : List (Grp σ)→Int→List σ
  | [],_=>[]
  | g::r,x=>if g.lo≤x∧x < g.hi then g.sec else secG r x
def Y6 (put : Int→Int→σ→β) (gs : List (Grp σ)) : List β:=gs.flatMap fun g=>g.sec.map (put g.lo g.hi)
theorem qrx (put : Int→Int→σ→β) (a b : List (Grp σ)) : Y6 put (a ++ b) = Y6 put a ++ Y6 put b:=by simp [Y6]
theorem q32 {y x : Int} : ∀ {r : List (Grp σ)},(∀ h∈r,y≤h.lo)→x < y→secG r x = []
  | [],_,_=>rfl
  | g::r,h,hx=>by
    have:=h g qe
    rw [secG,qp q6]
    exact q32 (fun k a=>h k (by simp [a])) hx
theorem q6n {y x : Int} : ∀ {r : List (Grp σ)},(∀ h∈r,h.hi≤y)→y≤x→secG r x = []
  | [],_,_=>rfl
  | g::r,h,hx=>by
    have:=h g qe
    rw [secG,qp q6]
    exact q6n (fun k a=>h k (by simp [a])) hx
theorem q9s {x : Int} : ∀ {a b : List (Grp σ)},secG a x = []→(∀ g∈a,g.sec≠[])→secG (a ++ b) x = secG b x
  | [],_,_,_=>rfl
  | g::a,b,h,hne=>by
    rw [secG] at h
    split at h
    · exact absurd h (hne g qe)
    · rename_i c
      rw [List.cons_append,secG,qp c]
      exact q9s h fun k d=>hne k (by simp [d])
theorem qh2 {y x : Int} {a b : List (Grp σ)} (hb : ∀ h∈b,y≤h.lo) (c : x < y) : secG (a ++ b) x = secG a x:=by
  induction a with
  | nil=>exact q32 hb c
  | cons g a ih=>simp only [List.cons_append,secG,ih]
theorem CanG.tail {g : Grp σ} {r : List (Grp σ)} (h : CanG (g::r)) : CanG r:=⟨fun k a=>h.1 k (by simp [a]),(List.pairwise_cons.1 h.2).2⟩
theorem CanG.nxt {g : Grp σ} {r : List (Grp σ)} (h : CanG (g::r)) : ∀ k∈r,g.hi≤k.lo∧(g.hi = k.lo→g.sec≠k.sec):=(List.pairwise_cons.1 h.2).1
theorem q31 {g : Grp σ} {r : List (Grp σ)} {x : Int} (b : g.lo≤x) (a : x < g.hi) : secG (g::r) x = g.sec:=by rw [secG,qr ⟨b,a⟩]
theorem qyr {g : Grp σ} {r : List (Grp σ)} (h : CanG (g::r)) : secG (g::r) g.hi≠g.sec:=by
  rw [secG,qp q6]
  cases r with
  | nil=>exact fun e=>(h.1 g qe).2 e.symm
  | cons k r=>
    have c:=h.nxt k qe;have a:=h.tail.1 k qe;by_cases b : g.hi = k.lo
    · rw [q31 q6 q6];exact fun e=>c.2 b e.symm
    · rw [secG,qp q6,q32 (y:=k.hi) (fun m d=>(h.tail.nxt m d).1) q6];exact fun e=>(h.1 g qe).2 e.symm
theorem qer : ∀ {a b : List (Grp σ)},CanG a→CanG b→(∀ x,secG a x = secG b x)→a = b
  | [],[],_,_,_=>rfl
  | [],g::r,_,hb,h=>by
    have:=h g.lo
    rw [q31 (Int.le_refl _) (hb.1 g qe).1] at this
    exact absurd this.symm (hb.1 g qe).2
  | g::r,[],c,_,h=>by
    have:=h g.lo
    rw [q31 (Int.le_refl _) (c.1 g qe).1] at this
    exact absurd this (c.1 g qe).2
  | g::r,k::s,c,hb,h=>by
    have q:=c.1 g qe
    have t:=hb.1 k qe
    have low : ∀ {g k : Grp σ} {r s : List (Grp σ)},CanG (g::r)→CanG (k::s)→(∀ x,secG (g::r) x = secG (k::s) x)→k.lo≤g.lo:=by
      intro g k r s c hb h;refine Int.not_lt.1 fun f=>?_;have d:=h g.lo;rw [q31 (Int.le_refl _) (c.1 g qe).1,q32 (y:=k.lo) (fun m j=>?_) f] at d
      · exact (c.1 g qe).2 d
      · rcases List.mem_cons.1 j with rfl | j
        · exact Int.le_refl _
        · have:=(hb.nxt m j).1;have:=(hb.1 k qe).1;omega
    have n : g.lo = k.lo:=Int.le_antisymm (low hb c fun x=>(h x).symm) (low c hb h)
    have l : g.sec = k.sec:=by
      have d:=h g.lo
      rwa [q31 (Int.le_refl _) q.1,q31 q6 q6] at d
    have hi : ∀ {g k : Grp σ} {r s : List (Grp σ)},CanG (g::r)→CanG (k::s)→(∀ x,secG (g::r) x = secG (k::s) x)→g.lo = k.lo→g.sec = k.sec→k.hi≤g.hi:=by
      intro g k r s c hb h n l;refine Int.not_lt.1 fun f=>?_;have d:=h g.hi;have:=(c.1 g qe).1;rw [q31 (g:=k) q6 f,← l] at d;exact qyr c d
    have p : g.hi = k.hi:=Int.le_antisymm (hi hb c (fun x=>(h x).symm) n.symm l.symm) (hi c hb h n l)
    have e : g = k:=by cases g;cases k;simp at n l p;simp [n,l,p]
    subst e
    have : r = s:=qer c.tail hb.tail fun x=>by
      by_cases o : x < g.hi
      · rw [q32 (y:=g.hi) (fun m j=>(c.nxt m j).1) o,q32 (y:=g.hi) (fun m j=>(hb.nxt m j).1) o]
      · have d:=h x
        rwa [secG,secG,qp q6,qp q6] at d
    rw [this]
def curG (s : Mg σ β) : List (Grp σ):=if s.sec = [] then [] else [⟨s.lo,s.hi,s.sec⟩]
def secC (sec : Int→List σ) : List Int→Int→List σ
  | a::b::r,x=>if a≤x∧x < b then sec a else secC sec (b::r) x
  | _,_=>[]
theorem qjw (put : Int→Int→σ→β) (s : Mg σ β) (a : List (Grp σ)) (h : s.done = Y6 put a) : s.flat put = Y6 put (a ++ curG s):=by
  rw [qrx,Mg.flat,h];unfold curG;split
  · rename_i b;simp [b,Y6]
  · simp [Y6]
theorem qcq {s : Mg σ β} {g : Grp σ} (h : g∈curG s) : s.sec≠[]∧g = ⟨s.lo,s.hi,s.sec⟩:=by
  unfold curG at h;split at h
  · cases h
  · rename_i a;exact ⟨a,by simpa using h⟩
theorem qdc (sec : Int→List σ) {x : Int} : ∀ {d : List Int},d.Pairwise (· < ·)→
    (∀ a∈d,a≤x→(∀ c∈d,c≤a∨x < c)→sec a = sec x)→((∀ c∈d,x < c)→sec x = [])→((∀ c∈d,c≤x)→sec x = [])→secC sec d x = sec x
  | [],_,_,h2,_=>(h2 qe).symm
  | [a],_,_,h2,h3=>by
    rw [secC]
    · by_cases k : x < a
      · exact (h2 (by simpa using k)).symm
      · exact (h3 (by simpa using k)).symm
    · intro a b r h;simp at h
  | a::b::r,hp,h1,h2,h3=>by
    have o : a < b:=(List.pairwise_cons.1 hp).1 b qe
    have m:=(List.pairwise_cons.1 (List.pairwise_cons.1 hp).2).1
    rw [secC]
    split
    · rename_i k
      refine h1 a qe k.1 fun c f=>?_
      rcases List.mem_cons.1 f with rfl | f
      · exact .inl (Int.le_refl _)
      · rcases List.mem_cons.1 f with rfl | f
        · exact .inr k.2
        · have:=m c f;exact .inr q6
    · rename_i k
      by_cases n : x < a
      · have e : sec x = []:=h2 fun c f=>by
          rcases List.mem_cons.1 f with rfl | f
          · exact n
          · have:=(List.pairwise_cons.1 hp).1 c f;omega
        have:=qdc sec (x:=x) (List.pairwise_cons.1 hp).2 (fun a' j l _=>by
          exfalso;have:=(List.pairwise_cons.1 hp).1 a' j;omega) (fun _=>e) (fun _=>e)
        exact this
      · have p : b≤x:=by omega
        exact qdc sec (List.pairwise_cons.1 hp).2 (fun a' j l g=>h1 a' (by simp [j]) l fun c f=>by
          rcases List.mem_cons.1 f with rfl | f
          · have:=(List.pairwise_cons.1 hp).1 a' j;exact .inl q6
          · exact g c f) (fun g=>by have:=g b qe;omega) (fun g=>h3 fun c f=>by
          rcases List.mem_cons.1 f with rfl | f
          · omega
          · exact g c f)
variable [DecidableEq σ] (put : Int→Int→σ→β)
structure InvG (s : Mg σ β) (gs : List (Grp σ)) (c : Int) : Prop where
  done : s.done = Y6 put gs
  can : CanG (gs ++ curG s)
  le : ∀ g∈gs ++ curG s,g.hi≤c
  gap : s.sec = []→∀ g∈gs,g.hi = c→False
theorem qss {s : Mg σ β} {j : List (Grp σ)} {a b : Int} {c : List σ} (aa : a < b) (hi : InvG put s j a) :
    ∃ r,InvG put (addM put s a b c) r b∧∀ x,secG (r ++ curG (addM put s a b c)) x = if a≤x∧x < b then c else secG (j ++ curG s) x:=by
  rcases q19 put s a b c with ⟨w,h2,h3,z⟩ | ⟨w,z⟩
  · rw [z];have hs : s.sec≠[]:=h2 ▸ w;have c1 : curG s = [⟨s.lo,s.hi,s.sec⟩]:=by unfold curG;rw [qp hs]
    have c2 : curG (⟨s.done,s.sec,s.lo,b⟩ : Mg σ β) = [⟨s.lo,b,s.sec⟩]:=by unfold curG;rw [qp hs]
    have f:=hi.can;rw [c1] at f;have ah : s.lo < s.hi:=(f.1 ⟨s.lo,s.hi,s.sec⟩ qe).1;refine ⟨j,⟨hi.done,?_,?_,fun h=>absurd h hs⟩,?_⟩
    · rw [c2];refine ⟨fun g d=>?_,?_⟩
      · rcases List.mem_append.1 d with d | d
        · exact f.1 g (by simp [d])
        · obtain rfl:=List.mem_singleton.1 d;exact ⟨by simp only;omega,hs⟩
      · have:=List.pairwise_append.1 f.2;refine List.pairwise_append.2 ⟨this.1,qe,fun g d k hk=>?_⟩;obtain rfl:=List.mem_singleton.1 hk;exact this.2.2 g d ⟨s.lo,s.hi,s.sec⟩ qe
    · rw [c2];intro g d;rcases List.mem_append.1 d with d | d
      · have:=hi.le g (by simp [d]);omega
      · obtain rfl:=List.mem_singleton.1 d;exact Int.le_refl _
    · intro x;rw [c1,c2];have v : ∀ g∈j,g.hi≤s.lo:=fun g d=>((List.pairwise_append.1 f.2).2.2 g d ⟨s.lo,s.hi,s.sec⟩ qe).1;have o : ∀ g∈j,g.sec≠[]:=fun g d=>(f.1 g (by simp [d])).2;by_cases n : x < s.lo
      · rw [qp q6,qh2 (y:=s.lo) qe n,qh2 (y:=s.lo) qe n]
      · have e : secG j x = []:=q6n v q6;rw [q9s e o,q9s e o];simp only [secG];by_cases u : x < s.hi
        · rw [qr ⟨q6,q6⟩,qp q6,qr ⟨q6,u⟩]
        · by_cases p : x < b
          · rw [qr ⟨q6,p⟩,qr ⟨q6,p⟩,h2]
          · rw [qp q6,qp q6,qp q6]
  · rw [z];have hd : s.flat put = Y6 put (j ++ curG s):=qjw put s j hi.done;refine ⟨j ++ curG s,⟨hd,?_,?_,?_⟩,?_⟩
    · by_cases m : c = []
      · have : curG (⟨s.flat put,c,a,b⟩ : Mg σ β) = []:=by unfold curG;rw [qr m]
        rw [this,List.append_nil];exact hi.can
      · have : curG (⟨s.flat put,c,a,b⟩ : Mg σ β) = [⟨a,b,c⟩]:=by unfold curG;rw [qp m]
        rw [this];refine ⟨fun g d=>?_,List.pairwise_append.2 ⟨hi.can.2,qe,fun g d k hk=>?_⟩⟩
        · rcases List.mem_append.1 d with d | d
          · exact hi.can.1 g d
          · obtain rfl:=List.mem_singleton.1 d;exact ⟨aa,m⟩
        · obtain rfl:=List.mem_singleton.1 hk;refine ⟨hi.le g d,fun t q=>?_⟩;rcases List.mem_append.1 d with l | l
          · by_cases hs : s.sec = []
            · exact hi.gap hs g l t
            · have h5 : (⟨s.lo,s.hi,s.sec⟩ : Grp σ)∈curG s:=by unfold curG;rw [qp hs];simp
              have h6:=((List.pairwise_append.1 hi.can.2).2.2 g l _ h5).1;have h7:=(hi.can.1 _ (List.mem_append.2 (.inr h5))).1;have h8:=hi.le _ (List.mem_append.2 (.inr h5));simp only at t h6 h7 h8;omega
          · obtain ⟨hs,rfl⟩:=qcq l;exact w ⟨m,q.symm,t⟩
    · intro g d;rcases List.mem_append.1 d with d | d
      · have:=hi.le g d;omega
      · obtain ⟨_,rfl⟩:=qcq d;exact Int.le_refl _
    · intro m g d t;have:=hi.le g d;omega
    · intro x;by_cases n : a≤x∧x < b
      · rw [qr n,q9s (q6n hi.le n.1) fun g d=>(hi.can.1 g d).2];unfold curG;split
        · rename_i m;simp only at m;rw [m];rfl
        · simp only [secG];rw [qr n]
      · rw [qp n];by_cases ad : x < a
        · exact qh2 (y:=a) (fun g d=>by obtain ⟨_,rfl⟩:=qcq d;exact Int.le_refl _) ad
        · have e:=q6n (x:=x) hi.le q6;rw [q9s e fun g d=>(hi.can.1 g d).2,e];exact q6n (y:=b) (fun g d=>by obtain ⟨_,rfl⟩:=qcq d;exact Int.le_refl _) q6
theorem qn4 (sec : Int→List σ) : ∀ (d : List Int) (c : Int) (s : Mg σ β) (h : List (Grp σ)),(c::d).Pairwise (· < ·)→InvG put s h c→
    ∃ f,(runM put sec s (c::d)).flat put = Y6 put f∧CanG f∧∀ x,secG f x = if x < c then secG (h ++ curG s) x else secC sec (c::d) x
  | [],c,s,h,_,hi=>by
    refine ⟨h ++ curG s,qjw put s h hi.done,hi.can,fun x=>?_⟩
    by_cases j : x < c
    · rw [qr j]
    · rw [qp j];exact q6n hi.le q6
  | b::d,a,s,h,hp,hi=>by
    have m : a < b:=(List.pairwise_cons.1 hp).1 b qe
    obtain ⟨f,l,k⟩:=qss (b:=b) (c:=sec a) put m hi
    obtain ⟨n,o,q,p⟩:=qn4 sec d b _ f (List.pairwise_cons.1 hp).2 l
    refine ⟨n,o,q,fun x=>?_⟩
    rw [p x]
    by_cases j : x < a
    · rw [qr q6,qr j,k,qp q6]
    · rw [qp j]
      simp only [secC]
      by_cases g : x < b
      · rw [qr g,k,qr ⟨q6,g⟩,qr ⟨q6,g⟩]
      · rw [qp g,qp q6]
theorem qlh (sec : Int→List σ) {a : List Int} (g : a.Pairwise (· < ·)) :
    ∃ d,(K0 put Qy (Yv a sec)).flat put = Y6 put d∧CanG d∧∀ x,secG d x = secC sec a x:=by
  rw [qjy]
  cases a with
  | nil=>exact ⟨[],rfl,⟨qe,qe⟩,fun x=>rfl⟩
  | cons c a=>
    obtain ⟨d,h,k,j⟩:=qn4 put sec a c (Qy : Mg σ β) [] g ⟨rfl,⟨by simp [curG,Qy],by simp [curG,Qy]⟩,by simp [curG,Qy],qe⟩;refine ⟨d,h,k,fun x=>?_⟩;rw [j x];split
    · rename_i f
      have : ∀ (a : List Int) (c : Int),(c::a).Pairwise (· < ·)→x < c→secC sec (c::a) x = []:=by
        intro a
        induction a with
        | nil=>intros;rfl
        | cons b r ih=>
          intro c hp f;rw [secC,qp q6];exact ih b (List.pairwise_cons.1 hp).2 (by have:=(List.pairwise_cons.1 hp).1 b qe;omega)
      rw [this a c g f];rfl
    · rfl
end
end Go.Sh
namespace Go.Sh
open Go Go.Am
section
variable {σ : Type}
theorem qh4 {x : Int} : ∀ (b : List (Grp σ)),secG b x = []∨∃ g∈b,g.lo≤x∧x < g.hi∧secG b x = g.sec
  | []=>.inl rfl
  | g::r=>by
    by_cases a : g.lo≤x∧x < g.hi
    · exact .inr ⟨g,qe,a.1,a.2,by rw [secG,qr a]⟩
    · rw [secG,qp a]
      rcases qh4 r with h | ⟨k,c,h⟩
      · exact .inl h
      · exact .inr ⟨k,by simp [c],h⟩
theorem qh3 : ∀ {b : List (Grp σ)},CanG b→∀ g∈b,∀ x,g.lo≤x→x < g.hi→secG b x = g.sec
  | k::r,h,g,a,x,h1,h2=>by
    rcases List.mem_cons.1 a with rfl | a
    · exact q31 h1 h2
    · have:=(h.nxt g a).1
      rw [secG,qp q6]
      exact qh3 h.tail g a x h1 h2
end
theorem qkw (kind : Int) : Jd kind [] [] = []:=by
  have a:=(q5c kind [] [] qe qe).2;refine q52 a.can ⟨qe,qe⟩ fun x=>?_;rw [a.pts];have:=q1n x;unfold Y2;simp [this]
theorem qr8 (a b : List qi) (x : Int) : covS (a ++ b) x = covS a x ++ covS b x:=by simp [covS]
theorem qr9 (s : List qk) (lo hi x : Int) : covS (s.map (putR lo hi)) x = if lo≤x∧x < hi then s else []:=by
  induction s with
  | nil=>simp [covS]
  | cons t s ih=>
    have e : covS (List.map (putR lo hi) (t::s)) x = (if covR x (putR lo hi t) = true then [t] else []) ++ covS (s.map (putR lo hi)) x:=rfl;rw [e,ih];have : covR x (putR lo hi t) = (decide (lo≤x) && decide (x < hi)):=rfl;rw [this];by_cases b : lo≤x <;> by_cases a : x < hi <;> simp [b,a]
theorem q8q : ∀ {b : List (Grp qk)},CanG b→∀ x,covS (Y6 putR b) x = secG b x
  | [],_,x=>rfl
  | g::r,h,x=>by
    have e : Y6 putR (g::r) = g.sec.map (putR g.lo g.hi) ++ Y6 putR r:=rfl
    rw [e,qr8,qr9,q8q h.tail x]
    by_cases a : g.lo≤x∧x < g.hi
    · rw [qr a,secG,qr a,q32 (y:=g.hi) (fun m c=>(h.nxt m c).1) a.2,List.append_nil]
    · rw [qp a,secG,qp a,List.nil_append]
theorem qja {l : List qi} {a x : Int} (h : ∀ r∈l,covR a r = covR x r) : covS l a = covS l x:=by
  induction l with
  | nil=>rfl
  | cons r l ih=>
    have e : ∀ y,covS (r::l) y = (if covR y r = true then [ysp r] else []) ++ covS l y:=fun _=>rfl;rw [e,e,h r qe,ih fun k b=>h k (by simp [b])]
theorem qc4 {l : List qi} {x : Int} (h : ∀ r∈l,covR x r = false) : covS l x = []:=by
  induction l with
  | nil=>rfl
  | cons r l ih=>
    have e : covS (r::l) x = (if covR x r = true then [ysp r] else []) ++ covS l x:=rfl;rw [e,h r qe,ih fun k a=>h k (by simp [a])];rfl
theorem q54 {x : Int} {r : qi} : covR x r = true↔r.X0≤x∧x < r.X1:=by simp [covR]
theorem qlf {p q : List qi} {r : qi} (h : r∈p∨r∈q) : r.X0∈xsOf p ++ xsOf q∧r.X1∈xsOf p ++ xsOf q:=by
  unfold xsOf;simp only [List.mem_append,List.mem_flatMap];rcases h with h | h
  · exact ⟨.inl ⟨r,h,qe⟩,.inl ⟨r,h,qe⟩⟩
  · exact ⟨.inr ⟨r,h,qe⟩,.inr ⟨r,h,qe⟩⟩
theorem qll (kind : Int) {p q : List qi} (h : p.length + q.length≤100000) :
    ∃ f,mrgR kind p q = Y6 putR f∧CanG f∧∀ x,secG f x = secJ kind p q x:=by
  have u:=U9 p;have s:=U9 q;have hs:=(Jz (l:=xsOf p ++ xsOf q) (by simp;omega)).2.1;obtain ⟨f,k,m,o⟩:=qlh putR (secJ kind p q) hs.1;refine ⟨f,k,m,fun x=>?_⟩;rw [o]
  have g : ∀ r,(r∈p∨r∈q)→r.X0∈Qx (xsOf p ++ xsOf q)∧r.X1∈Qx (xsOf p ++ xsOf q):=fun r b=>
    ⟨(hs.2 _).2 (qlf b).1,(hs.2 _).2 (qlf b).2⟩
  refine qdc _ hs.1 (fun a _ n c=>?_) (fun c=>?_) (fun c=>?_)
  · have d : ∀ r,(r∈p∨r∈q)→covR a r = covR x r:=fun r b=>by
      have j:=c _ (g r b).1;have t:=c _ (g r b).2;rw [Bool.eq_iff_iff,q54,q54];omega
    unfold secJ;rw [qja fun r b=>d r (.inl b),qja fun r b=>d r (.inr b)]
  · have d : ∀ r,(r∈p∨r∈q)→covR x r = false:=fun r b=>by
      have j:=c _ (g r b).1;rw [← Bool.not_eq_true,q54];omega
    unfold secJ;rw [qc4 fun r b=>d r (.inl b),qc4 fun r b=>d r (.inr b),qkw]
  · have d : ∀ r,(r∈p∨r∈q)→covR x r = false:=fun r b=>by
      have j:=c _ (g r b).2;rw [← Bool.not_eq_true,q54];omega
    unfold secJ;rw [qc4 fun r b=>d r (.inl b),qc4 fun r b=>d r (.inr b),qkw]
def CanR (l : List qi) : Prop:=∃ gs : List (Grp qk),l = Y6 putR gs∧CanG gs∧∀ g∈gs,Can g.sec
theorem qq3 : Can []:=⟨qe,qe⟩
theorem CanR.nil : CanR []:=⟨[],rfl,⟨qe,qe⟩,qe⟩
theorem CanR.cov {l : List qi} (h : CanR l) (x : Int) : Can (covS l x):=by
  obtain ⟨a,rfl,c,d⟩:=h;rw [q8q c];rcases qh4 (x:=x) a with e | ⟨g,b,_,_,e⟩
  · rw [e];exact qq3
  · rw [e];exact d g b
theorem qes {a b : List qi} (f : CanR a) (hb : CanR b) (h : ∀ x y,hasR a x y↔hasR b x y) : a = b:=by
  have g : ∀ x,covS a x = covS b x:=fun x=>q52 (f.cov x) (hb.cov x) fun y=>by rw [q11,q11];exact h x y
  obtain ⟨k,rfl,c,_⟩:=f;obtain ⟨j,rfl,d,_⟩:=hb;rw [qer c d fun x=>by rw [← q8q c,← q8q d];exact g x]
theorem qnc (kind : Int) {p q : List qi} (h : p.length + q.length≤100000) (x : Int) : qed kind (covS p x) (covS q x) (secJ kind p q x):=by
  have b:=Uq p x;have a:=Uq q x;exact (q5c kind (covS p x) (covS q x) q6 q6).2
theorem qct (kind : Int) {p q : List qi} (h : p.length + q.length≤100000) : CanR (mrgR kind p q):=by
  obtain ⟨c,d,a,f⟩:=qll kind h;refine ⟨c,d,a,fun g b=>?_⟩;have:=f g.lo;rw [qh3 a g b _ (Int.le_refl _) (a.1 g b).1] at this;rw [this];exact (qnc kind h _).can
theorem qjb (kind : Int) {p q : List qi} (h : p.length + q.length≤100000) (x : Int) : covS (mrgR kind p q) x = secJ kind p q x:=by
  obtain ⟨d,a,c,b⟩:=qll kind h;rw [a,q8q c,b]
theorem qcg (kind : Int) {p q : List qi} (h : p.length + q.length≤100000) (x y : Int) : hasR (mrgR kind p q) x y↔Y2 kind (hasR p x y) (hasR q x y):=by
  rw [← q11,qjb kind h,(qnc kind h x).pts,q11,q11]
theorem qfo (x y : Int) : ¬ hasR [] x y:=by rintro ⟨r,h,_⟩;cases h
theorem q3n {a b : Prop} : Y2 2 a b↔a∨b:=by unfold Y2;simp
theorem qsj {l : List qi} (h : l.length≤100000) (x y : Int) : hasR (mrgR 2 l []) x y↔hasR l x y:=by
  rw [qcg 2 (by simpa using h),q3n];simp [qfo]
theorem qlm {l : List qi} (a : l.length≤100000) (h : CanR l) : mrgR 2 l [] = l:=
  qes (qct 2 (by simpa using a)) h fun x y=>qsj a x y
theorem qld {σ β : Type} {put : Int→Int→σ→β} {a : List (Grp σ)} {r : β} : r∈Y6 put a↔∃ g∈a,∃ t∈g.sec,r = put g.lo g.hi t:=by
  unfold Y6;simp only [List.mem_flatMap,List.mem_map];exact ⟨fun ⟨g,hg,t,ht,e⟩=>⟨g,hg,t,ht,e.symm⟩,fun ⟨g,hg,t,ht,e⟩=>⟨g,hg,t,ht,e.symm⟩⟩
theorem CanR.lt {l : List qi} (h : CanR l) : ∀ r∈l,r.X0 < r.X1∧r.Y0 < r.Y1:=by
  obtain ⟨j,rfl,b,d⟩:=h;intro r c;obtain ⟨g,a,t,f,rfl⟩:=qld.1 c;exact ⟨(b.1 g a).1,(d g a).1 t f⟩
def InR (l : List qi) : Prop:=∀ x y,hasR l x y→(-1000000≤x∧x < 1000000)∧(-1000000≤y∧y < 1000000)
theorem CanR.vR {l : List qi} (h : CanR l) (hi : InR l) : ∀ r∈l,vR r:=by
  intro r a;have b:=h.lt r a;have d:=hi r.X0 r.Y0 ⟨r,a,q6⟩;have c:=hi (r.X1 - 1) (r.Y1 - 1) ⟨r,a,q6⟩;unfold Go.Sh.vR;omega
theorem InR.mrg {kind : Int} {p q : List qi} (h : p.length + q.length≤100000) (hp : InR p) (b : InR q) : InR (mrgR kind p q):=fun x y c=>by
  rcases qfr ((qcg kind h x y).1 c) with a | a
  · exact hp x y a
  · exact b x y a
theorem InR.nil : InR []:=fun x y h=>absurd h (qfo x y)
theorem q8l {l : List qi} : Yn l = 0↔l.length≤400∧(∀ r∈l,vR r)∧CanR l:=by
  constructor
  · intro h;obtain ⟨c,b,a⟩:=qqs h;exact ⟨c,b,a ▸ qct 2 (by simp;omega)⟩
  · rintro ⟨c,b,a⟩;unfold Yn;rw [qp q6,qr b,qr (qlm q6 a)]
end Go.Sh
namespace Go.Sh
open Go Go.Am
def hasB (l : List qg) (x y z : Int) : Prop:=∃ b∈l,(b.Lo.X≤x∧x < b.Hi.X)∧(b.Lo.Y≤y∧y < b.Hi.Y)∧(b.Lo.Z≤z∧z < b.Hi.Z)
theorem q2f {z : Int} {b : qg} : covB z b = true↔b.Lo.Z≤z∧z < b.Hi.Z:=by simp [covB]
theorem qg6 {l : List qg} {z : Int} {r : qi} : r∈atB l z↔∃ b∈l,(b.Lo.Z≤z∧z < b.Hi.Z)∧r = Ji b:=by
  unfold atB;rw [List.mem_flatMap];constructor
  · rintro ⟨b,hb,h⟩;split at h
    · rename_i a;exact ⟨b,hb,q2f.1 a,by simpa using h⟩
    · cases h
  · rintro ⟨b,hb,a,rfl⟩;exact ⟨b,hb,by rw [qr (q2f.2 a)];simp⟩
theorem q3m {l : List qg} {x y z : Int} : hasR (atB l z) x y↔hasB l x y z:=by
  constructor
  · rintro ⟨r,h,a,f,d,c⟩;obtain ⟨b,hb,g,rfl⟩:=qg6.1 h;exact ⟨b,hb,⟨a,f⟩,⟨d,c⟩,g⟩
  · rintro ⟨b,hb,⟨a,f⟩,⟨d,c⟩,g⟩;exact ⟨Ji b,qg6.2 ⟨b,hb,g,rfl⟩,a,f,d,c⟩
theorem q2p (x y z : Int) : ¬ hasB [] x y z:=by rintro ⟨r,h,_⟩;cases h
theorem qpl (a b : List qg) (z : Int) : atB (a ++ b) z = atB a z ++ atB b z:=by simp [atB]
theorem qpm (s : List qi) (lo hi z : Int) : atB (s.map (putB lo hi)) z = if lo≤z∧z < hi then s else []:=by
  induction s with
  | nil=>simp [atB]
  | cons t s ih=>
    have e : atB (List.map (putB lo hi) (t::s)) z = (if covB z (putB lo hi t) = true then [t] else []) ++ atB (s.map (putB lo hi)) z:=rfl;rw [e,ih];have : covB z (putB lo hi t) = (decide (lo≤z) && decide (z < hi)):=rfl;rw [this];by_cases b : lo≤z <;> by_cases a : z < hi <;> simp [b,a]
theorem q8h : ∀ {b : List (Grp qi)},CanG b→∀ z,atB (Y6 putB b) z = secG b z
  | [],_,z=>rfl
  | g::r,h,z=>by
    have e : Y6 putB (g::r) = g.sec.map (putB g.lo g.hi) ++ Y6 putB r:=rfl
    rw [e,qpl,qpm,q8h h.tail z]
    by_cases a : g.lo≤z∧z < g.hi
    · rw [qr a,secG,qr a,q32 (y:=g.hi) (fun m c=>(h.nxt m c).1) a.2,List.append_nil]
    · rw [qp a,secG,qp a,List.nil_append]
theorem qia {l : List qg} {a x : Int} (h : ∀ r∈l,covB a r = covB x r) : atB l a = atB l x:=by
  induction l with
  | nil=>rfl
  | cons r l ih=>
    have e : ∀ y,atB (r::l) y = (if covB y r = true then [Ji r] else []) ++ atB l y:=fun _=>rfl;rw [e,e,h r qe,ih fun k b=>h k (by simp [b])]
theorem qbw {l : List qg} {x : Int} (h : ∀ r∈l,covB x r = false) : atB l x = []:=by
  induction l with
  | nil=>rfl
  | cons r l ih=>
    have e : atB (r::l) x = (if covB x r = true then [Ji r] else []) ++ atB l x:=rfl;rw [e,h r qe,ih fun k a=>h k (by simp [a])];rfl
theorem qlg {p q : List qg} {r : qg} (h : r∈p∨r∈q) : r.Lo.Z∈zsOf p ++ zsOf q∧r.Hi.Z∈zsOf p ++ zsOf q:=by
  unfold zsOf;simp only [List.mem_append,List.mem_flatMap];rcases h with h | h
  · exact ⟨.inl ⟨r,h,qe⟩,.inl ⟨r,h,qe⟩⟩
  · exact ⟨.inr ⟨r,h,qe⟩,.inr ⟨r,h,qe⟩⟩
theorem qgd (kind : Int) : mrgR kind [] [] = []:=by
  refine qes (qct kind qe) .nil fun x y=>?_;rw [qcg kind qe];have:=qfo x y;unfold Y2;simp [this]
theorem qlj (kind : Int) {p q : List qg} (h : p.length + q.length≤100000) :
    ∃ f,mrgB kind p q = Y6 putB f∧CanG f∧∀ z,secG f z = secB kind p q z:=by
  have t:=Zw p;have s:=Zw q;have hs:=(Jz (l:=zsOf p ++ zsOf q) (by simp;omega)).2.1;obtain ⟨f,n,k,o⟩:=qlh putB (secB kind p q) hs.1;refine ⟨f,n,k,fun x=>?_⟩;rw [o]
  have g : ∀ r,(r∈p∨r∈q)→r.Lo.Z∈Qx (zsOf p ++ zsOf q)∧r.Hi.Z∈Qx (zsOf p ++ zsOf q):=fun r b=>
    ⟨(hs.2 _).2 (qlg b).1,(hs.2 _).2 (qlg b).2⟩
  refine qdc _ hs.1 (fun a _ m c=>?_) (fun c=>?_) (fun c=>?_)
  · have d : ∀ r,(r∈p∨r∈q)→covB a r = covB x r:=fun r b=>by
      have j:=c _ (g r b).1;have u:=c _ (g r b).2;rw [Bool.eq_iff_iff,q2f,q2f];omega
    unfold secB;rw [qia fun r b=>d r (.inl b),qia fun r b=>d r (.inr b)]
  · have d : ∀ r,(r∈p∨r∈q)→covB x r = false:=fun r b=>by
      have j:=c _ (g r b).1;rw [← Bool.not_eq_true,q2f];omega
    unfold secB;rw [qbw fun r b=>d r (.inl b),qbw fun r b=>d r (.inr b),qgd]
  · have d : ∀ r,(r∈p∨r∈q)→covB x r = false:=fun r b=>by
      have j:=c _ (g r b).2;rw [← Bool.not_eq_true,q2f];omega
    unfold secB;rw [qbw fun r b=>d r (.inl b),qbw fun r b=>d r (.inr b),qgd]
def CanB (l : List qg) : Prop:=∃ gs : List (Grp qi),l = Y6 putB gs∧CanG gs∧∀ g∈gs,CanR g.sec
theorem CanB.nil : CanB []:=⟨[],rfl,⟨qe,qe⟩,qe⟩
theorem CanB.at {l : List qg} (h : CanB l) (z : Int) : CanR (atB l z):=by
  obtain ⟨a,rfl,c,d⟩:=h;rw [q8h c];rcases qh4 (x:=z) a with e | ⟨g,b,_,_,e⟩
  · rw [e];exact .nil
  · rw [e];exact d g b
theorem qin {a b : List qg} (f : CanB a) (hb : CanB b) (h : ∀ x y z,hasB a x y z↔hasB b x y z) : a = b:=by
  have g : ∀ z,atB a z = atB b z:=fun z=>qes (f.at z) (hb.at z) fun x y=>by rw [q3m,q3m];exact h x y z
  obtain ⟨k,rfl,c,_⟩:=f;obtain ⟨j,rfl,d,_⟩:=hb;rw [qer c d fun x=>by rw [← q8h c,← q8h d];exact g x]
theorem qic {p q : List qg} (h : p.length + q.length≤100000) (z : Int) : (atB p z).length + (atB q z).length≤100000:=by
  have:=Ua p z;have:=Ua q z;omega
theorem q96 (kind : Int) {p q : List qg} (h : p.length + q.length≤100000) : CanB (mrgB kind p q):=by
  obtain ⟨c,d,a,f⟩:=qlj kind h;refine ⟨c,d,a,fun g b=>?_⟩;have:=f g.lo;rw [qh3 a g b _ (Int.le_refl _) (a.1 g b).1] at this;rw [this];exact qct kind (qic h _)
theorem qib (kind : Int) {p q : List qg} (h : p.length + q.length≤100000) (z : Int) : atB (mrgB kind p q) z = secB kind p q z:=by
  obtain ⟨d,a,c,b⟩:=qlj kind h;rw [a,q8h c,b]
theorem qcf (kind : Int) {p q : List qg} (h : p.length + q.length≤100000) (x y z : Int) : hasB (mrgB kind p q) x y z↔Y2 kind (hasB p x y z) (hasB q x y z):=by
  rw [← q3m,qib kind h,secB,qcg kind (qic h z),q3m,q3m]
theorem qkj {l : List qg} (h : l.length≤100000) (x y z : Int) : hasB (mrgB 2 l []) x y z↔hasB l x y z:=by
  rw [qcf 2 (by simpa using h),q3n];simp [q2p]
theorem qtt {l : List qg} (a : l.length≤100000) (h : CanB l) : mrgB 2 l [] = l:=
  qin (q96 2 (by simpa using a)) h fun x y z=>qkj a x y z
theorem CanB.lt {l : List qg} (h : CanB l) : ∀ b∈l,b.Lo.X < b.Hi.X∧b.Lo.Y < b.Hi.Y∧b.Lo.Z < b.Hi.Z:=by
  obtain ⟨k,rfl,c,f⟩:=h;intro r d;obtain ⟨g,a,t,j,rfl⟩:=qld.1 d;have:=(f g a).lt t j;exact ⟨this.1,this.2,(c.1 g a).1⟩
def vB (b : qg) : Prop:=(b.Lo.X < b.Hi.X∧b.Lo.Y < b.Hi.Y∧b.Lo.Z < b.Hi.Z)∧(-1000000≤b.Lo.X∧-1000000≤b.Lo.Y∧-1000000≤b.Lo.Z)∧b.Hi.X≤1000000∧b.Hi.Y≤1000000∧b.Hi.Z≤1000000
instance (b : qg) : Decidable (vB b):=by unfold vB;infer_instance
def InB (l : List qg) : Prop:=∀ x y z,hasB l x y z→(-1000000≤x∧x < 1000000)∧(-1000000≤y∧y < 1000000)∧(-1000000≤z∧z < 1000000)
theorem qhn {l : List qg} (h : ∀ r∈l,vB r) : InB l:=by
  rintro x y z ⟨r,a,b⟩;have:=h r a;unfold vB at this;omega
theorem CanB.vB {l : List qg} (h : CanB l) (hi : InB l) : ∀ r∈l,vB r:=by
  intro r a;have b:=h.lt r a;have d:=hi r.Lo.X r.Lo.Y r.Lo.Z ⟨r,a,q6⟩;have c:=hi (r.Hi.X - 1) (r.Hi.Y - 1) (r.Hi.Z - 1) ⟨r,a,q6⟩;unfold Go.Sh.vB;omega
theorem InB.mrg {kind : Int} {p q : List qg} (h : p.length + q.length≤100000) (hp : InB p) (b : InB q) : InB (mrgB kind p q):=fun x y z c=>by
  rcases qfr ((qcf kind h x y z).1 c) with a | a
  · exact hp x y z a
  · exact b x y z a
theorem InB.nil : InB []:=fun x y z h=>absurd h (q2p x y z)
theorem qoz {l : List qg} (h : ∀ b∈l,vB b) (z : Int) : ∀ r∈atB l z,vR r:=by
  intro r a;obtain ⟨b,hb,_,rfl⟩:=qg6.1 a;have:=h b hb;unfold vB at this;unfold vR Ji;simp only;omega
theorem InB.at {l : List qg} (h : InB l) (z : Int) : InR (atB l z):=fun x y a=>by
  have:=h x y z (q3m.1 a);exact ⟨this.1,this.2.1⟩
noncomputable def Qz (l : List qg) : Int:=if 400 < l.length then 4 else if ∀ b∈l,vB b then (if mrgB 2 l [] = l then 0 else 8) else 8
theorem Yh {l : List qg} : Qz l = 0↔l.length≤400∧(∀ b∈l,vB b)∧CanB l:=by
  unfold Qz;constructor
  · intro h;split at h
    · exact absurd h qx
    · rename_i d;split at h
      · rename_i c;split at h
        · rename_i a;exact ⟨q6,c,a ▸ q96 2 (by simp;omega)⟩
        · exact absurd h qx
      · exact absurd h qx
  · rintro ⟨d,c,a⟩;rw [qp q6,qr c,qr (qtt q6 a)]
theorem qnb (kind : Int) {p q : List qg} (h : p.length + q.length≤100000) (z : Int) : (secB kind p q z).length≤(mrgB kind p q).length:=by
  rw [← qib kind h];exact Ua _ _
theorem qys (kind : Int) {p q : List qi} (h : p.length + q.length≤100000) (x : Int) : (secJ kind p q x).length≤(mrgR kind p q).length:=by
  rw [← qjb kind h];exact Uq _ _
noncomputable def mkB (l : List qg) : List qg × Int:=if 400 < l.length then ([],4) else if ∀ b∈l,vB b then (if 400 < (mrgB 2 l []).length then ([],4) else (mrgB 2 l [],0)) else ([],8)
noncomputable def jB (kind : Int) (p q : List qg) : List qg × Int:=
  if Qz p≠0 then ([],Qz p) else if Qz q≠0 then ([],Qz q) else if 400 < (mrgB kind p q).length then ([],4) else (mrgB kind p q,0)
noncomputable def mkR (l : List qi) : List qi × Int:=if 400 < l.length then ([],4) else if ∀ b∈l,vR b then (if 400 < (mrgR 2 l []).length then ([],4) else (mrgR 2 l [],0)) else ([],8)
noncomputable def jR (kind : Int) (p q : List qi) : List qi × Int:=
  if Yn p≠0 then ([],Yn p) else if Yn q≠0 then ([],Yn q) else if 400 < (mrgR kind p q).length then ([],4) else (mrgR kind p q,0)
end Go.Sh
