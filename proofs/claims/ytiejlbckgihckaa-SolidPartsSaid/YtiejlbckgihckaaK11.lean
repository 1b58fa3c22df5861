/- Pt1 Pt2 Pt3 Pt4 Pt5 Pt6 Pt7 Qa1 Qa2 Qa3 Rs1 -/
import Derived.Test.YtiejlbckgihckaaK10
namespace Go.Sh
open Go Go.Am
theorem Zh {α β : Type} {f : α→Option (α ⊕ β)} (st : Nat→α) (n : Nat) (b : β) (hs : ∀ k,k < n→f (st k) = some (.inl (st (k + 1)))) (hd : f (st n) = some (.inr b)) : ∀ {k : Nat},k≤n→loop f (st k) = some b:=by
  have key : ∀ m k,n - k = m→k≤n→loop f (st k) = some b:=by
    intro m
    induction m with
    | zero => intro k c a; obtain rfl : k = n := by omega
              exact Kb hd
    | succ m ih=>intro k c a;rw [Km (hs k q6)];exact ih (k + 1) q6 q6
  intro k a;exact key _ k rfl a
theorem w64s {k : Nat} {n : Nat} (h : k < n) (a : n≤1000000) : w64 ((k : Int) + 1) = ((k + 1 : Nat) : Int):=by rw [Qc q6];omega
theorem dlt {k n : Nat} (h : k < n) : decide ((k : Int) < (n : Int)) = true:=Q6 q6
theorem dnl {n : Nat} : decide ((n : Int) < (n : Int)) = false:=Q9 q6
theorem Jd {α β γ : Type} (src : List α) (b : src.length≤1000000) (h : α→List γ) (out : List γ) (fin : List γ→β) (f : Int × List γ→Option ((Int × List γ) ⊕ β))
    (hs : ∀ (k : Nat) (a : k < src.length) (o : List γ),o = out ++ (src.take k).flatMap h→f ((k : Int),o) = some (.inl (((k + 1 : Nat) : Int),o ++ h src[k])))
    (hd : ∀ o,f ((src.length : Int),o) = some (.inr (fin o))) : loop f (0,out) = some (fin (out ++ src.flatMap h)):=by
  have e : ∀ k (a : k < src.length),(src.take (k + 1)).flatMap h = (src.take k).flatMap h ++ h src[k]:=fun k a=>by
    rw [List.take_succ_eq_append_getElem a,List.flatMap_append,List.flatMap_cons,List.flatMap_nil,List.append_nil]
  have:=Zh (f:=f) (fun k=>((k : Int),out ++ (src.take k).flatMap h)) src.length (fin (out ++ src.flatMap h)) (fun k a=>by
    rw [hs k a _ rfl,e k a,List.append_assoc]) (by simp only [List.take_length];exact hd _) (Nat.zero_le _)
  simpa using this
theorem q6y {α β γ : Type} (src : List α) (h : α→γ) (out : List γ) (fin : List γ→β) (f : Int × List γ→Option ((Int × List γ) ⊕ β))
    (hs : ∀ (k : Nat) (a : k < src.length) (o : List γ),o.length = out.length + k→f ((k : Int),o) = some (.inl (((k + 1 : Nat) : Int),o ++ [h src[k]])))
    (hd : ∀ o,f ((src.length : Int),o) = some (.inr (fin o))) : loop f (0,out) = some (fin (out ++ src.map h)):=by
  have e : ∀ k (a : k < src.length),(src.take (k + 1)).map h = (src.take k).map h ++ [h src[k]]:=fun k a=>by
    rw [List.take_succ_eq_append_getElem a,List.map_append,List.map_cons,List.map_nil]
  have:=Zh (f:=f) (fun k=>((k : Int),out ++ (src.take k).map h)) src.length (fin (out ++ src.map h)) (fun k a=>by
    rw [hs k a _ (by simp;omega),e k a,List.append_assoc]) (by simp only [List.take_length];exact hd _) (Nat.zero_le _)
  simpa using this
theorem q9o {γ : Type} (g : γ→γ) (a b : List γ) (l : (a ++ b).length≤1000000) (f : Int × List γ→Option ((Int × List γ) ⊕ (List γ)))
    (hs : ∀ (k : Nat) (o : List γ) (h : k < o.length),o.length = (a ++ b).length→f ((k : Int),o) = some (.inl (((k + 1 : Nat) : Int),o.set k (g o[k]))))
    (hd : ∀ o : List γ,f ((o.length : Int),o) = some (.inr o)) : loop f ((a.length : Int),a ++ b) = some (a ++ b.map g):=by
  have m : a.length + b.length≤1000000:=by simpa using l
  have key:=Zh (f:=f) (fun k=>(((a.length + k : Nat) : Int),a ++ ((b.take k).map g ++ b.drop k))) b.length (a ++ b.map g) (fun k h=>by
    have c : (a ++ ((b.take k).map g ++ b.drop k)).length = (a ++ b).length:=by simp;omega
    have d : a.length + k < (a ++ ((b.take k).map g ++ b.drop k)).length:=by rw [c];simp;omega
    rw [hs (a.length + k) _ d c];have j : ((b.take k).map g).length = k:=by simp;omega
    have e : (a ++ ((b.take k).map g ++ b.drop k))[a.length + k]'d = b[k]:=by
      rw [List.getElem_append_right q6];rw [List.getElem_append_right (by rw [j];omega)];simp [List.length_take,Nat.min_eq_left (Nat.le_of_lt h)]
    rw [e];congr 4;rw [List.set_append,qs q6,List.set_append,qs (by rw [j];omega),j];have z : a.length + k - a.length - k = 0:=by omega
    rw [z,List.take_succ_eq_append_getElem h,List.drop_eq_getElem_cons h,List.set_cons_zero,List.map_append,List.map_cons,List.map_nil,List.append_assoc]
    rfl) (by
    simp only [List.take_length,List.drop_length,List.append_nil];have:=hd (a ++ b.map g)
    simpa using this) (Nat.zero_le _)
  simpa using key
theorem q2o {α γ υ : Type} (l : List α) (c : α→Bool) (m : (k : Nat)→k < l.length→γ) (u : υ) (f : Int→Option (Int ⊕ (υ ⊕ γ)))
    (hs : ∀ (k : Nat) (h : k < l.length),f (k : Int) = some (if c l[k] = true then .inr (.inr (m k h)) else .inl ((k + 1 : Nat) : Int))) (hd : f (l.length : Int) = some (.inr (.inl u))) :
    ((∀ v∈l,c v = false)∧loop f 0 = some (.inl u))∨∃ k,∃ h : k < l.length,c l[k] = true∧(∀ j (d : j < k),c (l[j]'(q6)) = false)∧loop f 0 = some (.inr (m k h)):=by
  by_cases q : ∀ v∈l,c v = false
  · refine .inl ⟨q,?_⟩;exact Zh (f:=f) (fun k=>(k : Int)) l.length _ (fun k b=>by rw [hs k b,q _ (Kw b)];rfl) hd (Nat.zero_le _)
  · refine .inr ?_
    have : ∃ k,∃ h : k < l.length,c l[k] = true:=by
      refine Classical.byContradiction fun r=>q fun v s=>?_;obtain ⟨k,b,rfl⟩:=List.getElem_of_mem s;cases o : c l[k]
      · rfl
      · exact absurd ⟨k,b,o⟩ r
    have n : ∃ k,(∃ h : k < l.length,c l[k] = true)∧∀ j,j < k→¬ ∃ h : j < l.length,c l[j] = true:=by
      obtain ⟨k,b⟩:=this
      induction k using Nat.strongRecOn with
      | _ k ih=>
        by_cases d : ∃ j,j < k∧∃ h : j < l.length,c l[j] = true
        · obtain ⟨j,p,n⟩:=d;exact ih j p n
        · exact ⟨k,b,fun j p n=>d ⟨j,p,n⟩⟩
    obtain ⟨k,⟨b,o⟩,g⟩:=n
    have a : ∀ j (d : j < k),c (l[j]'(q6)) = false:=fun j d=>by
      cases h : c (l[j]'(q6))
      · rfl
      · exact absurd ⟨q6,h⟩ (g j d)
    refine ⟨k,b,o,a,?_⟩;exact Zh (f:=f) (fun k=>(k : Int)) k _ (fun j d=>by rw [hs j q6,a j d];rfl) (by rw [hs k b,qp o]) (Nat.zero_le _)
theorem qjs : ∀ {l a b : List Int},Yj l a→Yj l b→a = b:=by
  have key : ∀ (a b : List Int),a.Pairwise (· < ·)→b.Pairwise (· < ·)→(∀ x,x∈a↔x∈b)→a = b:=by
    intro a
    induction a with
    | nil=>intro b _ _ h;cases b with
      | nil=>rfl
      | cons y b=>exact absurd ((h y).2 qb) qb
    | cons x a ih=>
      intro b d hb h
      cases b with
      | nil=>exact absurd ((h x).1 qb) qb
      | cons y b=>
        rw [List.pairwise_cons] at d hb
        have j : x = y:=by
          rcases List.mem_cons.1 ((h x).1 qb) with c | c
          · exact c
          · rcases List.mem_cons.1 ((h y).2 qb) with g | g
            · exact g.symm
            · have:=hb.1 _ c;have:=d.1 _ g;omega
        subst j;rw [ih b d.2 hb.2 fun z=>?_];constructor
        · intro f;rcases List.mem_cons.1 ((h z).1 (by simp [f])) with c | c
          · have:=d.1 _ f;omega
          · exact c
        · intro f;rcases List.mem_cons.1 ((h z).2 (by simp [f])) with c | c
          · have:=hb.1 _ f;omega
          · exact c
  intro l a b d hb;exact key a b d.1 hb.1 fun x=>(d.2 x).trans (hb.2 x).symm
def ltI (a b : Int) : Bool:=decide (a < b)
theorem swoI : Sort.SWO ltI where
  irrefl:=by intro x;simp [ltI]
  trans:=by intro x y z;simp only [ltI,decide_eq_true_eq];omega
  ntrans:=by intro x y z;simp only [ltI,decide_eq_false_iff_not];omega
theorem cmpI : Ko qO ltI (fun _=>True):=by
  intro x y _ _;refine ⟨sg x y,rfl,?_⟩;rw [Zi];rfl
theorem qjr (l : List Int) (c : l.length≤1000000) : ∃ ys,Ub l = some ys∧ys.Perm l∧ys.Pairwise (·≤·):=by
  obtain ⟨ys,d,f,g⟩:=qjq cmpI swoI l c (fun _ _=>trivial);refine ⟨ys,by rw [qu1];exact d,f,g.imp ?_⟩;intro a b h;simp only [ltI,decide_eq_false_iff_not] at h;omega
end Go.Sh
namespace Go.Sh
open Go Go.Am
structure CInv (p : List Int) (k k2 i : Nat) (a : List Int) : Prop where
  len : a.length = p.length
  hi : i≤k + k2 - 1
  same : ∀ j (h : j < p.length),k + k2 - 1≤j→a[j]? = some p[j]
  so : Yj (p.take (k + k2)) (a.take i)
theorem qm0 {p : List Int} (hp : p.Pairwise (·≤·)) (hl : p.length≤1000000) {k b i : Nat} {a : List Int} (hk : 0 < k) (h2 : 0 < b) (w : k + b < p.length) (h : CInv p k b i a) :
    ∃ (i' : Nat) (a' : List Int),q16 ((i : Int),(k,p.length - k),(b : Int),a) = some (.inl ((i' : Int),(k,p.length - k),((b + 1 : Nat) : Int),a'))∧CInv p k (b + 1) i' a':=by
  obtain ⟨h1,h3,o,h5,v⟩:=h;have hb : decide ((b : Int) < ((p.length - k : Nat) : Int)) = true:=dlt q6
  have r1 : idxW a (k,p.length - k) (b : Int) = some (p[k + b]):=by
    unfold idxW;rw [qp ⟨q6,q6⟩];simp only [Int.toNat_natCast];exact o (k + b) w q6
  have r2 : idxW a (k,p.length - k) (w64 ((b : Int) - 1)) = some (p[k + b - 1]):=by
    rw [Qc q6];have e : (b : Int) - 1 = ((b - 1 : Nat) : Int):=by omega
    rw [e];unfold idxW;rw [qp ⟨q6,q6⟩];simp only [Int.toNat_natCast];have:=o (k + b - 1) q6 q6;rw [show k + (b - 1) = k + b - 1 by omega];exact this
  have ah : p[k + b - 1]≤p[k + b]:=List.pairwise_iff_getElem.1 hp _ _ q6 w q6
  have m : p[k + b - 1]∈p.take (k + b):=by
    rw [List.mem_take_iff_getElem];exact ⟨k + b - 1,q6,rfl⟩
  have l : p.take (k + (b + 1)) = p.take (k + b) ++ [p[k + b]]:=by rw [← Nat.add_assoc,List.take_succ_eq_append_getElem w]
  have hw : w64 ((b : Int) + 1) = ((b + 1 : Nat) : Int):=w64s (n:=p.length) q6 hl;by_cases t : p[k + b] = p[k + b - 1]
  · refine ⟨i,a,?_,h1,q6,fun j q r=>o j q q6,?_⟩
    · have c : (p[k + b] != p[k + b - 1]) = false:=by rw [t];simp
      simp only [q16,hb,qw,r1,r2,qj,c,qv,hw]
    · rw [l];refine ⟨h5,fun x=>?_⟩;rw [v x];constructor
      · intro g;exact List.mem_append.2 (.inl g)
      · intro g;rcases List.mem_append.1 g with h | h
        · exact h
        · simp only [List.mem_singleton] at h;rw [h,t];exact m
  · have c : (p[k + b] != p[k + b - 1]) = true:=by simpa using t
    have f : i < a.length:=by omega
    have r3 : idx a (i : Int) = some a[i]:=Qp f;have s : w64 ((i : Int) + 1) = ((i + 1 : Nat) : Int):=w64s (n:=p.length) q6 hl;refine ⟨i + 1,a.set i p[k + b],?_,by simpa using h1,q6,fun j q r=>?_,?_⟩
    · simp only [q16,hb,qw,r1,r2,qj,c,r3,hw,s,Int.toNat_natCast]
    · rw [List.getElem?_set_ne q6];exact o j q q6
    · have e : (a.set i p[k + b]).take (i + 1) = a.take i ++ [p[k + b]]:=by
        rw [List.take_succ_eq_append_getElem (by simpa using f)];simp [List.take_set_of_le]
      rw [e,l];refine ⟨?_,fun x=>?_⟩
      · rw [List.pairwise_append];refine ⟨h5,qb,fun x g y z=>?_⟩;simp only [List.mem_singleton] at z;subst z;have d:=(v x).1 g;rw [List.mem_take_iff_getElem] at d;obtain ⟨j,q,rfl⟩:=d
        have : p[j]≤p[k + b - 1]:=by
          by_cases u : j = k + b - 1
          · subst u;exact Int.le_refl _
          · exact List.pairwise_iff_getElem.1 hp _ _ q6 q6 q6
        omega
      · rw [List.mem_append,List.mem_append,v x]
theorem qlz {p : List Int} (hp : p.Pairwise (·≤·)) (n : p.length≤1000000) {k : Nat} (r : 0 < k) (t : k < p.length) (x : Yj (p.take (k + 1)) (p.take k)) :
    ∃ i : Nat,∃ a : List Int,loop q16 ((k : Int),(k,p.length - k),1,p) = some ((i : Int),a)∧a.length = p.length∧i≤p.length∧Yj p (a.take i):=by
  have h:=Yv (f:=q16) (mk:=fun d (c : Nat × List Int)=>((c.1 : Int),(k,p.length - k),((d : Nat) : Int),c.2)) (p.length - k) (fun d c=>0 < d∧CInv p k d c.1 c.2)
    (fun b=>∃ i : Nat,∃ a : List Int,b = ((i : Int),a)∧a.length = p.length∧i≤p.length∧Yj p (a.take i))
    (fun d c q g=>by
      obtain ⟨w,a',m,y⟩:=qm0 hp n r g.1 q6 g.2
      exact .inl ⟨(w,a'),m,q6,y⟩)
    (fun c g=>by
      obtain ⟨l,o,h3,z,s⟩:=g;refine ⟨((c.1 : Int),c.2),?_,c.1,c.2,rfl,o,q6,?_⟩
      · simp only [q16,dnl,qv]
      · rwa [List.take_of_length_le q6] at s)
    (k0:=1) (c0:=(k,p)) q6 ⟨q6,rfl,qb,fun j u _=>by simp [u],x⟩
  obtain ⟨b,hb,i,a,rfl,v⟩:=h;exact ⟨i,a,hb,v⟩
theorem qf9 {p : List Int} (hp : p.Pairwise (·≤·)) (y : p.length≤1000000) :
    ∃ w a,q26 p = some ((0,w),a)∧a.length = p.length∧w≤p.length∧Yj p (a.take w):=by
  unfold q26;by_cases hs : p.length < 2
  · rw [Q6 (by omega : (p.length : Int) < 2),qw];refine ⟨p.length,p,rfl,rfl,Nat.le_refl _,?_⟩;rw [List.take_length];refine ⟨?_,fun x=>Iff.rfl⟩
    match p,hs with
    | [],_=>simp
    | [x],_=>simp
  rw [Q9 (by omega : ¬ (p.length : Int) < 2),qv]
  have b : ∀ k,k≤p.length→(∀ j (n : j < k),0 < j→∀ h : j < p.length,p[j]≠p[j - 1])→Yj (p.take k) (p.take k):=by
    intro k l q;refine ⟨?_,fun x=>Iff.rfl⟩;rw [List.pairwise_iff_getElem];intro i j hi n ah;simp only [List.length_take] at hi n;simp only [List.getElem_take];have d : p[j - 1]≤p[j]:=List.pairwise_iff_getElem.1 hp _ _ q6 q6 q6;have r:=q j q6 q6 q6
    have h3 : p[i]≤p[j - 1]:=by
      by_cases e : i = j - 1
      · subst e;exact Int.le_refl _
      · exact List.pairwise_iff_getElem.1 hp _ _ q6 q6 q6
    omega
  have c : ∀ k,0 < k→∀ h : k < p.length,p[k]≠p[k - 1]→Zu p (k : Int) = some (.inl ((k + 1 : Nat) : Int)):=by
    intro k o h q;have v : idx p (w64 ((k : Int) - 1)) = some (p[k - 1]):=by rw [Qc q6];exact Ux q6 q6
    have hb : (p[k] == p[k - 1]) = false:=by simpa using q
    simp only [Zu,dlt h,qw,Qp h,v,qj,hb,qv,w64s h y]
  by_cases t : ∀ j,0 < j→∀ h : j < p.length,p[j]≠p[j - 1]
  · have d : loop (Zu p) 1 = some (.inl ()):=by
      exact Zh (f:=Zu p) (fun k=>((k + 1 : Nat) : Int)) (p.length - 1) _ (fun k l=>by
        exact c (k + 1) q6 q6 (t (k + 1) q6 q6)) (by
        show Zu p (((p.length - 1) + 1 : Nat) : Int) = _;rw [show p.length - 1 + 1 = p.length by omega]
        simp only [Zu,dnl,qv]) (Nat.zero_le _)
    rw [d];refine ⟨p.length,p,rfl,rfl,Nat.le_refl _,?_⟩;have:=b p.length (Nat.le_refl _) fun j _ o h=>t j o h;rw [List.take_length] at this ⊢;exact this
  · have r : ∃ k,(0 < k∧∃ h : k < p.length,p[k] = p[k - 1])∧∀ j,j < k→¬ (0 < j∧∃ h : j < p.length,p[j] = p[j - 1]):=by
      have : ∃ k,0 < k∧∃ h : k < p.length,p[k] = p[k - 1]:=by
        refine Classical.byContradiction fun hn=>t fun j o h m=>hn ⟨j,o,h,m⟩
      obtain ⟨k,l⟩:=this
      induction k using Nat.strongRecOn with
      | _ k ih=>
        by_cases n : ∃ j,j < k∧(0 < j∧∃ h : j < p.length,p[j] = p[j - 1])
        · obtain ⟨j,d,r⟩:=n;exact ih j d r
        · exact ⟨k,l,fun j d r=>n ⟨j,d,r⟩⟩
    obtain ⟨k,⟨o,l,m⟩,g⟩:=r;have u : Yj (p.take k) (p.take k):=b k q6 fun j n o h m=>g j n ⟨o,h,m⟩
    have s : Yj (p.take (k + 1)) (p.take k):=by
      refine ⟨u.1,fun x=>?_⟩;rw [List.take_succ_eq_append_getElem l,List.mem_append];refine ⟨.inl,fun h=>h.elim id fun h=>?_⟩;simp only [List.mem_singleton] at h;rw [h,m,List.mem_take_iff_getElem];exact ⟨k - 1,q6,rfl⟩
    obtain ⟨i,a,z,e2,e3,e4⟩:=qlz hp y o l s;have s1 : sub2 p.length (k : Int) (p.length : Int) = some (k,p.length - k):=by unfold sub2;rw [qp ⟨q6,q6,q6⟩];simp
    have s2 : sub2 a.length (i : Int) (a.length : Int) = some (i,a.length - i):=by unfold sub2;rw [qp ⟨q6,q6,q6⟩];simp
    have s3 : sub2 a.length 0 (i : Int) = some (0,i):=by unfold sub2;rw [qp ⟨q6,q6,q6⟩];simp
    have v : idx p (w64 ((k : Int) - 1)) = some (p[k - 1]):=by rw [Qc q6];exact Ux q6 q6
    have d : loop (Zu p) 1 = some (.inr ((0,i),clrw a (i,a.length - i) 0)):=by
      exact Zh (f:=Zu p) (fun k=>((k + 1 : Nat) : Int)) (k - 1) _ (fun j n=>by
        exact c (j + 1) q6 q6 fun m=>g (j + 1) q6 ⟨q6,q6,m⟩) (by
        show Zu p (((k - 1) + 1 : Nat) : Int) = _;rw [show k - 1 + 1 = k by omega];have hb : (p[k] == p[k - 1]) = true:=by simpa using m
        simp only [Zu,dlt l,qw,Qp l,v,qj,hb,s1,z,s2,s3]) (Nat.zero_le _)
    rw [d];refine ⟨i,clrw a (i,a.length - i) 0,rfl,by rw [qf0 (by simp;omega)];exact e2,e3,?_⟩
    have : (clrw a (i,a.length - i) 0).take i = a.take i:=by
      unfold clrw splice;rw [List.append_assoc,List.take_append_of_le_length (by simp;omega)];simp [List.take_take]
    rw [this];exact e4
end Go.Sh
namespace Go.Sh
open Go Go.Am
theorem q6p {α : Type} [DecidableEq α] (e : α→α→Bool) (g : ∀ v w,e v w = decide (v = w)) (p q : List α) (n : p.length≤1000000) (f : Int→Option (Int ⊕ (Unit ⊕ Bool)))
    (l : ∀ k,f k = cond (decide (k < (p.length : Int))) ((idx p k).bind fun v=>(idx q k).bind fun w=>cond (!(e v w)) (some (.inr (.inr false))) (some (.inl (w64 (k + 1))))) (some (.inr (.inl ())))) :
    cond ((p.length : Int) != (q.length : Int)) (some false) ((loop f 0).bind fun m=>(match m with | .inl _=>some true | .inr x=>some x)) = some (decide (p = q)):=by
  by_cases a : p.length = q.length
  · have : ((p.length : Int) != (q.length : Int)) = false:=by rw [a];simp
    rw [this,qv]
    let c : Nat→Bool:=fun k=>if h : k < p.length then !(e p[k] (q[k]'(q6))) else false
    have hs : ∀ (k : Nat) (h : k < (List.range p.length).length),f (k : Int) = some (if c (List.range p.length)[k] = true then .inr (.inr false) else .inl ((k + 1 : Nat) : Int)):=by
      intro k h;have h : k < p.length:=by simpa using h
      rw [l];simp only [dlt h,qw,Qp h,Qp (xs:=q) (k:=k) q6,qj,List.getElem_range,c,dif_pos h,w64s h n];cases e p[k] (q[k]'(q6)) <;> simp
    have hd : f ((List.range p.length).length : Int) = some (.inr (.inl ())):=by rw [l];simp []
    rcases q2o (List.range p.length) c (fun _ _=>false) () f hs hd with ⟨o,b⟩ | ⟨k,s,j,_,b⟩
    · rw [b]
      have : p = q:=by
        refine List.ext_getElem a fun k d t=>?_;have:=o k (by simpa using d);simp only [c,dif_pos d,g,Bool.not_eq_false',decide_eq_true_eq] at this;exact this
      simp [this]
    · rw [b];have r : k < p.length:=by simpa using s
      have : p≠q:=by
        intro h;simp only [List.getElem_range,c,g,h] at j;simp at j
      simp [this]
  · have : ((p.length : Int) != (q.length : Int)) = true:=by simpa using (fun h : (p.length : Int) = q.length=>a q6)
    rw [this,qw];have : p≠q:=fun h=>a (by rw [h]);simp [this]
theorem qfr (p q : List qm) (a : p.length≤1000000) : q7s p q = some (decide (p = q)):=
  q6p (fun v w=>((v.Lo == w.Lo) && ((v.Hi == w.Hi) && true))) (fun v w=>by cases v;cases w;rw [Bool.eq_iff_iff];simp) p q a (qah p q) (fun _=>rfl)
theorem qj0 (p q : List qm) (a : p.length≤1000000) : q4p p q = some (decide (p = q)):=
  q6p (fun v w=>((v.Lo == w.Lo) && ((v.Hi == w.Hi) && true))) (fun v w=>by cases v;cases w;rw [Bool.eq_iff_iff];simp) p q a (qa5 p q) (fun _=>rfl)
theorem qfq (p q : List ql) (a : p.length≤1000000) : q7r p q = some (decide (p = q)):=
  q6p (fun v w=>((v.X0 == w.X0) && ((v.Y0 == w.Y0) && ((v.X1 == w.X1) && ((v.Y1 == w.Y1) && true))))) (fun v w=>by cases v;cases w;rw [Bool.eq_iff_iff];simp) p q a (qaf p q) (fun _=>rfl)
theorem qiz (p q : List ql) (a : p.length≤1000000) : q4t p q = some (decide (p = q)):=
  q6p (fun v w=>((v.X0 == w.X0) && ((v.Y0 == w.Y0) && ((v.X1 == w.X1) && ((v.Y1 == w.Y1) && true))))) (fun v w=>by cases v;cases w;rw [Bool.eq_iff_iff];simp) p q a (qa6 p q) (fun _=>rfl)
theorem sameBox (p q : List qf) (a : p.length≤1000000) : q7f p q = some (decide (p = q)):=
  q6p (fun v w=>((v.Lo.X == w.Lo.X) && ((v.Lo.Y == w.Lo.Y) && ((v.Lo.Z == w.Lo.Z) && ((v.Hi.X == w.Hi.X) && ((v.Hi.Y == w.Hi.Y) && ((v.Hi.Z == w.Hi.Z) && true))))))) (fun v w=>by rcases v with ⟨⟨_,_,_⟩,⟨_,_,_⟩⟩;rcases w with ⟨⟨_,_,_⟩,⟨_,_,_⟩⟩;rw [Bool.eq_iff_iff];simp [and_assoc]) p q a (qa9 p q) (fun _=>rfl)
structure Mg (σ β : Type) where
  done : List β
  sec : List σ
  lo : Int
  hi : Int
section
variable {σ β : Type} [DecidableEq σ] (put : Int→Int→σ→β)
def Mg.flat (s : Mg σ β) : List β:=s.done ++ s.sec.map (put s.lo s.hi)
def addM (s : Mg σ β) (a b : Int) (c : List σ) : Mg σ β:=if c≠[]∧c = s.sec∧s.hi = a then ⟨s.done,s.sec,s.lo,b⟩ else ⟨s.flat put,c,a,b⟩
def K0 : Mg σ β:=⟨[],[],0,0⟩
def K2 (s0 : Mg σ β) (steps : List (Int × Int × List σ)) : Mg σ β:=steps.foldl (fun s t=>addM put s t.1 t.2.1 t.2.2) s0
theorem q4d {s0 : Mg σ β} {steps : List (Int × Int × List σ)} {i : Nat} (h : i < steps.length) : K2 put s0 (steps.take (i + 1)) = addM put (K2 put s0 (steps.take i)) steps[i].1 steps[i].2.1 steps[i].2.2:=by
  unfold K2;rw [List.take_succ_eq_append_getElem h,List.foldl_append];rfl
theorem qe4 (s : Mg σ β) (a b : Int) (c : List σ) : (addM put s a b c).hi = b:=by unfold addM;split <;> rfl
theorem qkf (s : Mg σ β) (a b : Int) (c : List σ) : ((addM put s a b c).flat put).length≤(s.flat put).length + c.length:=by
  unfold addM;split
  · simp [Mg.flat]
  · simp [Mg.flat];omega
theorem qbv {s0 : Mg σ β} {M : Nat} : ∀ {steps : List (Int × Int × List σ)},(∀ t∈steps,t.2.2.length≤M)→((K2 put s0 steps).flat put).length≤(s0.flat put).length + steps.length * M:=by
  intro steps
  induction steps generalizing s0 with
  | nil=>intro _;simp [K2]
  | cons t r ih=>
    intro h;have c:=ih (s0:=addM put s0 t.1 t.2.1 t.2.2) fun u a=>h u (by simp [a]);have f:=qkf put s0 t.1 t.2.1 t.2.2;have d:=h t qb;have b : K2 put s0 (t::r) = K2 put (addM put s0 t.1 t.2.1 t.2.2) r:=rfl;rw [b];simp only [List.length_cons,Nat.succ_mul];omega
end
section
variable {σ : Type}
def Yh (cuts : List Int) (sec : Int→List σ) : List (Int × Int × List σ):=(cuts.zip cuts.tail).map fun c=>(c.1,c.2,sec c.1)
theorem q8w (a : List Int) (sec : Int→List σ) : (Yh a sec).length = a.length - 1:=by simp [Yh]
theorem q8v {a : List Int} {sec : Int→List σ} {i : Nat} (h : i < (Yh a sec).length) (b : i + 1 < a.length) : (Yh a sec)[i] = (a[i],a[i + 1],sec a[i]):=by
  simp [Yh]
theorem qwy {a : List Int} {sec : Int→List σ} {M : Nat} (h : ∀ x,(sec x).length≤M) : ∀ t∈Yh a sec,t.2.2.length≤M:=by
  intro t b;simp only [Yh,List.mem_map] at b;obtain ⟨c,_,rfl⟩:=b;exact h _
end
theorem Ug {σ β : Type} [DecidableEq σ] (put : Int→Int→σ→β) (s : Mg σ β) (a b : Int) (c : List σ) : (c≠[]∧c = s.sec∧s.hi = a∧addM put s a b c = ⟨s.done,s.sec,s.lo,b⟩)∨(¬ (c≠[]∧c = s.sec∧s.hi = a)∧addM put s a b c = ⟨s.flat put,c,a,b⟩):=by
  unfold addM;split
  · rename_i h;exact .inl ⟨h.1,h.2.1,h.2.2,rfl⟩
  · rename_i h;exact .inr ⟨h,rfl⟩
def putR (a b : Int) (t : qm) : ql:={X0:=a,Y0:=t.Lo,X1:=b,Y1:=t.Hi}
theorem qko (s : Mg qm ql) (a b : Int) (c : List qm) (z : (s.flat putR).length + c.length≤1000000) :
    q7h (s.flat putR) s.sec (s.done.length : Int) s.hi a b c = some ((addM putR s a b c).sec,((addM putR s a b c).done.length : Int),(addM putR s a b c).hi,(addM putR s a b c).flat putR):=by
  have d : s.sec.length≤1000000:=by have : (s.flat putR).length = s.done.length + s.sec.length:=(by simp [Mg.flat]);omega
  unfold q7h;rcases Ug putR s a b c with ⟨m,r,t,n⟩ | ⟨m,n⟩
  · have hb : decide ((c.length : Int) > 0) = true:=Q6 (by have:=List.length_pos_iff.2 m;omega);have u : (s.hi == a) = true:=by simpa using t
    rw [r] at hb;rw [n,r];simp only [hb,qw,u,qj,qfr _ _ d,decide_true]
    have:=q9o (fun v : ql=>({X0:=v.X0,Y0:=v.Y0,X1:=b,Y1:=v.Y1} : ql)) s.done (s.sec.map (putR s.lo s.hi)) (by have : (s.done ++ s.sec.map (putR s.lo s.hi)).length = (s.flat putR).length:=rfl;omega) (q51 b) (fun k o f y=>by
      have l : (s.done ++ s.sec.map (putR s.lo s.hi)).length = (s.flat putR).length:=rfl
      simp only [q51,dlt f,qw,Qp f,qj,w64s f q6,Int.toNat_natCast]) (fun o=>by simp only [q51,dnl,qv])
    rw [show s.flat putR = s.done ++ s.sec.map (putR s.lo s.hi) from rfl,this];simp only [qj,Mg.flat,List.map_map];rfl
  · rw [n]
    have w : ((cond (decide ((c.length : Int) > 0)) (some (s.hi == a)) (some false)).bind fun j=>(cond j ((q7s s.sec c).bind fun g=>some g) (some false))) = some false:=by
      by_cases l : c = []
      · subst l;simp
      · have hb : decide ((c.length : Int) > 0) = true:=Q6 (by have:=List.length_pos_iff.2 l;omega);simp only [hb,qw,qj,qfr _ _ d];by_cases q : s.hi = a
        · have x : s.sec≠c:=fun h=>m ⟨l,h.symm,q⟩;simp [q,x]
        · have : (s.hi == a) = false:=by simpa using q
          simp [this]
    have p:=q6y c (putR a b) (s.flat putR) (fun o=>(c,((s.flat putR).length : Int),b,o)) (q52 c a b (s.flat putR)) (fun k f o y=>by
      simp only [q52,dlt f,qw,Qp f,qj,w64s f q6];rw [Ku (by simp;omega)]
      rfl) (fun o=>by simp only [q52,dnl,qv])
    rw [← Option.bind_assoc,w];simp only [qj,qv,p];simp [Mg.flat]
end Go.Sh
namespace Go.Sh
open Go Go.Am
def vR (r : ql) : Prop:=r.X0 < r.X1∧r.Y0 < r.Y1∧-1000000≤r.X0∧r.X0≤1000000∧-1000000≤r.X1∧r.X1≤1000000∧-1000000≤r.Y0∧r.Y0≤1000000∧-1000000≤r.Y1∧r.Y1≤1000000
instance (r : ql) : Decidable (vR r):=by unfold vR;infer_instance
theorem qmv (x : Int) : q21 x = some (decide (-1000000≤x∧x≤1000000)):=by
  unfold q21;by_cases h : x ≥ -1000000 <;> by_cases a : x≤1000000 <;> simp [h,a] <;> omega
theorem qxb (r : ql) : q7j r = some (decide (vR r)):=by
  unfold q7j;simp only [qmv,qm1,qj,vR];by_cases a : r.X0 < r.X1 <;> by_cases c : r.Y0 < r.Y1 <;> by_cases d : -1000000≤r.X0∧r.X0≤1000000 <;> by_cases b : -1000000≤r.X1∧r.X1≤1000000 <;> by_cases f : -1000000≤r.Y0∧r.Y0≤1000000 <;> by_cases g : -1000000≤r.Y1∧r.Y1≤1000000 <;> simp [a,c,d,b,f,g] <;> omega
def covR (x : Int) (r : ql) : Bool:=decide (r.X0≤x) && decide (x < r.X1)
def ysp (r : ql) : qm:={Lo:=r.Y0,Hi:=r.Y1}
def covS (l : List ql) (x : Int) : List qm:=l.flatMap fun r=>if covR x r = true then [ysp r] else []
def hasR (l : List ql) (x y : Int) : Prop:=∃ r∈l,r.X0≤x∧x < r.X1∧r.Y0≤y∧y < r.Y1
theorem q9w {l : List ql} {x : Int} {t : qm} : t∈covS l x↔∃ r∈l,covR x r = true∧t = ysp r:=by
  unfold covS;rw [List.mem_flatMap];constructor
  · rintro ⟨r,a,h⟩;split at h
    · rename_i b;simp only [List.mem_singleton] at h;exact ⟨r,a,b,h⟩
    · cases h
  · rintro ⟨r,a,b,rfl⟩;exact ⟨r,a,by simp [b]⟩
theorem J6 {l : List ql} {x y : Int} : has (covS l x) y↔hasR l x y:=by
  unfold has hasR;constructor
  · rintro ⟨t,g,a,c⟩;obtain ⟨r,b,d,rfl⟩:=q9w.1 g;simp only [covR,Bool.and_eq_true,decide_eq_true_eq] at d;exact ⟨r,b,d.1,d.2,a,c⟩
  · rintro ⟨r,b,a,c,h,f⟩;exact ⟨ysp r,q9w.2 ⟨r,b,by simp [covR,a,c],rfl⟩,h,f⟩
theorem q1h (l : List ql) (x : Int) : (covS l x).length≤l.length:=by
  unfold covS
  induction l with
  | nil=>simp
  | cons r l ih=>
    simp only [List.flatMap_cons,List.length_append,List.length_cons];have : (if covR x r = true then [ysp r] else []).length≤1:=by split <;> simp
    omega
theorem qm9 {l : List ql} (h : ∀ r∈l,vR r) (x : Int) : ∀ t∈covS l x,vld t:=by
  intro t d;obtain ⟨r,a,_,rfl⟩:=q9w.1 d;obtain ⟨_,c,_,_,_,_,f,_,_,b⟩:=h r a;exact ⟨c,f,b⟩
def xsOf (l : List ql) : List Int:=l.flatMap fun r=>[r.X0,r.X1]
def ysOf (l : List ql) : List Int:=l.flatMap fun r=>[r.Y0,r.Y1]
theorem q1d (l : List ql) : (xsOf l).length = 2 * l.length:=by
  unfold xsOf;induction l with
  | nil=>rfl
  | cons r l ih=>simp only [List.flatMap_cons,List.length_append,List.length_cons,List.length_nil];omega
theorem q93 (l : List ql) : (ysOf l).length = 2 * l.length:=by
  unfold ysOf;induction l with
  | nil=>rfl
  | cons r l ih=>simp only [List.flatMap_cons,List.length_append,List.length_cons,List.length_nil];omega
theorem qfo {l : List ql} {x y : Int} (h : y∈ends (covS l x)) : y∈ysOf l:=by
  obtain ⟨t,b,h⟩:=q70.1 h;obtain ⟨r,a,_,rfl⟩:=q9w.1 b;unfold ysOf;rw [List.mem_flatMap];exact ⟨r,a,by rcases h with h | h <;> simp [h,ysp]⟩
noncomputable def Qr (l : List Int) : List Int:=(J9 l).getD []
theorem Js {l : List Int} (a : l.length≤1000000) : J9 l = some (Qr l)∧Yj l (Qr l)∧(Qr l).length≤l.length:=by
  obtain ⟨t,c,d,b⟩:=qjt l a;unfold Qr;rw [c];exact ⟨rfl,d,b⟩
noncomputable def secJ (kind : Int) (p q : List ql) (x : Int) : List qm:=q2s kind (covS p x) (covS q x)
theorem qdl (kind : Int) {p q : List ql} (h : p.length + q.length≤100000) (x : Int) : (secJ kind p q x).length≤2 * (p.length + q.length):=by
  have a:=q1h p x;have b:=q1h q x;have:=(q6u kind (covS p x) (covS q x) q6 q6).2.len;unfold secJ;omega
noncomputable def mrg (kind : Int) (p q : List ql) : Mg qm ql:=K2 putR K0 (Yh (Qr (xsOf p ++ xsOf q)) (secJ kind p q))
noncomputable def mrgR (kind : Int) (p q : List ql) : List ql:=(mrg kind p q).flat putR
theorem q9j {p q : List ql} (h : p.length + q.length≤490) : J9 (xsOf p ++ xsOf q) = some (Qr (xsOf p ++ xsOf q))∧Yj (xsOf p ++ xsOf q) (Qr (xsOf p ++ xsOf q))∧(Qr (xsOf p ++ xsOf q)).length≤2 * (p.length + q.length):=by
  have d:=q1d p;have f:=q1d q;obtain ⟨a,b,c⟩:=Js (l:=xsOf p ++ xsOf q) (by simp;omega);exact ⟨a,b,by simp at c;omega⟩
theorem qbm {p q : List ql} (h : p.length + q.length≤490) : J9 (ysOf p ++ ysOf q) = some (Qr (ysOf p ++ ysOf q))∧Yj (ysOf p ++ ysOf q) (Qr (ysOf p ++ ysOf q))∧(Qr (ysOf p ++ ysOf q)).length≤2 * (p.length + q.length):=by
  have d:=q93 p;have f:=q93 q;obtain ⟨a,b,c⟩:=Js (l:=ysOf p ++ ysOf q) (by simp;omega);exact ⟨a,b,by simp at c;omega⟩
theorem qhk (kind : Int) {p q : List ql} (h : p.length + q.length≤490) (i : Nat) :
    ((K2 putR K0 ((Yh (Qr (xsOf p ++ xsOf q)) (secJ kind p q)).take i)).flat putR).length≤980 * 980:=by
  have c:=qbv putR (s0:=K0) (M:=980) (steps:=(Yh (Qr (xsOf p ++ xsOf q)) (secJ kind p q)).take i) (fun t b=>by
    have:=qwy (M:=2 * (p.length + q.length)) (fun x=>qdl kind q6 x) t (List.mem_of_mem_take b)
    omega)
  have a : ((Yh (Qr (xsOf p ++ xsOf q)) (secJ kind p q)).take i).length≤980:=by
    have:=(q9j h).2.2;rw [List.length_take,q8w];omega
  have f : (K0.flat putR : List ql).length = 0:=rfl;have d : ((Yh (Qr (xsOf p ++ xsOf q)) (secJ kind p q)).take i).length * 980≤980 * 980:=Nat.mul_le_mul_right _ a;omega
theorem qo3 (l : List ql) (hl : l.length≤400) :
    (((idx [l] 0).bind fun j=>(loop (q22 j) (0,[])).bind fun x0=>some x0).bind fun f=>(Ub f).bind fun c=>(Qw c.length f.length).bind fun n=>(q26 c).bind fun b=>(Qw b.2.length c.length).bind fun q=>(q2f b.2.length b.1).bind fun p=>some ((b.2.drop b.1.1).take b.1.2)) = some (Qr (xsOf l)):=by
  have s : idx [l] 0 = some l:=rfl
  have t : loop (q22 l) (0,[]) = some (xsOf l):=by
    have:=Jd l q6 (fun r=>[r.X0,r.X1]) [] (fun o=>o) (q22 l) (fun k g o v=>by
      have h8 : o.length = 2 * k:=by rw [v,List.nil_append];have:=q1d (l.take k);rw [List.length_take,Nat.min_eq_left q6] at this;exact this
      simp only [q22,dlt g,qw,Qp g,qj,w64s g q6];rw [Ku (by simp;omega)]
      rfl) (fun o=>by simp only [q22,dnl,qv])
    rw [List.nil_append] at this;exact this
  have hx:=q1d l;obtain ⟨ys,z,m,u⟩:=qjr (xsOf l) q6;have h : ys.length = (xsOf l).length:=m.length_eq;obtain ⟨w,a,c1,c2,c3,c4⟩:=qf9 u q6;obtain ⟨_,y,_⟩:=Js (l:=xsOf l) q6
  have d : a.take w = Qr (xsOf l):=by
    refine qjs (l:=xsOf l) ⟨c4.1,fun x=>?_⟩ y;rw [c4.2 x];exact m.mem_iff
  simp only [s,qj,t,z,Qw,h,if_true,c1,c2,q2f];rw [qp q6];simp only [qj,List.drop_zero,d]
theorem qo2 (l : List ql) (f : l.length≤400) (x : Int) : loop (q3d l x) (0,[]) = some (covS l x):=by
  have:=Jd l q6 (fun r=>if covR x r = true then [ysp r] else []) [] (fun o=>o) (q3d l x) (fun k b o d=>by
    have g : o.length≤k:=by rw [d,List.nil_append];have:=q1h (l.take k) x;rw [List.length_take,Nat.min_eq_left q6] at this;exact this
    simp only [q3d,dlt b,qw,Qp b,qj,w64s b q6];by_cases a : l[k].X0≤x
    · by_cases c : x < l[k].X1
      · simp only [a,c,decide_true,qw,qj,covR,Bool.and_self,if_true];rw [Ku (by simp;omega)];rfl
      · simp only [a,c,decide_true,decide_false,qw,qv,qj,covR,Bool.and_false,if_false,Bool.false_eq_true,List.append_nil]
    · simp only [a,decide_false,qv,qj,covR,Bool.false_and,if_false,Bool.false_eq_true,List.append_nil]) (fun o=>by simp only [q3d,dnl,qv])
  rw [List.nil_append] at this;exact this
theorem qo4 (l : List ql) (s : l.length≤400) (x : ∀ r∈l,vR r) : q7i l = some (if 400 < (mrgR 2 l []).length then ([],4) else (mrgR 2 l [],0)):=by
  unfold q7i;rw [qo3 l s];simp only [qj];have c : Qr (xsOf l ++ xsOf []) = Qr (xsOf l):=by simp [xsOf]
  obtain ⟨_,n,a⟩:=q9j (p:=l) (q:=[]) (by simp;omega);have g:=fun i=>qhk 2 (p:=l) (q:=[]) (by simp;omega) i;rw [c] at n a;have a : (Qr (xsOf l)).length≤2 * l.length:=by simpa using a
  have d : loop (q23 (Qr (xsOf l)) l) (1,[],0,0,[]) = some ((mrg 2 l []).sec,((mrg 2 l []).done.length : Int),(mrg 2 l []).hi,mrgR 2 l []):=by
    unfold mrgR mrg;rw [c] at g ⊢;generalize h : Yh (Qr (xsOf l)) (secJ 2 l []) = steps at g ⊢;have z : steps.length = (Qr (xsOf l)).length - 1:=by rw [← h];exact q8w _ _
    have j : K2 putR K0 (steps.take steps.length) = K2 putR K0 steps:=by rw [List.take_length]
    have key:=Zh (f:=q23 (Qr (xsOf l)) l) (fun k=>(((k + 1 : Nat) : Int),(K2 putR K0 (steps.take k)).sec,((K2 putR K0 (steps.take k)).done.length : Int),(K2 putR K0 (steps.take k)).hi,(K2 putR K0 (steps.take k)).flat putR))
      steps.length ((K2 putR K0 steps).sec,((K2 putR K0 steps).done.length : Int),(K2 putR K0 steps).hi,(K2 putR K0 steps).flat putR) (fun k u=>by
        have b : k + 1 < (Qr (xsOf l)).length:=by omega
        have y : steps[k] = ((Qr (xsOf l))[k],(Qr (xsOf l))[k + 1],secJ 2 l [] (Qr (xsOf l))[k]):=by
          subst h;exact q8v u b
        have w : idx (Qr (xsOf l)) (w64 (((k + 1 : Nat) : Int) - 1)) = some (Qr (xsOf l))[k]:=by rw [Qc q6];exact Ux q6 q6
        have aa:=q1h l (Qr (xsOf l))[k]
        have m : q69 (covS l (Qr (xsOf l))[k]) = some (secJ 2 l [] (Qr (xsOf l))[k],0):=by
          rw [qo5];unfold qce;rw [qs q6,qp (qm9 x _)];rfl
        have o:=qdl 2 (p:=l) (q:=[]) (by simp;omega) (Qr (xsOf l))[k];have v:=g k;have hb:=qko (K2 putR K0 (steps.take k)) (Qr (xsOf l))[k] (Qr (xsOf l))[k + 1] (secJ 2 l [] (Qr (xsOf l))[k]) (by simp at o;omega);rw [q4d putR u,y];simp only [q23,dlt b,qw,w,Qp b,qj,show idx [l] 0 = some l from rfl,qo2 l s,m,hb,Bool.not_true,qv]
        rw [w64s b q6]) (by
        rw [j];by_cases h0 : (Qr (xsOf l)).length = 0
        · have : decide (((steps.length + 1 : Nat) : Int) < ((Qr (xsOf l)).length : Int)) = false:=Q9 q6;simp only [q23,this,qv]
        · have : decide (((steps.length + 1 : Nat) : Int) < ((Qr (xsOf l)).length : Int)) = false:=Q9 q6
          simp only [q23,this,qv]) (Nat.zero_le _)
    exact key
  rw [d];simp only [qj];by_cases t : 400 < (mrgR 2 l []).length
  · rw [Q6 (by omega : ((mrgR 2 l []).length : Int) > 400),qp t];rfl
  · rw [Q9 (by omega : ¬ ((mrgR 2 l []).length : Int) > 400),qs t];rfl
end Go.Sh
namespace Go.Sh
open Go Go.Am
theorem qqj {p q : List ql} (h : p.length + q.length≤490) : q79 p q = some (Qr (xsOf p ++ xsOf q)):=by
  have c : loop (q34 p) (0,[]) = some (xsOf p):=by
    have:=Jd p q6 (fun r=>[r.X0,r.X1]) [] (fun o=>o) (q34 p) (fun k a o b=>by
      have d : o.length = 2 * k:=by rw [b,List.nil_append];have:=q1d (p.take k);rw [List.length_take,Nat.min_eq_left q6] at this;exact this
      simp only [q34,dlt a,qw,Qp a,qj,w64s a q6];rw [Ku (by simp;omega)]
      rfl) (fun o=>by simp only [q34,dnl,qv])
    rw [List.nil_append] at this;exact this
  have f : loop (q35 q) (0,xsOf p) = some (xsOf p ++ xsOf q):=by
    have hp:=q1d p
    exact Jd q q6 (fun r=>[r.X0,r.X1]) (xsOf p) (fun o=>o) (q35 q) (fun k a o b=>by
      have d : o.length = 2 * p.length + 2 * k:=by
        rw [b,List.length_append,hp];have:=q1d (q.take k);rw [List.length_take,Nat.min_eq_left q6] at this;unfold xsOf at this;omega
      simp only [q35,dlt a,qw,Qp a,qj,w64s a q6];rw [Ku (by simp;omega)]
      rfl) (fun o=>by simp only [q35,dnl,qv])
  unfold q79;simp only [c,f,qj,(q9j h).1]
theorem qql {p q : List ql} (h : p.length + q.length≤490) : q7a p q = some (Qr (ysOf p ++ ysOf q)):=by
  have c : loop (q36 p) (0,[]) = some (ysOf p):=by
    have:=Jd p q6 (fun r=>[r.Y0,r.Y1]) [] (fun o=>o) (q36 p) (fun k a o b=>by
      have d : o.length = 2 * k:=by rw [b,List.nil_append];have:=q93 (p.take k);rw [List.length_take,Nat.min_eq_left q6] at this;exact this
      simp only [q36,dlt a,qw,Qp a,qj,w64s a q6];rw [Ku (by simp;omega)]
      rfl) (fun o=>by simp only [q36,dnl,qv])
    rw [List.nil_append] at this;exact this
  have f : loop (q37 q) (0,ysOf p) = some (ysOf p ++ ysOf q):=by
    have hp:=q93 p
    exact Jd q q6 (fun r=>[r.Y0,r.Y1]) (ysOf p) (fun o=>o) (q37 q) (fun k a o b=>by
      have d : o.length = 2 * p.length + 2 * k:=by
        rw [b,List.length_append,hp];have:=q93 (q.take k);rw [List.length_take,Nat.min_eq_left q6] at this;unfold ysOf at this;omega
      simp only [q37,dlt a,qw,Qp a,qj,w64s a q6];rw [Ku (by simp;omega)]
      rfl) (fun o=>by simp only [q37,dnl,qv])
  unfold q7a;simp only [c,f,qj,(qbm h).1]
open Classical in
theorem qie (l : List ql) (x y : Int) (f : l.length≤1000000) : q4q l x y = some (decide (hasR l x y)):=by
  let c : ql→Bool:=fun r=>decide (r.X0≤x) && (decide (x < r.X1) && (decide (r.Y0≤y) && decide (y < r.Y1)))
  have hs : ∀ (k : Nat) (h : k < l.length),q1v l x y (k : Int) = some (if c l[k] = true then .inr (.inr true) else .inl ((k + 1 : Nat) : Int)):=by
    intro k h;simp only [q1v,dlt h,qw,Qp h,qj,w64s h f,c];by_cases d : l[k].X0≤x <;> by_cases a : x < l[k].X1 <;> by_cases m : l[k].Y0≤y <;> by_cases g : y < l[k].Y1 <;> simp [d,a,m,g]
  have hd : q1v l x y (l.length : Int) = some (.inr (.inl ())):=by simp only [q1v,dnl,qv]
  unfold q4q;rcases q2o l c (fun _ _=>true) () (q1v l x y) hs hd with ⟨d,a⟩ | ⟨k,o,b,_,a⟩
  · rw [a]
    have : ¬ hasR l x y:=by
      rintro ⟨r,q,j,s,p,n⟩;have:=d r q;simp [c,j,s,p,n] at this
    simp [this]
  · rw [a]
    have : hasR l x y:=by
      simp only [c,Bool.and_eq_true,decide_eq_true_eq] at b;exact ⟨l[k],Kw o,b.1,b.2.1,b.2.2.1,b.2.2.2⟩
    simp [this]
theorem qc5 {kind : Int} {a b : Prop} (h : Kz kind a b) : a∨b:=by
  rcases h with ⟨_,h,_⟩ | ⟨_,h⟩ | ⟨_,_,h,_⟩
  · exact .inl h
  · exact h
  · exact .inl h
theorem qgn {kind : Int} {a b a' c : Prop} (d : a↔a') (f : b↔c) : Kz kind a b↔Kz kind a' c:=by
  unfold Kz;rw [d,f]
open Classical in
theorem ql4 (kind : Int) {p q : List ql} (h : p.length + q.length≤490) (x : Int) :
    q2y (Qr (ysOf p ++ ysOf q)) ((Qr (ysOf p ++ ysOf q)).map fun y=>decide (Kz kind (hasR p x y) (hasR q x y))) = some (secJ kind p q x):=by
  obtain ⟨_,a,g⟩:=qbm h;generalize Qr (ysOf p ++ ysOf q) = ys at a g ⊢;obtain ⟨c,n,m⟩:=qes ys (ys.map fun y=>decide (Kz kind (hasR p x y) (hasR q x y))) a.1 q6 qb;rw [n];have s:=q1h p x;have r:=q1h q x;have l:=(q6u kind (covS p x) (covS q x) q6 q6).2;have mp : ∀ z∈ends (covS p x),z∈ys:=fun z j=>(a.2 z).2 (List.mem_append.2 (.inl (qfo j)));have mq : ∀ z∈ends (covS q x),z∈ys:=fun z j=>(a.2 z).2 (List.mem_append.2 (.inr (qfo j)));congr 1;refine q6h m.can l.can fun z=>?_;unfold secJ;rw [m.pts z,l.pts z];constructor
  · rintro ⟨i,hi,o,_,f,b,d⟩;simp only [List.getElem_map,decide_eq_true_eq] at f;refine (qgn ?_ ?_).2 f
    · rw [q25 a.1 mp hi b d,J6]
    · rw [q25 a.1 mq hi b d,J6]
  · intro k
    have : ∃ i,∃ (h : i + 1 < ys.length),ys[i]≤z∧z < ys[i + 1]:=by
      rcases qc5 k with h | h
      · exact q9r a.1 mp h
      · exact q9r a.1 mq h
    obtain ⟨i,hi,b,d⟩:=this;refine ⟨i,hi,by simp;omega,q6,?_,b,d⟩;simp only [List.getElem_map,decide_eq_true_eq];refine (qgn ?_ ?_).1 k
    · rw [q25 a.1 mp hi b d,J6]
    · rw [q25 a.1 mq hi b d,J6]
open Classical in
theorem qnp (kind : Int) {p q : List ql} (h : p.length + q.length≤490) (ys xs : List Int) (c : ys.length≤1000000) (i : Nat) (hi : i < xs.length) (a : List qm × Int × Int × List ql) (f : a.2.2.1 = i) :
    loop (q32 ys xs a p q kind) (0,[]) = some (ys.map fun y=>decide (Kz kind (hasR p xs[i] y) (hasR q xs[i] y))):=by
  have:=q6y ys (fun y=>decide (Kz kind (hasR p xs[i] y) (hasR q xs[i] y))) [] (fun o=>o) (q32 ys xs a p q kind) (fun k b o d=>by
    simp only [q32,dlt b,qw,f,Qp b,Qp hi,qj,qie p _ _ q6,qie q _ _ q6,qgo,w64s b c];rw [Ku (by simp at d ⊢;omega)]
    rfl) (fun o=>by simp only [q32,dnl,qv])
  rw [List.nil_append] at this;exact this
theorem qnq (kind : Int) {p q : List ql} (h : p.length + q.length≤490) {xs : List Int} (hx : xs.length≤1000000) {i : Nat} (hi : i + 1 < xs.length) (s : Mg qm ql) (hl : (s.flat putR).length + (secJ kind p q xs[i]).length≤1000000)
    (h0 : i = 0→s.sec = []) (h1 : 0 < i→s.hi = xs[i]) :
    q1w xs (Qr (ysOf p ++ ysOf q)) p q kind (s.sec,(s.done.length : Int),(i : Int),s.flat putR) =
      some (.inl ((addM putR s xs[i] xs[i + 1] (secJ kind p q xs[i])).sec,((addM putR s xs[i] xs[i + 1] (secJ kind p q xs[i])).done.length : Int),((i + 1 : Nat) : Int),(addM putR s xs[i] xs[i + 1] (secJ kind p q xs[i])).flat putR)):=by
  have l : i < xs.length:=by omega
  have w : w64 ((i : Int) + 1) = ((i + 1 : Nat) : Int):=w64s l hx;have hy:=(qbm h).2.2;have ai : (s.flat putR).length = s.done.length + s.sec.length:=by simp [Mg.flat]
  have n:=qnp kind h (Qr (ysOf p ++ ysOf q)) xs q6 i l (s.sec,(s.done.length : Int),(i : Int),s.flat putR) rfl;unfold q1w;simp only [w,dlt hi,qw,n,qj,ql4 kind h];generalize hc : secJ kind p q xs[i] = c at hl ⊢;by_cases a : 0 < i∧c = s.sec
  · obtain ⟨b,f⟩:=a;have hb : decide ((i : Int) > 0) = true:=Q6 q6
    have d:=q9o (fun v : ql=>({X0:=v.X0,Y0:=v.Y0,X1:=xs[i + 1],Y1:=v.Y1} : ql)) s.done (s.sec.map (putR s.lo s.hi)) (by simp;omega) (q33 xs (s.sec,(s.done.length : Int),(i : Int),s.flat putR)) (fun k o j ho=>by
      have h5 : (s.done ++ s.sec.map (putR s.lo s.hi)).length = (s.flat putR).length:=rfl
      simp only [q33,dlt j,qw,Qp j,Qp hi,w,qj,w64s j q6,Int.toNat_natCast]) (fun o=>by simp only [q33,dnl,qv])
    have u : q4p c s.sec = some true:=by rw [qj0 _ _ q6];simp [f]
    have d : loop (q33 xs (s.sec,(s.done.length : Int),(i : Int),s.flat putR)) ((s.done.length : Int),s.flat putR) = _:=d;simp only [hb,qw,u,qj,d];rcases Ug putR s xs[i] xs[i + 1] c with ⟨_,_,_,g⟩ | ⟨h3,g⟩
    · rw [g];simp only [Mg.flat,List.map_map];rfl
    · have m : c = []:=Classical.byContradiction fun hn=>h3 ⟨hn,f,h1 b⟩;rw [g];simp [Mg.flat,← f,m]
  · have r : (cond (decide ((i : Int) > 0)) ((q4p c s.sec).bind fun t=>some t) (some false)) = some false:=by
      by_cases b : 0 < i
      · have hb : decide ((i : Int) > 0) = true:=Q6 q6;have y : c≠s.sec:=fun h=>a ⟨b,h⟩;rw [hb,qw,qj0 _ _ q6];simp [y]
      · have hb : decide ((i : Int) > 0) = false:=Q9 q6;rw [hb,qv]
    have x:=q6y c (putR xs[i] xs[i + 1]) (s.flat putR) (fun o=>(c,((s.flat putR).length : Int),o)) (q4r c xs (s.sec,(s.done.length : Int),(i : Int),s.flat putR)) (fun k j o ho=>by
      simp only [q4r,dlt j,qw,Qp j,Qp l,Qp hi,w,qj,w64s j q6];rw [Ku (by simp;omega)]
      rfl) (fun o=>by simp only [q4r,dnl,qv])
    have g : addM putR s xs[i] xs[i + 1] c = ⟨s.flat putR,c,xs[i],xs[i + 1]⟩:=by
      rcases Ug putR s xs[i] xs[i + 1] c with ⟨g1,z,_,_⟩ | ⟨_,g⟩
      · refine absurd ?_ a;refine ⟨Nat.pos_of_ne_zero fun h=>g1 ?_,z⟩;rw [z,h0 h]
      · exact g
    rw [g];simp only [r,qj,qv,x];simp [Mg.flat]
theorem q4s (kind : Int) {p q : List ql} (h : p.length + q.length≤490) : Zs kind p q = some (mrgR kind p q):=by
  unfold Zs;rw [qqj h,qql h];simp only [qj];obtain ⟨_,g,c⟩:=q9j h;have b:=fun i=>qhk kind h i;unfold mrgR mrg;generalize Qr (xsOf p ++ xsOf q) = xs at g c b ⊢;generalize a : Yh xs (secJ kind p q) = steps at b ⊢;have s : steps.length = xs.length - 1:=by rw [← a];exact q8w _ _
  have key:=Zh (f:=q1w xs (Qr (ysOf p ++ ysOf q)) p q kind) (fun k=>((K2 putR K0 (steps.take k)).sec,((K2 putR K0 (steps.take k)).done.length : Int),(k : Int),(K2 putR K0 (steps.take k)).flat putR))
    steps.length ((K2 putR K0 steps).flat putR) (fun k l=>by
      have d : k + 1 < xs.length:=by omega
      have r : steps[k] = (xs[k],xs[k + 1],secJ kind p q xs[k]):=by subst a;exact q8v l d
      have t:=qdl kind (p:=p) (q:=q) q6 xs[k];have n:=b k
      have:=qnq kind h (xs:=xs) q6 d (K2 putR K0 (steps.take k)) q6 (fun o=>by subst o;rfl) (fun j=>by
        obtain ⟨m,rfl⟩ : ∃ m,k = m + 1:=⟨k - 1,q6⟩
        rw [q4d putR q6,qe4];subst a
        rw [q8v q6 q6])
      rw [this,q4d putR l,r]) (by
      rw [List.take_length]
      have hb : decide (w64 ((steps.length : Int) + 1) < (xs.length : Int)) = false:=by
        rw [Qc q6];exact Q9 q6
      unfold q1w
      simp only [hb,qv]) (Nat.zero_le _)
  have key : loop (q1w xs (Qr (ysOf p ++ ysOf q)) p q kind) ([],0,0,[]) = some ((K2 putR K0 steps).flat putR):=key;rw [key];rfl
end Go.Sh
namespace Go.Sh
open Go Go.Am
def putB (a b : Int) (r : ql) : qf:={Lo:={X:=r.X0,Y:=r.Y0,Z:=a},Hi:={X:=r.X1,Y:=r.Y1,Z:=b}}
def qg0 (z : Int) : Prop:=-1000000≤z∧z≤1000000
instance (z : Int) : Decidable (qg0 z):=by unfold qg0;infer_instance
end Go.Sh
namespace Go.Sh
open Go Go.Am
def covB (z : Int) (b : qf) : Bool:=decide (b.Lo.Z≤z) && decide (z < b.Hi.Z)
def Zt (b : qf) : ql:={X0:=b.Lo.X,Y0:=b.Lo.Y,X1:=b.Hi.X,Y1:=b.Hi.Y}
def atB (l : List qf) (z : Int) : List ql:=l.flatMap fun b=>if covB z b = true then [Zt b] else []
theorem Jq (l : List qf) (x : Int) : (atB l x).length≤l.length:=by
  unfold atB
  induction l with
  | nil=>simp
  | cons r l ih=>
    simp only [List.flatMap_cons,List.length_append,List.length_cons];have : (if covB x r = true then [Zt r] else []).length≤1:=by split <;> simp
    omega
theorem qa7 (l : List qf) (d : l.length≤1000000) (z : Int) : Ja l z = some (atB l z):=by
  have:=Jd l d (fun b=>if covB z b = true then [Zt b] else []) [] (fun o=>o) (q4v l z) (fun k c o g=>by
    have h : o.length≤k:=by rw [g,List.nil_append];have:=Jq (l.take k) z;rw [List.length_take,Nat.min_eq_left q6] at this;exact this
    simp only [q4v,dlt c,qw,Qp c,qj,w64s c d];by_cases a : l[k].Lo.Z≤z
    · by_cases f : z < l[k].Hi.Z
      · simp only [a,f,decide_true,qw,qj,covB,Bool.and_self,if_true];rw [Ku (by simp;omega)];rfl
      · simp only [a,f,decide_true,decide_false,qw,qv,qj,covB,Bool.and_false,if_false,Bool.false_eq_true,List.append_nil]
    · simp only [a,decide_false,qv,qj,covB,Bool.false_and,if_false,Bool.false_eq_true,List.append_nil]) (fun o=>by simp only [q4v,dnl,qv])
  rw [List.nil_append] at this;unfold Ja;rw [this];rfl
def zsOf (l : List qf) : List Int:=l.flatMap fun b=>[b.Lo.Z,b.Hi.Z]
theorem Zw (l : List qf) : (zsOf l).length = 2 * l.length:=by
  unfold zsOf;induction l with
  | nil=>rfl
  | cons r l ih=>simp only [List.flatMap_cons,List.length_append,List.length_cons,List.length_nil];omega
theorem qqr {p q : List qf} (h : p.length + q.length≤100000) : q7c p q = some (Qr (zsOf p ++ zsOf q)):=by
  have c : loop (q38 p) (0,[]) = some (zsOf p):=by
    have:=Jd p q6 (fun r=>[r.Lo.Z,r.Hi.Z]) [] (fun o=>o) (q38 p) (fun k a o b=>by
      have d : o.length = 2 * k:=by rw [b,List.nil_append];have:=Zw (p.take k);rw [List.length_take,Nat.min_eq_left q6] at this;exact this
      simp only [q38,dlt a,qw,Qp a,qj,w64s a q6];rw [Ku (by simp;omega)]
      rfl) (fun o=>by simp only [q38,dnl,qv])
    rw [List.nil_append] at this;exact this
  have f : loop (q39 q) (0,zsOf p) = some (zsOf p ++ zsOf q):=by
    have hp:=Zw p
    exact Jd q q6 (fun r=>[r.Lo.Z,r.Hi.Z]) (zsOf p) (fun o=>o) (q39 q) (fun k a o b=>by
      have d : o.length = 2 * p.length + 2 * k:=by
        rw [b,List.length_append,hp];have:=Zw (q.take k);rw [List.length_take,Nat.min_eq_left q6] at this;unfold zsOf at this;omega
      simp only [q39,dlt a,qw,Qp a,qj,w64s a q6];rw [Ku (by simp;omega)]
      rfl) (fun o=>by simp only [q39,dnl,qv])
  have g:=Zw p;have j:=Zw q;unfold q7c;simp only [c,f,qj,(Js (l:=zsOf p ++ zsOf q) (by simp;omega)).1]
structure qe2 (kind : Int) (p q : List qf) (z : Int) : Prop where
  n : (atB p z).length + (atB q z).length≤490
  m : (mrgR kind (atB p z) (atB q z)).length≤400
  mp : (mrgR 2 (atB p z) []).length≤400
  mq : (mrgR 2 (atB q z) []).length≤400
noncomputable def secB (kind : Int) (p q : List qf) (z : Int) : List ql:=mrgR kind (atB p z) (atB q z)
theorem qno (kind : Int) {p q : List qf} (h : p.length + q.length≤100000) {xs : List Int} (hx : xs.length≤1000000) {i : Nat} (hi : i + 1 < xs.length) (aa : qe2 kind p q xs[i]) (s : Mg ql qf) (hl : (s.flat putB).length + 400≤1000000)
    (h0 : i = 0→s.sec = []) (h1 : 0 < i→s.hi = xs[i]) :
    q12 xs p q kind (s.sec,(s.done.length : Int),(i : Int),s.flat putB) =
      some (.inl ((addM putB s xs[i] xs[i + 1] (secB kind p q xs[i])).sec,((addM putB s xs[i] xs[i + 1] (secB kind p q xs[i])).done.length : Int),((i + 1 : Nat) : Int),(addM putB s xs[i] xs[i + 1] (secB kind p q xs[i])).flat putB)):=by
  have l : i < xs.length:=by omega
  have t : w64 ((i : Int) + 1) = ((i + 1 : Nat) : Int):=w64s l hx;have ae : (s.flat putB).length = s.done.length + s.sec.length:=by simp [Mg.flat]
  obtain ⟨z,u,al,ai⟩:=aa;have ap : Ja p xs[i] = some (atB p xs[i]):=qa7 p q6 _;have aq : Ja q xs[i] = some (atB q xs[i]):=qa7 q q6 _;have jj : Zs kind (atB p xs[i]) (atB q xs[i]) = some (secB kind p q xs[i]):=q4s kind z;have jp : Zs 2 (atB p xs[i]) [] = some (mrgR 2 (atB p xs[i]) []):=q4s 2 (by simp;omega);have jq : Zs 2 (atB q xs[i]) [] = some (mrgR 2 (atB q xs[i]) []):=q4s 2 (by simp;omega);have u : (secB kind p q xs[i]).length≤400:=u;have d1 : decide (((secB kind p q xs[i]).length : Int) > 400) = false:=Q9 q6;have d2 : decide (((mrgR 2 (atB p xs[i]) []).length : Int) > 400) = false:=Q9 q6;have d3 : decide (((mrgR 2 (atB q xs[i]) []).length : Int) > 400) = false:=Q9 q6;unfold q12;simp only [t,dlt hi,qw,Qp l,ap,aq,jj,jp,jq,d1,d2,d3,qv,qj];generalize hc : secB kind p q xs[i] = c at u ⊢;by_cases a : 0 < i∧c = s.sec
  · obtain ⟨b,g⟩:=a;have hb : decide ((i : Int) > 0) = true:=Q6 q6
    have d:=q9o (fun v : qf=>({Lo:=v.Lo,Hi:=({X:=v.Hi.X,Y:=v.Hi.Y,Z:=xs[i + 1]} : Qe)} : qf)) s.done (s.sec.map (putB s.lo s.hi)) (by simp;omega) (q3a xs (s.sec,(s.done.length : Int),(i : Int),s.flat putB)) (fun k o f ho=>by
      have h5 : (s.done ++ s.sec.map (putB s.lo s.hi)).length = (s.flat putB).length:=rfl
      simp only [q3a,dlt f,qw,Qp f,Qp hi,t,qj,w64s f q6,Int.toNat_natCast]) (fun o=>by simp only [q3a,dnl,qv])
    have x : q4t c s.sec = some true:=by rw [qiz _ _ q6];simp [g]
    have d : loop (q3a xs (s.sec,(s.done.length : Int),(i : Int),s.flat putB)) ((s.done.length : Int),s.flat putB) = _:=d;simp only [hb,qw,x,qj,d];rcases Ug putB s xs[i] xs[i + 1] c with ⟨_,_,_,j⟩ | ⟨h3,j⟩
    · rw [j];simp only [Mg.flat,List.map_map];rfl
    · have m : c = []:=Classical.byContradiction fun z=>h3 ⟨z,g,h1 b⟩;rw [j];simp [Mg.flat,← g,m]
  · have r : (cond (decide ((i : Int) > 0)) ((q4t c s.sec).bind fun n=>some n) (some false)) = some false:=by
      by_cases b : 0 < i
      · have hb : decide ((i : Int) > 0) = true:=Q6 q6;have w : c≠s.sec:=fun h=>a ⟨b,h⟩;rw [hb,qw,qiz _ _ q6];simp [w]
      · have hb : decide ((i : Int) > 0) = false:=Q9 q6;rw [hb,qv]
    have y:=q6y c (putB xs[i] xs[i + 1]) (s.flat putB) (fun o=>(c,((s.flat putB).length : Int),o)) (q4y c xs (s.sec,(s.done.length : Int),(i : Int),s.flat putB)) (fun k f o ho=>by
      simp only [q4y,dlt f,qw,Qp f,Qp l,Qp hi,t,qj,w64s f q6];rw [Ku (by simp;omega)]
      rfl) (fun o=>by simp only [q4y,dnl,qv])
    have j : addM putB s xs[i] xs[i + 1] c = ⟨s.flat putB,c,xs[i],xs[i + 1]⟩:=by
      rcases Ug putB s xs[i] xs[i + 1] c with ⟨g1,g2,_,_⟩ | ⟨_,j⟩
      · refine absurd ?_ a;refine ⟨Nat.pos_of_ne_zero fun h=>g1 ?_,g2⟩;rw [g2,h0 h]
      · exact j
    rw [j];simp only [r,qj,qv,y];simp [Mg.flat]
noncomputable def mrgB (kind : Int) (p q : List qf) : List qf:=(K2 putB K0 (Yh (Qr (zsOf p ++ zsOf q)) (secB kind p q))).flat putB
section
variable {σ β : Type} (put : Int→Int→σ→β)
def Alike (s t : Mg σ β) : Prop:=s = t∨(s.flat put = t.flat put∧s.sec = []∧t.sec = [])
theorem Alike.flat {s t : Mg σ β} (h : Alike put s t) : s.flat put = t.flat put:=by
  rcases h with rfl | h
  · rfl
  · exact h.1
end
section
variable {σ β : Type} [DecidableEq σ] (put : Int→Int→σ→β)
def runM (sec : Int→List σ) : Mg σ β→List Int→Mg σ β
  | s,a::b::r=>runM sec (addM put s a b (sec a)) (b::r)
  | s,_=>s
theorem qg3 (sec : Int→List σ) : ∀ (c : List Int) (s : Mg σ β),K2 put s (Yh c sec) = runM put sec s c
  | [],s=>rfl
  | [a],s=>rfl
  | a::b::r,s=>by
    have:=qg3 sec (b::r) (addM put s a b (sec a))
    simp only [runM,← this]
    rfl
theorem Alike.add {s t : Mg σ β} (h : Alike put s t) (a b : Int) (c : List σ) : Alike put (addM put s a b c) (addM put t a b c):=by
  rcases h with rfl | ⟨f,k,l⟩
  · exact .inl rfl
  · refine .inl ?_;rcases Ug put s a b c with ⟨j,g,_,_⟩ | ⟨_,m⟩
    · exact absurd (g.trans k) j
    · rcases Ug put t a b c with ⟨d,o,_,_⟩ | ⟨_,n⟩
      · exact absurd (o.trans l) d
      · rw [m,n,f]
end
end Go.Sh
namespace Go.Sh
open Go Go.Am
structure Grp (σ : Type) where
  lo : Int
  hi : Int
  sec : List σ
section
variable {σ β : Type}
def CanG (gs : List (Grp σ)) : Prop:=(∀ g∈gs,g.lo < g.hi∧g.sec≠[])∧gs.Pairwise (fun g h=>g.hi≤h.lo∧(g.hi = h.lo→g.sec≠h.sec))
def secG : List (Grp σ)→Int→List σ
  | [],_=>[]
  | g::r,x=>if g.lo≤x∧x < g.hi then g.sec else secG r x
def Qv (put : Int→Int→σ→β) (gs : List (Grp σ)) : List β:=gs.flatMap fun g=>g.sec.map (put g.lo g.hi)
theorem qmw (put : Int→Int→σ→β) (a b : List (Grp σ)) : Qv put (a ++ b) = Qv put a ++ Qv put b:=by simp [Qv]
theorem Jm {y x : Int} : ∀ {r : List (Grp σ)},(∀ h∈r,y≤h.lo)→x < y→secG r x = []
  | [],_,_=>rfl
  | g::r,h,hx=>by
    have:=h g qb
    rw [secG,qs q6]
    exact Jm (fun k a=>h k (by simp [a])) hx
theorem q56 {y x : Int} : ∀ {r : List (Grp σ)},(∀ h∈r,h.hi≤y)→y≤x→secG r x = []
  | [],_,_=>rfl
  | g::r,h,hx=>by
    have:=h g qb
    rw [secG,qs q6]
    exact q56 (fun k a=>h k (by simp [a])) hx
theorem q7l {x : Int} : ∀ {a b : List (Grp σ)},secG a x = []→(∀ g∈a,g.sec≠[])→secG (a ++ b) x = secG b x
  | [],_,_,_=>rfl
  | g::a,b,h,hne=>by
    rw [secG] at h
    split at h
    · exact absurd h (hne g qb)
    · rename_i c
      rw [List.cons_append,secG,qs c]
      exact q7l h fun k d=>hne k (by simp [d])
theorem qdi {y x : Int} {a b : List (Grp σ)} (hb : ∀ h∈b,y≤h.lo) (c : x < y) : secG (a ++ b) x = secG a x:=by
  induction a with
  | nil=>exact Jm hb c
  | cons g a ih=>simp only [List.cons_append,secG,ih]
theorem CanG.tail {g : Grp σ} {r : List (Grp σ)} (h : CanG (g::r)) : CanG r:=⟨fun k a=>h.1 k (by simp [a]),(List.pairwise_cons.1 h.2).2⟩
theorem CanG.nxt {g : Grp σ} {r : List (Grp σ)} (h : CanG (g::r)) : ∀ k∈r,g.hi≤k.lo∧(g.hi = k.lo→g.sec≠k.sec):=(List.pairwise_cons.1 h.2).1
theorem q24 {g : Grp σ} {r : List (Grp σ)} {x : Int} (a : g.lo≤x) (b : x < g.hi) : secG (g::r) x = g.sec:=by rw [secG,qp ⟨a,b⟩]
theorem qsx {g : Grp σ} {r : List (Grp σ)} (h : CanG (g::r)) : secG (g::r) g.hi≠g.sec:=by
  rw [secG,qs q6]
  cases r with
  | nil=>exact fun e=>(h.1 g qb).2 e.symm
  | cons k r=>
    have c:=h.nxt k qb;have a:=h.tail.1 k qb;by_cases d : g.hi = k.lo
    · rw [q24 q6 q6];exact fun e=>c.2 d e.symm
    · rw [secG,qs q6,Jm (y:=k.hi) (fun m b=>(h.tail.nxt m b).1) q6];exact fun e=>(h.1 g qb).2 e.symm
theorem qba : ∀ {a b : List (Grp σ)},CanG a→CanG b→(∀ x,secG a x = secG b x)→a = b
  | [],[],_,_,_=>rfl
  | [],g::r,_,hb,h=>by
    have:=h g.lo
    rw [q24 (Int.le_refl _) (hb.1 g qb).1] at this
    exact absurd this.symm (hb.1 g qb).2
  | g::r,[],c,_,h=>by
    have:=h g.lo
    rw [q24 (Int.le_refl _) (c.1 g qb).1] at this
    exact absurd this (c.1 g qb).2
  | g::r,k::s,c,hb,h=>by
    have q:=c.1 g qb
    have t:=hb.1 k qb
    have low : ∀ {g k : Grp σ} {r s : List (Grp σ)},CanG (g::r)→CanG (k::s)→(∀ x,secG (g::r) x = secG (k::s) x)→k.lo≤g.lo:=by
      intro g k r s c hb h;refine Int.not_lt.1 fun f=>?_;have d:=h g.lo;rw [q24 (Int.le_refl _) (c.1 g qb).1,Jm (y:=k.lo) (fun m j=>?_) f] at d
      · exact (c.1 g qb).2 d
      · rcases List.mem_cons.1 j with rfl | j
        · exact Int.le_refl _
        · have:=(hb.nxt m j).1;have:=(hb.1 k qb).1;omega
    have n : g.lo = k.lo:=Int.le_antisymm (low hb c fun x=>(h x).symm) (low c hb h)
    have l : g.sec = k.sec:=by
      have d:=h g.lo
      rwa [q24 (Int.le_refl _) q.1,q24 q6 q6] at d
    have hi : ∀ {g k : Grp σ} {r s : List (Grp σ)},CanG (g::r)→CanG (k::s)→(∀ x,secG (g::r) x = secG (k::s) x)→g.lo = k.lo→g.sec = k.sec→k.hi≤g.hi:=by
      intro g k r s c hb h n l;refine Int.not_lt.1 fun f=>?_;have d:=h g.hi;have:=(c.1 g qb).1;rw [q24 (g:=k) q6 f,← l] at d;exact qsx c d
    have o : g.hi = k.hi:=Int.le_antisymm (hi hb c (fun x=>(h x).symm) n.symm l.symm) (hi c hb h n l)
    have e : g = k:=by cases g;cases k;simp at n l o;simp [n,l,o]
    subst e
    have : r = s:=qba c.tail hb.tail fun x=>by
      by_cases p : x < g.hi
      · rw [Jm (y:=g.hi) (fun m j=>(c.nxt m j).1) p,Jm (y:=g.hi) (fun m j=>(hb.nxt m j).1) p]
      · have d:=h x
        rwa [secG,secG,qs q6,qs q6] at d
    rw [this]
def curG (s : Mg σ β) : List (Grp σ):=if s.sec = [] then [] else [⟨s.lo,s.hi,s.sec⟩]
def secC (sec : Int→List σ) : List Int→Int→List σ
  | a::b::r,x=>if a≤x∧x < b then sec a else secC sec (b::r) x
  | _,_=>[]
theorem qg1 (put : Int→Int→σ→β) (s : Mg σ β) (a : List (Grp σ)) (h : s.done = Qv put a) : s.flat put = Qv put (a ++ curG s):=by
  rw [qmw,Mg.flat,h];unfold curG;split
  · rename_i b;simp [b,Qv]
  · simp [Qv]
theorem q9x {s : Mg σ β} {g : Grp σ} (h : g∈curG s) : s.sec≠[]∧g = ⟨s.lo,s.hi,s.sec⟩:=by
  unfold curG at h;split at h
  · cases h
  · rename_i a;exact ⟨a,by simpa using h⟩
theorem qac (sec : Int→List σ) {x : Int} : ∀ {d : List Int},d.Pairwise (· < ·)→
    (∀ a∈d,a≤x→(∀ c∈d,c≤a∨x < c)→sec a = sec x)→((∀ c∈d,x < c)→sec x = [])→((∀ c∈d,c≤x)→sec x = [])→secC sec d x = sec x
  | [],_,_,h2,_=>(h2 qb).symm
  | [a],_,_,h2,h3=>by
    rw [secC]
    · by_cases k : x < a
      · exact (h2 (by simpa using k)).symm
      · exact (h3 (by simpa using k)).symm
    · intro a b r h;simp at h
  | a::b::r,hp,h1,h2,h3=>by
    have p : a < b:=(List.pairwise_cons.1 hp).1 b qb
    have n:=(List.pairwise_cons.1 (List.pairwise_cons.1 hp).2).1
    rw [secC]
    split
    · rename_i k
      refine h1 a qb k.1 fun c g=>?_
      rcases List.mem_cons.1 g with rfl | g
      · exact .inl (Int.le_refl _)
      · rcases List.mem_cons.1 g with rfl | g
        · exact .inr k.2
        · have:=n c g;exact .inr q6
    · rename_i k
      by_cases m : x < a
      · have e : sec x = []:=h2 fun c g=>by
          rcases List.mem_cons.1 g with rfl | g
          · exact m
          · have:=(List.pairwise_cons.1 hp).1 c g;omega
        have:=qac sec (x:=x) (List.pairwise_cons.1 hp).2 (fun a' j l _=>by
          exfalso;have:=(List.pairwise_cons.1 hp).1 a' j;omega) (fun _=>e) (fun _=>e)
        exact this
      · have o : b≤x:=by omega
        exact qac sec (List.pairwise_cons.1 hp).2 (fun a' j l f=>h1 a' (by simp [j]) l fun c g=>by
          rcases List.mem_cons.1 g with rfl | g
          · have:=(List.pairwise_cons.1 hp).1 a' j;exact .inl q6
          · exact f c g) (fun f=>by have:=f b qb;omega) (fun f=>h3 fun c g=>by
          rcases List.mem_cons.1 g with rfl | g
          · omega
          · exact f c g)
variable [DecidableEq σ] (put : Int→Int→σ→β)
structure InvG (s : Mg σ β) (gs : List (Grp σ)) (c : Int) : Prop where
  done : s.done = Qv put gs
  can : CanG (gs ++ curG s)
  le : ∀ g∈gs ++ curG s,g.hi≤c
  gap : s.sec = []→∀ g∈gs,g.hi = c→False
theorem qnk {s : Mg σ β} {l : List (Grp σ)} {a b : Int} {c : List σ} (ad : a < b) (hi : InvG put s l a) :
    ∃ r,InvG put (addM put s a b c) r b∧∀ x,secG (r ++ curG (addM put s a b c)) x = if a≤x∧x < b then c else secG (l ++ curG s) x:=by
  rcases Ug put s a b c with ⟨u,h2,h3,v⟩ | ⟨u,v⟩
  · rw [v];have hs : s.sec≠[]:=h2 ▸ u;have c1 : curG s = [⟨s.lo,s.hi,s.sec⟩]:=by unfold curG;rw [qs hs]
    have c2 : curG (⟨s.done,s.sec,s.lo,b⟩ : Mg σ β) = [⟨s.lo,b,s.sec⟩]:=by unfold curG;rw [qs hs]
    have f:=hi.can;rw [c1] at f;have af : s.lo < s.hi:=(f.1 ⟨s.lo,s.hi,s.sec⟩ qb).1;refine ⟨l,⟨hi.done,?_,?_,fun h=>absurd h hs⟩,?_⟩
    · rw [c2];refine ⟨fun g d=>?_,?_⟩
      · rcases List.mem_append.1 d with d | d
        · exact f.1 g (by simp [d])
        · obtain rfl:=List.mem_singleton.1 d;exact ⟨by simp only;omega,hs⟩
      · have:=List.pairwise_append.1 f.2;refine List.pairwise_append.2 ⟨this.1,qb,fun g d k w=>?_⟩;obtain rfl:=List.mem_singleton.1 w;exact this.2.2 g d ⟨s.lo,s.hi,s.sec⟩ qb
    · rw [c2];intro g d;rcases List.mem_append.1 d with d | d
      · have:=hi.le g (by simp [d]);omega
      · obtain rfl:=List.mem_singleton.1 d;exact Int.le_refl _
    · intro x;rw [c1,c2];have z : ∀ g∈l,g.hi≤s.lo:=fun g d=>((List.pairwise_append.1 f.2).2.2 g d ⟨s.lo,s.hi,s.sec⟩ qb).1;have p : ∀ g∈l,g.sec≠[]:=fun g d=>(f.1 g (by simp [d])).2;by_cases n : x < s.lo
      · rw [qs q6,qdi (y:=s.lo) qb n,qdi (y:=s.lo) qb n]
      · have e : secG l x = []:=q56 z q6;rw [q7l e p,q7l e p];simp only [secG];by_cases aa : x < s.hi
        · rw [qp ⟨q6,q6⟩,qs q6,qp ⟨q6,aa⟩]
        · by_cases q : x < b
          · rw [qp ⟨q6,q⟩,qp ⟨q6,q⟩,h2]
          · rw [qs q6,qs q6,qs q6]
  · rw [v];have hd : s.flat put = Qv put (l ++ curG s):=qg1 put s l hi.done;refine ⟨l ++ curG s,⟨hd,?_,?_,?_⟩,?_⟩
    · by_cases m : c = []
      · have : curG (⟨s.flat put,c,a,b⟩ : Mg σ β) = []:=by unfold curG;rw [qp m]
        rw [this,List.append_nil];exact hi.can
      · have : curG (⟨s.flat put,c,a,b⟩ : Mg σ β) = [⟨a,b,c⟩]:=by unfold curG;rw [qs m]
        rw [this];refine ⟨fun g d=>?_,List.pairwise_append.2 ⟨hi.can.2,qb,fun g d k w=>?_⟩⟩
        · rcases List.mem_append.1 d with d | d
          · exact hi.can.1 g d
          · obtain rfl:=List.mem_singleton.1 d;exact ⟨ad,m⟩
        · obtain rfl:=List.mem_singleton.1 w;refine ⟨hi.le g d,fun t o=>?_⟩;rcases List.mem_append.1 d with j | j
          · by_cases hs : s.sec = []
            · exact hi.gap hs g j t
            · have h5 : (⟨s.lo,s.hi,s.sec⟩ : Grp σ)∈curG s:=by unfold curG;rw [qs hs];simp
              have h6:=((List.pairwise_append.1 hi.can.2).2.2 g j _ h5).1;have h7:=(hi.can.1 _ (List.mem_append.2 (.inr h5))).1;have h8:=hi.le _ (List.mem_append.2 (.inr h5));simp only at t h6 h7 h8;omega
          · obtain ⟨hs,rfl⟩:=q9x j;exact u ⟨m,o.symm,t⟩
    · intro g d;rcases List.mem_append.1 d with d | d
      · have:=hi.le g d;omega
      · obtain ⟨_,rfl⟩:=q9x d;exact Int.le_refl _
    · intro m g d t;have:=hi.le g d;omega
    · intro x;by_cases n : a≤x∧x < b
      · rw [qp n,q7l (q56 hi.le n.1) fun g d=>(hi.can.1 g d).2];unfold curG;split
        · rename_i m;simp only at m;rw [m];rfl
        · simp only [secG];rw [qp n]
      · rw [qs n];by_cases ab : x < a
        · exact qdi (y:=a) (fun g d=>by obtain ⟨_,rfl⟩:=q9x d;exact Int.le_refl _) ab
        · have e:=q56 (x:=x) hi.le q6;rw [q7l e fun g d=>(hi.can.1 g d).2,e];exact q56 (y:=b) (fun g d=>by obtain ⟨_,rfl⟩:=q9x d;exact Int.le_refl _) q6
theorem qix (sec : Int→List σ) : ∀ (d : List Int) (c : Int) (s : Mg σ β) (h : List (Grp σ)),(c::d).Pairwise (· < ·)→InvG put s h c→
    ∃ f,(runM put sec s (c::d)).flat put = Qv put f∧CanG f∧∀ x,secG f x = if x < c then secG (h ++ curG s) x else secC sec (c::d) x
  | [],c,s,h,_,hi=>by
    refine ⟨h ++ curG s,qg1 put s h hi.done,hi.can,fun x=>?_⟩
    by_cases j : x < c
    · rw [qp j]
    · rw [qs j];exact q56 hi.le q6
  | b::d,a,s,h,hp,hi=>by
    have l : a < b:=(List.pairwise_cons.1 hp).1 b qb
    obtain ⟨f,m,k⟩:=qnk (b:=b) (c:=sec a) put l hi
    obtain ⟨n,o,q,p⟩:=qix sec d b _ f (List.pairwise_cons.1 hp).2 m
    refine ⟨n,o,q,fun x=>?_⟩
    rw [p x]
    by_cases j : x < a
    · rw [qp q6,qp j,k,qs q6]
    · rw [qs j]
      simp only [secC]
      by_cases g : x < b
      · rw [qp g,k,qp ⟨q6,g⟩,qp ⟨q6,g⟩]
      · rw [qs g,qs q6]
theorem qhd (sec : Int→List σ) {a : List Int} (g : a.Pairwise (· < ·)) :
    ∃ d,(K2 put K0 (Yh a sec)).flat put = Qv put d∧CanG d∧∀ x,secG d x = secC sec a x:=by
  rw [qg3]
  cases a with
  | nil=>exact ⟨[],rfl,⟨qb,qb⟩,fun x=>rfl⟩
  | cons c a=>
    obtain ⟨d,h,k,j⟩:=qix put sec a c (K0 : Mg σ β) [] g ⟨rfl,⟨by simp [curG,K0],by simp [curG,K0]⟩,by simp [curG,K0],qb⟩;refine ⟨d,h,k,fun x=>?_⟩;rw [j x];split
    · rename_i f
      have : ∀ (a : List Int) (c : Int),(c::a).Pairwise (· < ·)→x < c→secC sec (c::a) x = []:=by
        intro a
        induction a with
        | nil=>intros;rfl
        | cons b r ih=>
          intro c hp f;rw [secC,qs q6];exact ih b (List.pairwise_cons.1 hp).2 (by have:=(List.pairwise_cons.1 hp).1 b qb;omega)
      rw [this a c g f];rfl
    · rfl
end
end Go.Sh
namespace Go.Sh
open Go Go.Am
section
variable {σ : Type}
theorem qdk {x : Int} : ∀ (b : List (Grp σ)),secG b x = []∨∃ g∈b,g.lo≤x∧x < g.hi∧secG b x = g.sec
  | []=>.inl rfl
  | g::r=>by
    by_cases a : g.lo≤x∧x < g.hi
    · exact .inr ⟨g,qb,a.1,a.2,by rw [secG,qp a]⟩
    · rw [secG,qs a]
      rcases qdk r with h | ⟨k,c,h⟩
      · exact .inl h
      · exact .inr ⟨k,by simp [c],h⟩
theorem qdj : ∀ {b : List (Grp σ)},CanG b→∀ g∈b,∀ x,g.lo≤x→x < g.hi→secG b x = g.sec
  | k::r,h,g,a,x,h1,h2=>by
    rcases List.mem_cons.1 a with rfl | a
    · exact q24 h1 h2
    · have:=(h.nxt g a).1
      rw [secG,qs q6]
      exact qdj h.tail g a x h1 h2
end
theorem qgs (kind : Int) : q2s kind [] [] = []:=by
  have a:=(q6u kind [] [] qb qb).2;refine q6h a.can ⟨qb,qb⟩ fun x=>?_;rw [a.pts];have:=Uw x;unfold Kz;simp [this]
theorem qfc (a b : List ql) (x : Int) : covS (a ++ b) x = covS a x ++ covS b x:=by simp [covS]
theorem qff (s : List qm) (lo hi x : Int) : covS (s.map (putR lo hi)) x = if lo≤x∧x < hi then s else []:=by
  induction s with
  | nil=>simp [covS]
  | cons t s ih=>
    have e : covS (List.map (putR lo hi) (t::s)) x = (if covR x (putR lo hi t) = true then [t] else []) ++ covS (s.map (putR lo hi)) x:=rfl;rw [e,ih];have : covR x (putR lo hi t) = (decide (lo≤x) && decide (x < hi)):=rfl;rw [this];by_cases a : lo≤x <;> by_cases b : x < hi <;> simp [a,b]
theorem q49 : ∀ {b : List (Grp qm)},CanG b→∀ x,covS (Qv putR b) x = secG b x
  | [],_,x=>rfl
  | g::r,h,x=>by
    have e : Qv putR (g::r) = g.sec.map (putR g.lo g.hi) ++ Qv putR r:=rfl
    rw [e,qfc,qff,q49 h.tail x]
    by_cases a : g.lo≤x∧x < g.hi
    · rw [qp a,secG,qp a,Jm (y:=g.hi) (fun m c=>(h.nxt m c).1) a.2,List.append_nil]
    · rw [qs a,secG,qs a,List.nil_append]
theorem qfd {l : List ql} {a x : Int} (h : ∀ r∈l,covR a r = covR x r) : covS l a = covS l x:=by
  induction l with
  | nil=>rfl
  | cons r l ih=>
    have e : ∀ y,covS (r::l) y = (if covR y r = true then [ysp r] else []) ++ covS l y:=fun _=>rfl;rw [e,e,h r qb,ih fun k b=>h k (by simp [b])]
theorem q9i {l : List ql} {x : Int} (h : ∀ r∈l,covR x r = false) : covS l x = []:=by
  induction l with
  | nil=>rfl
  | cons r l ih=>
    have e : covS (r::l) x = (if covR x r = true then [ysp r] else []) ++ covS l x:=rfl;rw [e,h r qb,ih fun k a=>h k (by simp [a])];rfl
theorem q48 {x : Int} {r : ql} : covR x r = true↔r.X0≤x∧x < r.X1:=by simp [covR]
theorem qhb {p q : List ql} {r : ql} (h : r∈p∨r∈q) : r.X0∈xsOf p ++ xsOf q∧r.X1∈xsOf p ++ xsOf q:=by
  unfold xsOf;simp only [List.mem_append,List.mem_flatMap];rcases h with h | h
  · exact ⟨.inl ⟨r,h,qb⟩,.inl ⟨r,h,qb⟩⟩
  · exact ⟨.inr ⟨r,h,qb⟩,.inr ⟨r,h,qb⟩⟩
theorem qhj (kind : Int) {p q : List ql} (h : p.length + q.length≤100000) :
    ∃ f,mrgR kind p q = Qv putR f∧CanG f∧∀ x,secG f x = secJ kind p q x:=by
  have s:=q1d p;have t:=q1d q;have hs:=(Js (l:=xsOf p ++ xsOf q) (by simp;omega)).2.1;obtain ⟨f,k,o,m⟩:=qhd putR (secJ kind p q) hs.1;refine ⟨f,k,o,fun x=>?_⟩;rw [m]
  have g : ∀ r,(r∈p∨r∈q)→r.X0∈Qr (xsOf p ++ xsOf q)∧r.X1∈Qr (xsOf p ++ xsOf q):=fun r b=>
    ⟨(hs.2 _).2 (qhb b).1,(hs.2 _).2 (qhb b).2⟩
  refine qac _ hs.1 (fun a _ n c=>?_) (fun c=>?_) (fun c=>?_)
  · have d : ∀ r,(r∈p∨r∈q)→covR a r = covR x r:=fun r b=>by
      have j:=c _ (g r b).1;have u:=c _ (g r b).2;rw [Bool.eq_iff_iff,q48,q48];omega
    unfold secJ;rw [qfd fun r b=>d r (.inl b),qfd fun r b=>d r (.inr b)]
  · have d : ∀ r,(r∈p∨r∈q)→covR x r = false:=fun r b=>by
      have j:=c _ (g r b).1;rw [← Bool.not_eq_true,q48];omega
    unfold secJ;rw [q9i fun r b=>d r (.inl b),q9i fun r b=>d r (.inr b),qgs]
  · have d : ∀ r,(r∈p∨r∈q)→covR x r = false:=fun r b=>by
      have j:=c _ (g r b).2;rw [← Bool.not_eq_true,q48];omega
    unfold secJ;rw [q9i fun r b=>d r (.inl b),q9i fun r b=>d r (.inr b),qgs]
def CanR (l : List ql) : Prop:=∃ gs : List (Grp qm),l = Qv putR gs∧CanG gs∧∀ g∈gs,Can g.sec
theorem ql2 : Can []:=⟨qb,qb⟩
theorem CanR.nil : CanR []:=⟨[],rfl,⟨qb,qb⟩,qb⟩
theorem CanR.cov {l : List ql} (h : CanR l) (x : Int) : Can (covS l x):=by
  obtain ⟨d,rfl,b,c⟩:=h;rw [q49 b];rcases qdk (x:=x) d with e | ⟨g,a,_,_,e⟩
  · rw [e];exact ql2
  · rw [e];exact c g a
theorem qer {a b : List ql} (f : CanR a) (hb : CanR b) (h : ∀ x y,hasR a x y↔hasR b x y) : a = b:=by
  have g : ∀ x,covS a x = covS b x:=fun x=>q6h (f.cov x) (hb.cov x) fun y=>by rw [J6,J6];exact h x y
  obtain ⟨k,rfl,c,_⟩:=f;obtain ⟨j,rfl,d,_⟩:=hb;rw [qba c d fun x=>by rw [← q49 c,← q49 d];exact g x]
theorem qj5 (kind : Int) {p q : List ql} (h : p.length + q.length≤100000) (x : Int) : qay kind (covS p x) (covS q x) (secJ kind p q x):=by
  have a:=q1h p x;have b:=q1h q x;exact (q6u kind (covS p x) (covS q x) q6 q6).2
theorem qhi (kind : Int) {p q : List ql} (h : p.length + q.length≤100000) : CanR (mrgR kind p q):=by
  obtain ⟨f,c,a,d⟩:=qhj kind h;refine ⟨f,c,a,fun g b=>?_⟩;have:=d g.lo;rw [qdj a g b _ (Int.le_refl _) (a.1 g b).1] at this;rw [this];exact (qj5 kind h _).can
theorem qm8 (kind : Int) {p q : List ql} (h : p.length + q.length≤100000) (x : Int) : covS (mrgR kind p q) x = secJ kind p q x:=by
  obtain ⟨d,a,c,b⟩:=qhj kind h;rw [a,q49 c,b]
theorem qc2 (kind : Int) {p q : List ql} (h : p.length + q.length≤100000) (x y : Int) : hasR (mrgR kind p q) x y↔Kz kind (hasR p x y) (hasR q x y):=by
  rw [← J6,qm8 kind h,(qj5 kind h x).pts,J6,J6]
theorem qgj (x y : Int) : ¬ hasR [] x y:=by rintro ⟨r,h,_⟩;cases h
theorem qgm {a b : Prop} : Kz 2 a b↔a∨b:=by unfold Kz;simp
theorem qh9 {σ β : Type} {put : Int→Int→σ→β} {a : List (Grp σ)} {r : β} : r∈Qv put a↔∃ g∈a,∃ t∈g.sec,r = put g.lo g.hi t:=by
  unfold Qv;simp only [List.mem_flatMap,List.mem_map];exact ⟨fun ⟨g,hg,t,ht,e⟩=>⟨g,hg,t,ht,e.symm⟩,fun ⟨g,hg,t,ht,e⟩=>⟨g,hg,t,ht,e.symm⟩⟩
theorem CanR.lt {l : List ql} (h : CanR l) : ∀ r∈l,r.X0 < r.X1∧r.Y0 < r.Y1:=by
  obtain ⟨j,rfl,b,d⟩:=h;intro r c;obtain ⟨g,a,t,f,rfl⟩:=qh9.1 c;exact ⟨(b.1 g a).1,(d g a).1 t f⟩
def InR (l : List ql) : Prop:=∀ x y,hasR l x y→(-1000000≤x∧x < 1000000)∧(-1000000≤y∧y < 1000000)
theorem CanR.vR {l : List ql} (h : CanR l) (hi : InR l) : ∀ r∈l,vR r:=by
  intro r a;have b:=h.lt r a;have c:=hi r.X0 r.Y0 ⟨r,a,q6⟩;have d:=hi (r.X1 - 1) (r.Y1 - 1) ⟨r,a,q6⟩;unfold Go.Sh.vR;omega
theorem InR.mrg {kind : Int} {p q : List ql} (h : p.length + q.length≤100000) (hp : InR p) (b : InR q) : InR (mrgR kind p q):=fun x y c=>by
  rcases qc5 ((qc2 kind h x y).1 c) with a | a
  · exact hp x y a
  · exact b x y a
theorem InR.nil : InR []:=fun x y h=>absurd h (qgj x y)
end Go.Sh
namespace Go.Sh
open Go Go.Am
def hasB (l : List qf) (x y z : Int) : Prop:=∃ b∈l,(b.Lo.X≤x∧x < b.Hi.X)∧(b.Lo.Y≤y∧y < b.Hi.Y)∧(b.Lo.Z≤z∧z < b.Hi.Z)
theorem q1g {z : Int} {b : qf} : covB z b = true↔b.Lo.Z≤z∧z < b.Hi.Z:=by simp [covB]
theorem qci {l : List qf} {z : Int} {r : ql} : r∈atB l z↔∃ b∈l,(b.Lo.Z≤z∧z < b.Hi.Z)∧r = Zt b:=by
  unfold atB;rw [List.mem_flatMap];constructor
  · rintro ⟨b,hb,h⟩;split at h
    · rename_i a;exact ⟨b,hb,q1g.1 a,by simpa using h⟩
    · cases h
  · rintro ⟨b,hb,a,rfl⟩;exact ⟨b,hb,by rw [qp (q1g.2 a)];simp⟩
theorem Uv {l : List qf} {x y z : Int} : hasR (atB l z) x y↔hasB l x y z:=by
  constructor
  · rintro ⟨r,h,a,d,f,c⟩;obtain ⟨b,hb,g,rfl⟩:=qci.1 h;exact ⟨b,hb,⟨a,d⟩,⟨f,c⟩,g⟩
  · rintro ⟨b,hb,⟨a,d⟩,⟨f,c⟩,g⟩;exact ⟨Zt b,qci.2 ⟨b,hb,g,rfl⟩,a,d,f,c⟩
theorem q9q (x y z : Int) : ¬ hasB [] x y z:=by rintro ⟨r,h,_⟩;cases h
theorem qeh (a b : List qf) (z : Int) : atB (a ++ b) z = atB a z ++ atB b z:=by simp [atB]
theorem qel (s : List ql) (lo hi z : Int) : atB (s.map (putB lo hi)) z = if lo≤z∧z < hi then s else []:=by
  induction s with
  | nil=>simp [atB]
  | cons t s ih=>
    have e : atB (List.map (putB lo hi) (t::s)) z = (if covB z (putB lo hi t) = true then [t] else []) ++ atB (s.map (putB lo hi)) z:=rfl;rw [e,ih];have : covB z (putB lo hi t) = (decide (lo≤z) && decide (z < hi)):=rfl;rw [this];by_cases a : lo≤z <;> by_cases b : z < hi <;> simp [a,b]
theorem q45 : ∀ {b : List (Grp ql)},CanG b→∀ z,atB (Qv putB b) z = secG b z
  | [],_,z=>rfl
  | g::r,h,z=>by
    have e : Qv putB (g::r) = g.sec.map (putB g.lo g.hi) ++ Qv putB r:=rfl
    rw [e,qeh,qel,q45 h.tail z]
    by_cases a : g.lo≤z∧z < g.hi
    · rw [qp a,secG,qp a,Jm (y:=g.hi) (fun m c=>(h.nxt m c).1) a.2,List.append_nil]
    · rw [qs a,secG,qs a,List.nil_append]
theorem qei {l : List qf} {a x : Int} (h : ∀ r∈l,covB a r = covB x r) : atB l a = atB l x:=by
  induction l with
  | nil=>rfl
  | cons r l ih=>
    have e : ∀ y,atB (r::l) y = (if covB y r = true then [Zt r] else []) ++ atB l y:=fun _=>rfl;rw [e,e,h r qb,ih fun k b=>h k (by simp [b])]
theorem q9d {l : List qf} {x : Int} (h : ∀ r∈l,covB x r = false) : atB l x = []:=by
  induction l with
  | nil=>rfl
  | cons r l ih=>
    have e : atB (r::l) x = (if covB x r = true then [Zt r] else []) ++ atB l x:=rfl;rw [e,h r qb,ih fun k a=>h k (by simp [a])];rfl
theorem qhc {p q : List qf} {r : qf} (h : r∈p∨r∈q) : r.Lo.Z∈zsOf p ++ zsOf q∧r.Hi.Z∈zsOf p ++ zsOf q:=by
  unfold zsOf;simp only [List.mem_append,List.mem_flatMap];rcases h with h | h
  · exact ⟨.inl ⟨r,h,qb⟩,.inl ⟨r,h,qb⟩⟩
  · exact ⟨.inr ⟨r,h,qb⟩,.inr ⟨r,h,qb⟩⟩
theorem qcq (kind : Int) : mrgR kind [] [] = []:=by
  refine qer (qhi kind qb) .nil fun x y=>?_;rw [qc2 kind qb];have:=qgj x y;unfold Kz;simp [this]
theorem qhh (kind : Int) {p q : List qf} (h : p.length + q.length≤100000) :
    ∃ f,mrgB kind p q = Qv putB f∧CanG f∧∀ z,secG f z = secB kind p q z:=by
  have t:=Zw p;have s:=Zw q;have hs:=(Js (l:=zsOf p ++ zsOf q) (by simp;omega)).2.1;obtain ⟨f,k,n,m⟩:=qhd putB (secB kind p q) hs.1;refine ⟨f,k,n,fun x=>?_⟩;rw [m]
  have g : ∀ r,(r∈p∨r∈q)→r.Lo.Z∈Qr (zsOf p ++ zsOf q)∧r.Hi.Z∈Qr (zsOf p ++ zsOf q):=fun r b=>
    ⟨(hs.2 _).2 (qhc b).1,(hs.2 _).2 (qhc b).2⟩
  refine qac _ hs.1 (fun a _ o c=>?_) (fun c=>?_) (fun c=>?_)
  · have d : ∀ r,(r∈p∨r∈q)→covB a r = covB x r:=fun r b=>by
      have j:=c _ (g r b).1;have u:=c _ (g r b).2;rw [Bool.eq_iff_iff,q1g,q1g];omega
    unfold secB;rw [qei fun r b=>d r (.inl b),qei fun r b=>d r (.inr b)]
  · have d : ∀ r,(r∈p∨r∈q)→covB x r = false:=fun r b=>by
      have j:=c _ (g r b).1;rw [← Bool.not_eq_true,q1g];omega
    unfold secB;rw [q9d fun r b=>d r (.inl b),q9d fun r b=>d r (.inr b),qcq]
  · have d : ∀ r,(r∈p∨r∈q)→covB x r = false:=fun r b=>by
      have j:=c _ (g r b).2;rw [← Bool.not_eq_true,q1g];omega
    unfold secB;rw [q9d fun r b=>d r (.inl b),q9d fun r b=>d r (.inr b),qcq]
def CanB (l : List qf) : Prop:=∃ gs : List (Grp ql),l = Qv putB gs∧CanG gs∧∀ g∈gs,CanR g.sec
theorem CanB.nil : CanB []:=⟨[],rfl,⟨qb,qb⟩,qb⟩
theorem CanB.at {l : List qf} (h : CanB l) (z : Int) : CanR (atB l z):=by
  obtain ⟨d,rfl,b,c⟩:=h;rw [q45 b];rcases qdk (x:=z) d with e | ⟨g,a,_,_,e⟩
  · rw [e];exact .nil
  · rw [e];exact c g a
theorem qb9 {a b : List qf} (f : CanB a) (hb : CanB b) (h : ∀ x y z,hasB a x y z↔hasB b x y z) : a = b:=by
  have g : ∀ z,atB a z = atB b z:=fun z=>qer (f.at z) (hb.at z) fun x y=>by rw [Uv,Uv];exact h x y z
  obtain ⟨k,rfl,c,_⟩:=f;obtain ⟨j,rfl,d,_⟩:=hb;rw [qba c d fun x=>by rw [← q45 c,← q45 d];exact g x]
theorem qeo {p q : List qf} (h : p.length + q.length≤100000) (z : Int) : (atB p z).length + (atB q z).length≤100000:=by
  have:=Jq p z;have:=Jq q z;omega
theorem q4n (kind : Int) {p q : List qf} (h : p.length + q.length≤100000) : CanB (mrgB kind p q):=by
  obtain ⟨f,c,a,d⟩:=qhh kind h;refine ⟨f,c,a,fun g b=>?_⟩;have:=d g.lo;rw [qdj a g b _ (Int.le_refl _) (a.1 g b).1] at this;rw [this];exact qhi kind (qeo h _)
theorem qej (kind : Int) {p q : List qf} (h : p.length + q.length≤100000) (z : Int) : atB (mrgB kind p q) z = secB kind p q z:=by
  obtain ⟨d,a,c,b⟩:=qhh kind h;rw [a,q45 c,b]
theorem qc1 (kind : Int) {p q : List qf} (h : p.length + q.length≤100000) (x y z : Int) : hasB (mrgB kind p q) x y z↔Kz kind (hasB p x y z) (hasB q x y z):=by
  rw [← Uv,qej kind h,secB,qc2 kind (qeo h z),Uv,Uv]
theorem qc0 {l : List qf} (h : l.length≤100000) (x y z : Int) : hasB (mrgB 2 l []) x y z↔hasB l x y z:=by
  rw [qc1 2 (by simpa using h),qgm];simp [q9q]
theorem qoe {l : List qf} (a : l.length≤100000) (h : CanB l) : mrgB 2 l [] = l:=
  qb9 (q4n 2 (by simpa using a)) h fun x y z=>qc0 a x y z
theorem CanB.lt {l : List qf} (h : CanB l) : ∀ b∈l,b.Lo.X < b.Hi.X∧b.Lo.Y < b.Hi.Y∧b.Lo.Z < b.Hi.Z:=by
  obtain ⟨k,rfl,c,f⟩:=h;intro r d;obtain ⟨g,a,t,j,rfl⟩:=qh9.1 d;have:=(f g a).lt t j;exact ⟨this.1,this.2,(c.1 g a).1⟩
def vB (b : qf) : Prop:=(b.Lo.X < b.Hi.X∧b.Lo.Y < b.Hi.Y∧b.Lo.Z < b.Hi.Z)∧(-1000000≤b.Lo.X∧-1000000≤b.Lo.Y∧-1000000≤b.Lo.Z)∧b.Hi.X≤1000000∧b.Hi.Y≤1000000∧b.Hi.Z≤1000000
instance (b : qf) : Decidable (vB b):=by unfold vB;infer_instance
def InB (l : List qf) : Prop:=∀ x y z,hasB l x y z→(-1000000≤x∧x < 1000000)∧(-1000000≤y∧y < 1000000)∧(-1000000≤z∧z < 1000000)
theorem qx9 {l : List qf} (h : ∀ r∈l,vB r) : InB l:=by
  rintro x y z ⟨r,a,b⟩;have:=h r a;unfold vB at this;omega
theorem CanB.vB {l : List qf} (h : CanB l) (hi : InB l) : ∀ r∈l,vB r:=by
  intro r a;have b:=h.lt r a;have c:=hi r.Lo.X r.Lo.Y r.Lo.Z ⟨r,a,q6⟩;have d:=hi (r.Hi.X - 1) (r.Hi.Y - 1) (r.Hi.Z - 1) ⟨r,a,q6⟩;unfold Go.Sh.vB;omega
theorem InB.mrg {kind : Int} {p q : List qf} (h : p.length + q.length≤100000) (hp : InB p) (b : InB q) : InB (mrgB kind p q):=fun x y z c=>by
  rcases qc5 ((qc1 kind h x y z).1 c) with a | a
  · exact hp x y z a
  · exact b x y z a
theorem InB.nil : InB []:=fun x y z h=>absurd h (q9q x y z)
theorem qxa {l : List qf} (h : ∀ b∈l,vB b) (z : Int) : ∀ r∈atB l z,vR r:=by
  intro r a;obtain ⟨b,hb,_,rfl⟩:=qci.1 a;have:=h b hb;unfold vB at this;unfold vR Zt;simp only;omega
theorem InB.at {l : List qf} (h : InB l) (z : Int) : InR (atB l z):=fun x y a=>by
  have:=h x y z (Uv.1 a);exact ⟨this.1,this.2.1⟩
noncomputable def Yd (l : List qf) : Int:=if 400 < l.length then 4 else if ∀ b∈l,vB b then (if mrgB 2 l [] = l then 0 else 8) else 8
theorem Uh {l : List qf} : Yd l = 0↔l.length≤400∧(∀ b∈l,vB b)∧CanB l:=by
  unfold Yd;constructor
  · intro h;split at h
    · exact absurd h Q0
    · rename_i d;split at h
      · rename_i c;split at h
        · rename_i a;exact ⟨q6,c,a ▸ q4n 2 (by simp;omega)⟩
        · exact absurd h Q0
      · exact absurd h Q0
  · rintro ⟨d,c,a⟩;rw [qs q6,qp c,qp (qoe q6 a)]
theorem qj4 (kind : Int) {p q : List qf} (h : p.length + q.length≤100000) (z : Int) : (secB kind p q z).length≤(mrgB kind p q).length:=by
  rw [← qej kind h];exact Jq _ _
noncomputable def mkB (l : List qf) : List qf × Int:=if 400 < l.length then ([],4) else if ∀ b∈l,vB b then (if 400 < (mrgB 2 l []).length then ([],4) else (mrgB 2 l [],0)) else ([],8)
noncomputable def mkR (l : List ql) : List ql × Int:=if 400 < l.length then ([],4) else if ∀ b∈l,vR b then (if 400 < (mrgR 2 l []).length then ([],4) else (mrgR 2 l [],0)) else ([],8)
end Go.Sh
namespace Go.Sh
open Go Go.Am
theorem qh4 {α β : Type} {f : α→Option (α ⊕ β)} (st : Nat→α) (n : Nat) (ok : Nat→Prop) (b e : β)
    (step : ∀ k,k < n→(∀ j,j≤k→ok j)→f (st k) = some (.inl (st (k + 1))))
    (bad : ∀ k,k < n→(∀ j,j < k→ok j)→¬ ok k→f (st k) = some (.inr e))
    (done : (∀ j,j < n→ok j)→f (st n) = some (.inr b)) :
    ((∀ j,j < n→ok j)∧loop f (st 0) = some b)∨(∃ j,j < n∧¬ ok j∧loop f (st 0) = some e):=by
  by_cases h : ∀ j,j < n→ok j
  · exact .inl ⟨h,Zh st n b (fun k c=>step k c fun j d=>h j q6) (done h) (Nat.zero_le _)⟩
  · refine .inr ?_
    have l : ∃ k,(k < n∧¬ ok k)∧∀ j,j < k→ok j:=by
      have : ∃ k,k < n∧¬ ok k:=by
        refine Classical.byContradiction fun o=>h fun k c=>?_;exact Classical.byContradiction fun h=>o ⟨k,c,h⟩
      obtain ⟨k,c⟩:=this
      induction k using Nat.strongRecOn with
      | _ k ih=>
        by_cases d : ∃ j,j < k∧(j < n∧¬ ok j)
        · obtain ⟨j,g,l⟩:=d;exact ih j g l
        · exact ⟨k,c,fun j g=>Classical.byContradiction fun h=>d ⟨j,g,q6,h⟩⟩
    obtain ⟨K,⟨m,hb⟩,a⟩:=l;exact ⟨K,m,hb,Zh st K e (fun k c=>step k q6 fun j d=>a j q6) (bad K m a hb) (Nat.zero_le _)⟩
theorem qwd (xs : List Int) (h : xs.length≤1000000) :
    ((Ub xs).bind fun c=>(Qw c.length xs.length).bind fun j=>(q26 c).bind fun b=>(Qw b.2.length c.length).bind fun m=>(q2f b.2.length b.1).bind fun k=>some ((b.2.drop b.1.1).take b.1.2)) = some (Qr xs):=by
  obtain ⟨ys,o,g,n⟩:=qjr xs h;have f : ys.length = xs.length:=g.length_eq;obtain ⟨w,a,c1,c2,c3,c4⟩:=qf9 n q6;obtain ⟨_,p,_⟩:=Js h
  have d : a.take w = Qr xs:=by
    refine qjs (l:=xs) ⟨c4.1,fun x=>?_⟩ p;rw [c4.2 x];exact g.mem_iff
  simp only [qj,o,Qw,f,if_true,c1,c2,q2f];rw [qp q6];simp only [qj,List.drop_zero,d]
theorem qr8 (l : List ql) (c : l.length≤1000000) : q7o l (fun a=>q20 a) = some (decide (¬ ∀ r∈l,vR r)):=by
  have hs : ∀ (k : Nat) (h : k < l.length),q3g l (fun a=>q20 a) (k : Int) = some (if (fun r=>!decide (vR r)) l[k] = true then .inr (.inr (k : Int)) else .inl ((k + 1 : Nat) : Int)):=by
    intro k h;simp only [q3g,dlt h,qw,Qp h,qj,w64s h c,q20,qxb];by_cases g : vR l[k] <;> simp [g]
  have hd : q3g l (fun a=>q20 a) (l.length : Int) = some (.inr (.inl ())):=by simp only [q3g,dnl,qv]
  unfold q7o qaj;rcases q2o l (fun r=>!decide (vR r)) (fun k _=>(k : Int)) () _ hs hd with ⟨d,b⟩ | ⟨k,m,j,_,b⟩
  · rw [b];have : ∀ r∈l,vR r:=fun r f=>by simpa using d r f
    simp [];omega
  · rw [b];have : ¬ ∀ r∈l,vR r:=fun h=>by simp [h _ (Kw m)] at j
    simp only [qj];rw [Q6 this,Q6 q6]
theorem qr5 (l : List ql) : q50 l = some (mkR l):=by
  unfold q50 mkR;by_cases b : 400 < l.length
  · rw [Q6 (by omega : (l.length : Int) > 400),qw,qp b]
  rw [Q9 (by omega : ¬ (l.length : Int) > 400),qv,qs b,qr8 l q6,qj];by_cases a : ∀ r∈l,vR r
  · rw [Q9 (fun h=>h a),qv,qo4 l q6 a,qp a];rfl
  · rw [Q6 a,qw,qs a]
end Go.Sh
