/- Pt1 Pt2 Pt3 Pt4 Pt5 Pt6 Pt7 Qa1 Qa2 -/
import Derived.Test.YtbknppciefodiaaGreatK10
namespace Go.Sh
open Go Go.Am
theorem Z8 {α β : Type} {f : α→Option (α ⊕ β)} (st : Nat→α) (n : Nat) (b : β) (hs : ∀ k,k < n→f (st k) = some (.inl (st (k + 1)))) (hd : f (st n) = some (.inr b)) : ∀ {k : Nat},k≤n→loop f (st k) = some b:=by
  have key : ∀ m k,n - k = m→k≤n→loop f (st k) = some b:=by
    intro m
    induction m with
    | zero => intro k c a; obtain rfl : k = n := by omega
              exact Kj hd
    | succ m ih=>intro k c a;rw [Y5 (hs k q6)];exact ih (k + 1) q6 q6
  intro k a;exact key _ k rfl a
theorem w64s {k : Nat} {n : Nat} (h : k < n) (a : n≤1000000) : w64 ((k : Int) + 1) = ((k + 1 : Nat) : Int):=by rw [Qk q6];omega
theorem dlt {k n : Nat} (h : k < n) : decide ((k : Int) < (n : Int)) = true:=Q7 q6
theorem dnl {n : Nat} : decide ((n : Int) < (n : Int)) = false:=Q6 q6
theorem Jr {α β γ : Type} (src : List α) (b : src.length≤1000000) (h : α→List γ) (out : List γ) (fin : List γ→β) (f : Int × List γ→Option ((Int × List γ) ⊕ β))
    (hs : ∀ (k : Nat) (a : k < src.length) (o : List γ),o = out ++ (src.take k).flatMap h→f ((k : Int),o) = some (.inl (((k + 1 : Nat) : Int),o ++ h src[k])))
    (hd : ∀ o,f ((src.length : Int),o) = some (.inr (fin o))) : loop f (0,out) = some (fin (out ++ src.flatMap h)):=by
  have e : ∀ k (a : k < src.length),(src.take (k + 1)).flatMap h = (src.take k).flatMap h ++ h src[k]:=fun k a=>by
    rw [List.take_succ_eq_append_getElem a,List.flatMap_append,List.flatMap_cons,List.flatMap_nil,List.append_nil]
  have:=Z8 (f:=f) (fun k=>((k : Int),out ++ (src.take k).flatMap h)) src.length (fin (out ++ src.flatMap h)) (fun k a=>by
    rw [hs k a _ rfl,e k a,List.append_assoc]) (by simp only [List.take_length];exact hd _) (Nat.zero_le _)
  simpa using this
theorem q5i {α β γ : Type} (src : List α) (h : α→γ) (out : List γ) (fin : List γ→β) (f : Int × List γ→Option ((Int × List γ) ⊕ β))
    (hs : ∀ (k : Nat) (a : k < src.length) (o : List γ),o.length = out.length + k→f ((k : Int),o) = some (.inl (((k + 1 : Nat) : Int),o ++ [h src[k]])))
    (hd : ∀ o,f ((src.length : Int),o) = some (.inr (fin o))) : loop f (0,out) = some (fin (out ++ src.map h)):=by
  have e : ∀ k (a : k < src.length),(src.take (k + 1)).map h = (src.take k).map h ++ [h src[k]]:=fun k a=>by
    rw [List.take_succ_eq_append_getElem a,List.map_append,List.map_cons,List.map_nil]
  have:=Z8 (f:=f) (fun k=>((k : Int),out ++ (src.take k).map h)) src.length (fin (out ++ src.map h)) (fun k a=>by
    rw [hs k a _ (by simp;omega),e k a,List.append_assoc]) (by simp only [List.take_length];exact hd _) (Nat.zero_le _)
  simpa using this
theorem qc9 {γ : Type} (g : γ→γ) (a b : List γ) (m : (a ++ b).length≤1000000) (f : Int × List γ→Option ((Int × List γ) ⊕ (List γ)))
    (hs : ∀ (k : Nat) (o : List γ) (h : k < o.length),o.length = (a ++ b).length→f ((k : Int),o) = some (.inl (((k + 1 : Nat) : Int),o.set k (g o[k]))))
    (hd : ∀ o : List γ,f ((o.length : Int),o) = some (.inr o)) : loop f ((a.length : Int),a ++ b) = some (a ++ b.map g):=by
  have l : a.length + b.length≤1000000:=by simpa using m
  have key:=Z8 (f:=f) (fun k=>(((a.length + k : Nat) : Int),a ++ ((b.take k).map g ++ b.drop k))) b.length (a ++ b.map g) (fun k h=>by
    have c : (a ++ ((b.take k).map g ++ b.drop k)).length = (a ++ b).length:=by simp;omega
    have d : a.length + k < (a ++ ((b.take k).map g ++ b.drop k)).length:=by rw [c];simp;omega
    rw [hs (a.length + k) _ d c];have j : ((b.take k).map g).length = k:=by simp;omega
    have e : (a ++ ((b.take k).map g ++ b.drop k))[a.length + k]'d = b[k]:=by
      rw [List.getElem_append_right q6];rw [List.getElem_append_right (by rw [j];omega)];simp [List.length_take,Nat.min_eq_left (Nat.le_of_lt h)]
    rw [e];congr 4;rw [List.set_append,qp q6,List.set_append,qp (by rw [j];omega),j];have z : a.length + k - a.length - k = 0:=by omega
    rw [z,List.take_succ_eq_append_getElem h,List.drop_eq_getElem_cons h,List.set_cons_zero,List.map_append,List.map_cons,List.map_nil,List.append_assoc]
    rfl) (by
    simp only [List.take_length,List.drop_length,List.append_nil];have:=hd (a ++ b.map g)
    simpa using this) (Nat.zero_le _)
  simpa using key
theorem Zd {α γ υ : Type} (l : List α) (c : α→Bool) (g : (k : Nat)→k < l.length→γ) (u : υ) (f : Int→Option (Int ⊕ (υ ⊕ γ)))
    (hs : ∀ (k : Nat) (h : k < l.length),f (k : Int) = some (if c l[k] = true then .inr (.inr (g k h)) else .inl ((k + 1 : Nat) : Int))) (hd : f (l.length : Int) = some (.inr (.inl u))) :
    ((∀ v∈l,c v = false)∧loop f 0 = some (.inl u))∨∃ k,∃ h : k < l.length,c l[k] = true∧(∀ j (d : j < k),c (l[j]'(q6)) = false)∧loop f 0 = some (.inr (g k h)):=by
  by_cases p : ∀ v∈l,c v = false
  · refine .inl ⟨p,?_⟩;exact Z8 (f:=f) (fun k=>(k : Int)) l.length _ (fun k b=>by rw [hs k b,p _ (Ki b)];rfl) hd (Nat.zero_le _)
  · refine .inr ?_
    have : ∃ k,∃ h : k < l.length,c l[k] = true:=by
      refine Classical.byContradiction fun r=>p fun v s=>?_;obtain ⟨k,b,rfl⟩:=List.getElem_of_mem s;cases o : c l[k]
      · rfl
      · exact absurd ⟨k,b,o⟩ r
    have n : ∃ k,(∃ h : k < l.length,c l[k] = true)∧∀ j,j < k→¬ ∃ h : j < l.length,c l[j] = true:=by
      obtain ⟨k,b⟩:=this
      induction k using Nat.strongRecOn with
      | _ k ih=>
        by_cases d : ∃ j,j < k∧∃ h : j < l.length,c l[j] = true
        · obtain ⟨j,q,n⟩:=d;exact ih j q n
        · exact ⟨k,b,fun j q n=>d ⟨j,q,n⟩⟩
    obtain ⟨k,⟨b,o⟩,m⟩:=n
    have a : ∀ j (d : j < k),c (l[j]'(q6)) = false:=fun j d=>by
      cases h : c (l[j]'(q6))
      · rfl
      · exact absurd ⟨q6,h⟩ (m j d)
    refine ⟨k,b,o,a,?_⟩;exact Z8 (f:=f) (fun k=>(k : Int)) k _ (fun j d=>by rw [hs j q6,a j d];rfl) (by rw [hs k b,qq o]) (Nat.zero_le _)
theorem qnw : ∀ {l a b : List Int},Z2 l a→Z2 l b→a = b:=by
  have key : ∀ (a b : List Int),a.Pairwise (· < ·)→b.Pairwise (· < ·)→(∀ x,x∈a↔x∈b)→a = b:=by
    intro a
    induction a with
    | nil=>intro b _ _ h;cases b with
      | nil=>rfl
      | cons y b=>exact absurd ((h y).2 qf) qf
    | cons x a ih=>
      intro b d hb h
      cases b with
      | nil=>exact absurd ((h x).1 qf) qf
      | cons y b=>
        rw [List.pairwise_cons] at d hb
        have g : x = y:=by
          rcases List.mem_cons.1 ((h x).1 qf) with c | c
          · exact c
          · rcases List.mem_cons.1 ((h y).2 qf) with j | j
            · exact j.symm
            · have:=hb.1 _ c;have:=d.1 _ j;omega
        subst g;rw [ih b d.2 hb.2 fun z=>?_];constructor
        · intro f;rcases List.mem_cons.1 ((h z).1 (by simp [f])) with c | c
          · have:=d.1 _ f;omega
          · exact c
        · intro f;rcases List.mem_cons.1 ((h z).2 (by simp [f])) with c | c
          · have:=hb.1 _ f;omega
          · exact c
  intro l a b d hb;exact key a b d.1 hb.1 fun x=>(d.2 x).trans (hb.2 x).symm
def ltI (a b : Int) : Bool:=decide (a < b)
theorem swoI : Sort.SWO ltI where
  irrefl:=by intro x;simp [ltI]
  trans:=by intro x y z;simp only [ltI,decide_eq_true_eq];omega
  ntrans:=by intro x y z;simp only [ltI,decide_eq_false_iff_not];omega
theorem cmpI : Kz qO ltI (fun _=>True):=by
  intro x y _ _;refine ⟨sg x y,rfl,?_⟩;rw [J5];rfl
theorem qnv (l : List Int) (g : l.length≤1000000) : ∃ ys,U3 l = some ys∧ys.Perm l∧ys.Pairwise (·≤·):=by
  obtain ⟨ys,d,f,c⟩:=qnu cmpI swoI l g (fun _ _=>trivial);refine ⟨ys,by rw [qz4];exact d,f,c.imp ?_⟩;intro a b h;simp only [ltI,decide_eq_false_iff_not] at h;omega
end Go.Sh
namespace Go.Sh
open Go Go.Am
structure CInv (p : List Int) (k k2 i : Nat) (a : List Int) : Prop where
  len : a.length = p.length
  hi : i≤k + k2 - 1
  same : ∀ j (h : j < p.length),k + k2 - 1≤j→a[j]? = some p[j]
  so : Z2 (p.take (k + k2)) (a.take i)
theorem qqf {p : List Int} (hp : p.Pairwise (·≤·)) (hl : p.length≤1000000) {k b i : Nat} {a : List Int} (hk : 0 < k) (h2 : 0 < b) (r : k + b < p.length) (h : CInv p k b i a) :
    ∃ (i' : Nat) (a' : List Int),q1w ((i : Int),(k,p.length - k),(b : Int),a) = some (.inl ((i' : Int),(k,p.length - k),((b + 1 : Nat) : Int),a'))∧CInv p k (b + 1) i' a':=by
  obtain ⟨h1,h3,q,z,u⟩:=h;have hb : decide ((b : Int) < ((p.length - k : Nat) : Int)) = true:=dlt q6
  have r1 : idxW a (k,p.length - k) (b : Int) = some (p[k + b]):=by
    unfold idxW;rw [qq ⟨q6,q6⟩];simp only [Int.toNat_natCast];exact q (k + b) r q6
  have r2 : idxW a (k,p.length - k) (w64 ((b : Int) - 1)) = some (p[k + b - 1]):=by
    rw [Qk q6];have e : (b : Int) - 1 = ((b - 1 : Nat) : Int):=by omega
    rw [e];unfold idxW;rw [qq ⟨q6,q6⟩];simp only [Int.toNat_natCast];have:=q (k + b - 1) q6 q6;rw [show k + (b - 1) = k + b - 1 by omega];exact this
  have ai : p[k + b - 1]≤p[k + b]:=List.pairwise_iff_getElem.1 hp _ _ q6 r q6
  have l : p[k + b - 1]∈p.take (k + b):=by
    rw [List.mem_take_iff_getElem];exact ⟨k + b - 1,q6,rfl⟩
  have g : p.take (k + (b + 1)) = p.take (k + b) ++ [p[k + b]]:=by rw [← Nat.add_assoc,List.take_succ_eq_append_getElem r]
  have hw : w64 ((b : Int) + 1) = ((b + 1 : Nat) : Int):=w64s (n:=p.length) q6 hl;by_cases s : p[k + b] = p[k + b - 1]
  · refine ⟨i,a,?_,h1,q6,fun j o t=>q j o q6,?_⟩
    · have c : (p[k + b] != p[k + b - 1]) = false:=by rw [s];simp
      simp only [q1w,hb,qy,r1,r2,qj,c,qx,hw]
    · rw [g];refine ⟨z,fun x=>?_⟩;rw [u x];constructor
      · intro f;exact List.mem_append.2 (.inl f)
      · intro f;rcases List.mem_append.1 f with h | h
        · exact h
        · simp only [List.mem_singleton] at h;rw [h,s];exact l
  · have c : (p[k + b] != p[k + b - 1]) = true:=by simpa using s
    have d : i < a.length:=by omega
    have r3 : idx a (i : Int) = some a[i]:=Qs d;have w : w64 ((i : Int) + 1) = ((i + 1 : Nat) : Int):=w64s (n:=p.length) q6 hl;refine ⟨i + 1,a.set i p[k + b],?_,by simpa using h1,q6,fun j o t=>?_,?_⟩
    · simp only [q1w,hb,qy,r1,r2,qj,c,r3,hw,w,Int.toNat_natCast]
    · rw [List.getElem?_set_ne q6];exact q j o q6
    · have e : (a.set i p[k + b]).take (i + 1) = a.take i ++ [p[k + b]]:=by
        rw [List.take_succ_eq_append_getElem (by simpa using d)];simp [List.take_set_of_le]
      rw [e,g];refine ⟨?_,fun x=>?_⟩
      · rw [List.pairwise_append];refine ⟨z,qf,fun x f y hy=>?_⟩;simp only [List.mem_singleton] at hy;subst hy;have m:=(u x).1 f;rw [List.mem_take_iff_getElem] at m;obtain ⟨j,o,rfl⟩:=m
        have : p[j]≤p[k + b - 1]:=by
          by_cases v : j = k + b - 1
          · subst v;exact Int.le_refl _
          · exact List.pairwise_iff_getElem.1 hp _ _ q6 q6 q6
        omega
      · rw [List.mem_append,List.mem_append,u x]
theorem qqe {p : List Int} (hp : p.Pairwise (·≤·)) (y : p.length≤1000000) {k : Nat} (u : 0 < k) (w : k < p.length) (m : Z2 (p.take (k + 1)) (p.take k)) :
    ∃ i : Nat,∃ a : List Int,loop q1w ((k : Int),(k,p.length - k),1,p) = some ((i : Int),a)∧a.length = p.length∧i≤p.length∧Z2 p (a.take i):=by
  have h:=J2 (f:=q1w) (mk:=fun d (c : Nat × List Int)=>((c.1 : Int),(k,p.length - k),((d : Nat) : Int),c.2)) (p.length - k) (fun d c=>0 < d∧CInv p k d c.1 c.2)
    (fun b=>∃ i : Nat,∃ a : List Int,b = ((i : Int),a)∧a.length = p.length∧i≤p.length∧Z2 p (a.take i))
    (fun d c t g=>by
      obtain ⟨s,a',v,n⟩:=qqf hp y u g.1 q6 g.2
      exact .inl ⟨(s,a'),v,q6,n⟩)
    (fun c g=>by
      obtain ⟨l,r,h3,z,o⟩:=g;refine ⟨((c.1 : Int),c.2),?_,c.1,c.2,rfl,r,q6,?_⟩
      · simp only [q1w,dnl,qx]
      · rwa [List.take_of_length_le q6] at o)
    (k0:=1) (c0:=(k,p)) q6 ⟨q6,rfl,qf,fun j q _=>by simp [q],m⟩
  obtain ⟨b,hb,i,a,rfl,x⟩:=h;exact ⟨i,a,hb,x⟩
theorem qiz {p : List Int} (hp : p.Pairwise (·≤·)) (y : p.length≤1000000) :
    ∃ w a,q10 p = some ((0,w),a)∧a.length = p.length∧w≤p.length∧Z2 p (a.take w):=by
  unfold q10;by_cases hs : p.length < 2
  · rw [Q7 (by omega : (p.length : Int) < 2),qy];refine ⟨p.length,p,rfl,rfl,Nat.le_refl _,?_⟩;rw [List.take_length];refine ⟨?_,fun x=>Iff.rfl⟩
    match p,hs with
    | [],_=>simp
    | [x],_=>simp
  rw [Q6 (by omega : ¬ (p.length : Int) < 2),qx]
  have c : ∀ k,k≤p.length→(∀ j (l : j < k),0 < j→∀ h : j < p.length,p[j]≠p[j - 1])→Z2 (p.take k) (p.take k):=by
    intro k m q;refine ⟨?_,fun x=>Iff.rfl⟩;rw [List.pairwise_iff_getElem];intro i j hi l ag;simp only [List.length_take] at hi l;simp only [List.getElem_take];have o : p[j - 1]≤p[j]:=List.pairwise_iff_getElem.1 hp _ _ q6 q6 q6;have r:=q j q6 q6 q6
    have h3 : p[i]≤p[j - 1]:=by
      by_cases e : i = j - 1
      · subst e;exact Int.le_refl _
      · exact List.pairwise_iff_getElem.1 hp _ _ q6 q6 q6
    omega
  have b : ∀ k,0 < k→∀ h : k < p.length,p[k]≠p[k - 1]→Ji p (k : Int) = some (.inl ((k + 1 : Nat) : Int)):=by
    intro k g h q;have u : idx p (w64 ((k : Int) - 1)) = some (p[k - 1]):=by rw [Qk q6];exact J1 q6 q6
    have hb : (p[k] == p[k - 1]) = false:=by simpa using q
    simp only [Ji,dlt h,qy,Qs h,u,qj,hb,qx,w64s h y]
  by_cases t : ∀ j,0 < j→∀ h : j < p.length,p[j]≠p[j - 1]
  · have o : loop (Ji p) 1 = some (.inl ()):=by
      exact Z8 (f:=Ji p) (fun k=>((k + 1 : Nat) : Int)) (p.length - 1) _ (fun k m=>by
        exact b (k + 1) q6 q6 (t (k + 1) q6 q6)) (by
        show Ji p (((p.length - 1) + 1 : Nat) : Int) = _;rw [show p.length - 1 + 1 = p.length by omega]
        simp only [Ji,dnl,qx]) (Nat.zero_le _)
    rw [o];refine ⟨p.length,p,rfl,rfl,Nat.le_refl _,?_⟩;have:=c p.length (Nat.le_refl _) fun j _ g h=>t j g h;rw [List.take_length] at this ⊢;exact this
  · have r : ∃ k,(0 < k∧∃ h : k < p.length,p[k] = p[k - 1])∧∀ j,j < k→¬ (0 < j∧∃ h : j < p.length,p[j] = p[j - 1]):=by
      have : ∃ k,0 < k∧∃ h : k < p.length,p[k] = p[k - 1]:=by
        refine Classical.byContradiction fun z=>t fun j g h d=>z ⟨j,g,h,d⟩
      obtain ⟨k,m⟩:=this
      induction k using Nat.strongRecOn with
      | _ k ih=>
        by_cases l : ∃ j,j < k∧(0 < j∧∃ h : j < p.length,p[j] = p[j - 1])
        · obtain ⟨j,o,r⟩:=l;exact ih j o r
        · exact ⟨k,m,fun j o r=>l ⟨j,o,r⟩⟩
    obtain ⟨k,⟨g,m,d⟩,n⟩:=r;have v : Z2 (p.take k) (p.take k):=c k q6 fun j l g h d=>n j l ⟨g,h,d⟩
    have s : Z2 (p.take (k + 1)) (p.take k):=by
      refine ⟨v.1,fun x=>?_⟩;rw [List.take_succ_eq_append_getElem m,List.mem_append];refine ⟨.inl,fun h=>h.elim id fun h=>?_⟩;simp only [List.mem_singleton] at h;rw [h,d,List.mem_take_iff_getElem];exact ⟨k - 1,q6,rfl⟩
    obtain ⟨i,a,e1,e2,e3,e4⟩:=qqe hp y g m s;have s1 : sub2 p.length (k : Int) (p.length : Int) = some (k,p.length - k):=by unfold sub2;rw [qq ⟨q6,q6,q6⟩];simp
    have s2 : sub2 a.length (i : Int) (a.length : Int) = some (i,a.length - i):=by unfold sub2;rw [qq ⟨q6,q6,q6⟩];simp
    have s3 : sub2 a.length 0 (i : Int) = some (0,i):=by unfold sub2;rw [qq ⟨q6,q6,q6⟩];simp
    have u : idx p (w64 ((k : Int) - 1)) = some (p[k - 1]):=by rw [Qk q6];exact J1 q6 q6
    have o : loop (Ji p) 1 = some (.inr ((0,i),clrw a (i,a.length - i) 0)):=by
      exact Z8 (f:=Ji p) (fun k=>((k + 1 : Nat) : Int)) (k - 1) _ (fun j l=>by
        exact b (j + 1) q6 q6 fun d=>n (j + 1) q6 ⟨q6,q6,d⟩) (by
        show Ji p (((k - 1) + 1 : Nat) : Int) = _;rw [show k - 1 + 1 = k by omega];have hb : (p[k] == p[k - 1]) = true:=by simpa using d
        simp only [Ji,dlt m,qy,Qs m,u,qj,hb,s1,e1,s2,s3]) (Nat.zero_le _)
    rw [o];refine ⟨i,clrw a (i,a.length - i) 0,rfl,by rw [qiq (by simp;omega)];exact e2,e3,?_⟩
    have : (clrw a (i,a.length - i) 0).take i = a.take i:=by
      unfold clrw splice;rw [List.append_assoc,List.take_append_of_le_length (by simp;omega)];simp [List.take_take]
    rw [this];exact e4
end Go.Sh
namespace Go.Sh
open Go Go.Am
theorem q8v {α : Type} [DecidableEq α] (e : α→α→Bool) (d : ∀ v w,e v w = decide (v = w)) (p q : List α) (s : p.length≤1000000) (f : Int→Option (Int ⊕ (Unit ⊕ Bool)))
    (l : ∀ k,f k = cond (decide (k < (p.length : Int))) ((idx p k).bind fun v=>(idx q k).bind fun w=>cond (!(e v w)) (some (.inr (.inr false))) (some (.inl (w64 (k + 1))))) (some (.inr (.inl ())))) :
    cond ((p.length : Int) != (q.length : Int)) (some false) ((loop f 0).bind fun m=>(match m with | .inl _=>some true | .inr x=>some x)) = some (decide (p = q)):=by
  by_cases a : p.length = q.length
  · have : ((p.length : Int) != (q.length : Int)) = false:=by rw [a];simp
    rw [this,qx]
    let c : Nat→Bool:=fun k=>if h : k < p.length then !(e p[k] (q[k]'(q6))) else false
    have hs : ∀ (k : Nat) (h : k < (List.range p.length).length),f (k : Int) = some (if c (List.range p.length)[k] = true then .inr (.inr false) else .inl ((k + 1 : Nat) : Int)):=by
      intro k h;have h : k < p.length:=by simpa using h
      rw [l];simp only [dlt h,qy,Qs h,Qs (xs:=q) (k:=k) q6,qj,List.getElem_range,c,dif_pos h,w64s h s];cases e p[k] (q[k]'(q6)) <;> simp
    have hd : f ((List.range p.length).length : Int) = some (.inr (.inl ())):=by rw [l];simp []
    rcases Zd (List.range p.length) c (fun _ _=>false) () f hs hd with ⟨o,b⟩ | ⟨k,n,g,_,b⟩
    · rw [b]
      have : p = q:=by
        refine List.ext_getElem a fun k j t=>?_;have:=o k (by simpa using j);simp only [c,dif_pos j,d,Bool.not_eq_false',decide_eq_true_eq] at this;exact this
      simp [this]
    · rw [b];have r : k < p.length:=by simpa using n
      have : p≠q:=by
        intro h;simp only [List.getElem_range,c,d,h] at g;simp at g
      simp [this]
  · have : ((p.length : Int) != (q.length : Int)) = true:=by simpa using (fun h : (p.length : Int) = q.length=>a q6)
    rw [this,qy];have : p≠q:=fun h=>a (by rw [h]);simp [this]
theorem qje (p q : List ql) (a : p.length≤1000000) : qa0 p q = some (decide (p = q)):=
  q8v (fun v w=>((v.Lo == w.Lo) && ((v.Hi == w.Hi) && true))) (fun v w=>by cases v;cases w;rw [Bool.eq_iff_iff];simp) p q a (qdj p q) (fun _=>rfl)
theorem qn0 (p q : List ql) (a : p.length≤1000000) : q5s p q = some (decide (p = q)):=
  q8v (fun v w=>((v.Lo == w.Lo) && ((v.Hi == w.Hi) && true))) (fun v w=>by cases v;cases w;rw [Bool.eq_iff_iff];simp) p q a (qcw p q) (fun _=>rfl)
theorem qf8 (p q : List qi) (a : p.length≤1000000) : q6u p q = some (decide (p = q)):=
  q8v (fun v w=>((v.X0 == w.X0) && ((v.Y0 == w.Y0) && ((v.X1 == w.X1) && ((v.Y1 == w.Y1) && true))))) (fun v w=>by cases v;cases w;rw [Bool.eq_iff_iff];simp) p q a (qdh p q) (fun _=>rfl)
theorem qmz (p q : List qi) (a : p.length≤1000000) : q5w p q = some (decide (p = q)):=
  q8v (fun v w=>((v.X0 == w.X0) && ((v.Y0 == w.Y0) && ((v.X1 == w.X1) && ((v.Y1 == w.Y1) && true))))) (fun v w=>by cases v;cases w;rw [Bool.eq_iff_iff];simp) p q a (qcx p q) (fun _=>rfl)
theorem sameBox (p q : List qg) (a : p.length≤1000000) : q9k p q = some (decide (p = q)):=
  q8v (fun v w=>((v.Lo.X == w.Lo.X) && ((v.Lo.Y == w.Lo.Y) && ((v.Lo.Z == w.Lo.Z) && ((v.Hi.X == w.Hi.X) && ((v.Hi.Y == w.Hi.Y) && ((v.Hi.Z == w.Hi.Z) && true))))))) (fun v w=>by rcases v with ⟨⟨_,_,_⟩,⟨_,_,_⟩⟩;rcases w with ⟨⟨_,_,_⟩,⟨_,_,_⟩⟩;rw [Bool.eq_iff_iff];simp [and_assoc]) p q a (qd1 p q) (fun _=>rfl)
structure Mg (σ β : Type) where
  done : List β
  sec : List σ
  lo : Int
  hi : Int
section
variable {σ β : Type} [DecidableEq σ] (put : Int→Int→σ→β)
def Mg.flat (s : Mg σ β) : List β:=s.done ++ s.sec.map (put s.lo s.hi)
def addM (s : Mg σ β) (a b : Int) (c : List σ) : Mg σ β:=if c≠[]∧c = s.sec∧s.hi = a then ⟨s.done,s.sec,s.lo,b⟩ else ⟨s.flat put,c,a,b⟩
def Qu : Mg σ β:=⟨[],[],0,0⟩
def Qy (s0 : Mg σ β) (steps : List (Int × Int × List σ)) : Mg σ β:=steps.foldl (fun s t=>addM put s t.1 t.2.1 t.2.2) s0
theorem q1c {s0 : Mg σ β} {steps : List (Int × Int × List σ)} {i : Nat} (h : i < steps.length) : Qy put s0 (steps.take (i + 1)) = addM put (Qy put s0 (steps.take i)) steps[i].1 steps[i].2.1 steps[i].2.2:=by
  unfold Qy;rw [List.take_succ_eq_append_getElem h,List.foldl_append];rfl
theorem qec (s : Mg σ β) (a b : Int) (c : List σ) : (addM put s a b c).hi = b:=by unfold addM;split <;> rfl
theorem qos (s : Mg σ β) (a b : Int) (c : List σ) : ((addM put s a b c).flat put).length≤(s.flat put).length + c.length:=by
  unfold addM;split
  · simp [Mg.flat]
  · simp [Mg.flat];omega
theorem q3j {s0 : Mg σ β} {M : Nat} : ∀ {steps : List (Int × Int × List σ)},(∀ t∈steps,t.2.2.length≤M)→((Qy put s0 steps).flat put).length≤(s0.flat put).length + steps.length * M:=by
  intro steps
  induction steps generalizing s0 with
  | nil=>intro _;simp [Qy]
  | cons t r ih=>
    intro h;have d:=ih (s0:=addM put s0 t.1 t.2.1 t.2.2) fun u b=>h u (by simp [b]);have f:=qos put s0 t.1 t.2.1 t.2.2;have c:=h t qf;have a : Qy put s0 (t::r) = Qy put (addM put s0 t.1 t.2.1 t.2.2) r:=rfl;rw [a];simp only [List.length_cons,Nat.succ_mul];omega
end
section
variable {σ : Type}
def Yc (cuts : List Int) (sec : Int→List σ) : List (Int × Int × List σ):=(cuts.zip cuts.tail).map fun c=>(c.1,c.2,sec c.1)
theorem q24 (a : List Int) (sec : Int→List σ) : (Yc a sec).length = a.length - 1:=by simp [Yc]
theorem q39 {a : List Int} {sec : Int→List σ} {i : Nat} (h : i < (Yc a sec).length) (b : i + 1 < a.length) : (Yc a sec)[i] = (a[i],a[i + 1],sec a[i]):=by
  simp [Yc]
theorem qdy {a : List Int} {sec : Int→List σ} {M : Nat} (h : ∀ x,(sec x).length≤M) : ∀ t∈Yc a sec,t.2.2.length≤M:=by
  intro t b;simp only [Yc,List.mem_map] at b;obtain ⟨c,_,rfl⟩:=b;exact h _
end
theorem q17 {σ β : Type} [DecidableEq σ] (put : Int→Int→σ→β) (s : Mg σ β) (a b : Int) (c : List σ) : (c≠[]∧c = s.sec∧s.hi = a∧addM put s a b c = ⟨s.done,s.sec,s.lo,b⟩)∨(¬ (c≠[]∧c = s.sec∧s.hi = a)∧addM put s a b c = ⟨s.flat put,c,a,b⟩):=by
  unfold addM;split
  · rename_i h;exact .inl ⟨h.1,h.2.1,h.2.2,rfl⟩
  · rename_i h;exact .inr ⟨h,rfl⟩
def putR (a b : Int) (t : ql) : qi:={X0:=a,Y0:=t.Lo,X1:=b,Y1:=t.Hi}
theorem qi9 (s : Mg ql qi) (a b : Int) (c : List ql) (z : (s.flat putR).length + c.length≤1000000) :
    q6j (s.flat putR) s.sec (s.done.length : Int) s.hi a b c = some ((addM putR s a b c).sec,((addM putR s a b c).done.length : Int),(addM putR s a b c).hi,(addM putR s a b c).flat putR):=by
  have d : s.sec.length≤1000000:=by have : (s.flat putR).length = s.done.length + s.sec.length:=(by simp [Mg.flat]);omega
  unfold q6j;rcases q17 putR s a b c with ⟨p,r,y,n⟩ | ⟨p,n⟩
  · have hb : decide ((c.length : Int) > 0) = true:=Q7 (by have:=List.length_pos_iff.2 p;omega);have u : (s.hi == a) = true:=by simpa using y
    rw [r] at hb;rw [n,r];simp only [hb,qy,u,qj,qje _ _ d,decide_true]
    have:=qc9 (fun v : qi=>({X0:=v.X0,Y0:=v.Y0,X1:=b,Y1:=v.Y1} : qi)) s.done (s.sec.map (putR s.lo s.hi)) (by have : (s.done ++ s.sec.map (putR s.lo s.hi)).length = (s.flat putR).length:=rfl;omega) (q6k b) (fun k o f x=>by
      have l : (s.done ++ s.sec.map (putR s.lo s.hi)).length = (s.flat putR).length:=rfl
      simp only [q6k,dlt f,qy,Qs f,qj,w64s f q6,Int.toNat_natCast]) (fun o=>by simp only [q6k,dnl,qx])
    rw [show s.flat putR = s.done ++ s.sec.map (putR s.lo s.hi) from rfl,this];simp only [qj,Mg.flat,List.map_map];rfl
  · rw [n]
    have w : ((cond (decide ((c.length : Int) > 0)) (some (s.hi == a)) (some false)).bind fun g=>(cond g ((qa0 s.sec c).bind fun j=>some j) (some false))) = some false:=by
      by_cases l : c = []
      · subst l;simp
      · have hb : decide ((c.length : Int) > 0) = true:=Q7 (by have:=List.length_pos_iff.2 l;omega);simp only [hb,qy,qj,qje _ _ d];by_cases m : s.hi = a
        · have t : s.sec≠c:=fun h=>p ⟨l,h.symm,m⟩;simp [m,t]
        · have : (s.hi == a) = false:=by simpa using m
          simp [this]
    have q:=q5i c (putR a b) (s.flat putR) (fun o=>(c,((s.flat putR).length : Int),b,o)) (q6l c a b (s.flat putR)) (fun k f o x=>by
      simp only [q6l,dlt f,qy,Qs f,qj,w64s f q6];rw [Y4 (by simp;omega)]
      rfl) (fun o=>by simp only [q6l,dnl,qx])
    rw [← Option.bind_assoc,w];simp only [qj,qx,q];simp [Mg.flat]
end Go.Sh
namespace Go.Sh
open Go Go.Am
def vR (r : qi) : Prop:=r.X0 < r.X1∧r.Y0 < r.Y1∧-1000000≤r.X0∧r.X0≤1000000∧-1000000≤r.X1∧r.X1≤1000000∧-1000000≤r.Y0∧r.Y0≤1000000∧-1000000≤r.Y1∧r.Y1≤1000000
instance (r : qi) : Decidable (vR r):=by unfold vR;infer_instance
theorem qr8 (x : Int) : q2w x = some (decide (-1000000≤x∧x≤1000000)):=by
  unfold q2w;by_cases h : x ≥ -1000000 <;> by_cases a : x≤1000000 <;> simp [h,a] <;> omega
theorem qoh (r : qi) : q6n r = some (decide (vR r)):=by
  unfold q6n;simp only [qr8,qqg,qj,vR];by_cases f : r.X0 < r.X1 <;> by_cases g : r.Y0 < r.Y1 <;> by_cases c : -1000000≤r.X0∧r.X0≤1000000 <;> by_cases b : -1000000≤r.X1∧r.X1≤1000000 <;> by_cases d : -1000000≤r.Y0∧r.Y0≤1000000 <;> by_cases a : -1000000≤r.Y1∧r.Y1≤1000000 <;> simp [f,g,c,b,d,a] <;> omega
def covR (x : Int) (r : qi) : Bool:=decide (r.X0≤x) && decide (x < r.X1)
def ysp (r : qi) : ql:={Lo:=r.Y0,Hi:=r.Y1}
def covS (l : List qi) (x : Int) : List ql:=l.flatMap fun r=>if covR x r = true then [ysp r] else []
def hasR (l : List qi) (x y : Int) : Prop:=∃ r∈l,r.X0≤x∧x < r.X1∧r.Y0≤y∧y < r.Y1
theorem qck {l : List qi} {x : Int} {t : ql} : t∈covS l x↔∃ r∈l,covR x r = true∧t = ysp r:=by
  unfold covS;rw [List.mem_flatMap];constructor
  · rintro ⟨r,a,h⟩;split at h
    · rename_i b;simp only [List.mem_singleton] at h;exact ⟨r,a,b,h⟩
    · cases h
  · rintro ⟨r,a,b,rfl⟩;exact ⟨r,a,by simp [b]⟩
theorem Uv {l : List qi} {x y : Int} : has (covS l x) y↔hasR l x y:=by
  unfold has hasR;constructor
  · rintro ⟨t,h,c,d⟩;obtain ⟨r,a,b,rfl⟩:=qck.1 h;simp only [covR,Bool.and_eq_true,decide_eq_true_eq] at b;exact ⟨r,a,b.1,b.2,c,d⟩
  · rintro ⟨r,a,c,d,g,f⟩;exact ⟨ysp r,qck.2 ⟨r,a,by simp [covR,c,d],rfl⟩,g,f⟩
theorem Uk (l : List qi) (x : Int) : (covS l x).length≤l.length:=by
  unfold covS
  induction l with
  | nil=>simp
  | cons r l ih=>
    simp only [List.flatMap_cons,List.length_append,List.length_cons];have : (if covR x r = true then [ysp r] else []).length≤1:=by split <;> simp
    omega
theorem qj4 {l : List qi} (h : ∀ r∈l,vR r) (x : Int) : ∀ t∈covS l x,vld t:=by
  intro t d;obtain ⟨r,a,_,rfl⟩:=qck.1 d;obtain ⟨_,f,_,_,_,_,c,_,_,b⟩:=h r a;exact ⟨f,c,b⟩
def xsOf (l : List qi) : List Int:=l.flatMap fun r=>[r.X0,r.X1]
def ysOf (l : List qi) : List Int:=l.flatMap fun r=>[r.Y0,r.Y1]
theorem U5 (l : List qi) : (xsOf l).length = 2 * l.length:=by
  unfold xsOf;induction l with
  | nil=>rfl
  | cons r l ih=>simp only [List.flatMap_cons,List.length_append,List.length_cons,List.length_nil];omega
theorem qbo (l : List qi) : (ysOf l).length = 2 * l.length:=by
  unfold ysOf;induction l with
  | nil=>rfl
  | cons r l ih=>simp only [List.flatMap_cons,List.length_append,List.length_cons,List.length_nil];omega
theorem qjc {l : List qi} {x y : Int} (h : y∈ends (covS l x)) : y∈ysOf l:=by
  obtain ⟨t,b,h⟩:=q95.1 h;obtain ⟨r,a,_,rfl⟩:=qck.1 b;unfold ysOf;rw [List.mem_flatMap];exact ⟨r,a,by rcases h with h | h <;> simp [h,ysp]⟩
noncomputable def Qw (l : List Int) : List Int:=(U0 l).getD []
theorem Zt {l : List Int} (a : l.length≤1000000) : U0 l = some (Qw l)∧Z2 l (Qw l)∧(Qw l).length≤l.length:=by
  obtain ⟨t,c,d,b⟩:=qnx l a;unfold Qw;rw [c];exact ⟨rfl,d,b⟩
noncomputable def secJ (kind : Int) (p q : List qi) (x : Int) : List ql:=Jb kind (covS p x) (covS q x)
theorem qdb (kind : Int) {p q : List qi} (h : p.length + q.length≤100000) (x : Int) : (secJ kind p q x).length≤2 * (p.length + q.length):=by
  have a:=Uk p x;have b:=Uk q x;have:=(q5g kind (covS p x) (covS q x) q6 q6).2.len;unfold secJ;omega
noncomputable def mrg (kind : Int) (p q : List qi) : Mg ql qi:=Qy putR Qu (Yc (Qw (xsOf p ++ xsOf q)) (secJ kind p q))
noncomputable def mrgR (kind : Int) (p q : List qi) : List qi:=(mrg kind p q).flat putR
theorem q8q {p q : List qi} (h : p.length + q.length≤490) : U0 (xsOf p ++ xsOf q) = some (Qw (xsOf p ++ xsOf q))∧Z2 (xsOf p ++ xsOf q) (Qw (xsOf p ++ xsOf q))∧(Qw (xsOf p ++ xsOf q)).length≤2 * (p.length + q.length):=by
  have d:=U5 p;have f:=U5 q;obtain ⟨a,b,c⟩:=Zt (l:=xsOf p ++ xsOf q) (by simp;omega);exact ⟨a,b,by simp at c;omega⟩
theorem qf5 {p q : List qi} (h : p.length + q.length≤490) : U0 (ysOf p ++ ysOf q) = some (Qw (ysOf p ++ ysOf q))∧Z2 (ysOf p ++ ysOf q) (Qw (ysOf p ++ ysOf q))∧(Qw (ysOf p ++ ysOf q)).length≤2 * (p.length + q.length):=by
  have d:=qbo p;have f:=qbo q;obtain ⟨a,b,c⟩:=Zt (l:=ysOf p ++ ysOf q) (by simp;omega);exact ⟨a,b,by simp at c;omega⟩
theorem qlc (kind : Int) {p q : List qi} (h : p.length + q.length≤490) (i : Nat) :
    ((Qy putR Qu ((Yc (Qw (xsOf p ++ xsOf q)) (secJ kind p q)).take i)).flat putR).length≤980 * 980:=by
  have f:=q3j putR (s0:=Qu) (M:=980) (steps:=(Yc (Qw (xsOf p ++ xsOf q)) (secJ kind p q)).take i) (fun t a=>by
    have:=qdy (M:=2 * (p.length + q.length)) (fun x=>qdb kind q6 x) t (List.mem_of_mem_take a)
    omega)
  have b : ((Yc (Qw (xsOf p ++ xsOf q)) (secJ kind p q)).take i).length≤980:=by
    have:=(q8q h).2.2;rw [List.length_take,q24];omega
  have d : (Qu.flat putR : List qi).length = 0:=rfl;have c : ((Yc (Qw (xsOf p ++ xsOf q)) (secJ kind p q)).take i).length * 980≤980 * 980:=Nat.mul_le_mul_right _ b;omega
theorem qso (l : List qi) (hl : l.length≤400) :
    (((idx [l] 0).bind fun j=>(loop (J4 j) (0,[])).bind fun t=>some t).bind fun f=>(U3 f).bind fun c=>(K3 c.length f.length).bind fun n=>(q10 c).bind fun b=>(K3 b.2.length c.length).bind fun p=>(q14 b.2.length b.1).bind fun q=>some ((b.2.drop b.1.1).take b.1.2)) = some (Qw (xsOf l)):=by
  have v : idx [l] 0 = some l:=rfl
  have e1 : loop (J4 l) (0,[]) = some (xsOf l):=by
    have:=Jr l q6 (fun r=>[r.X0,r.X1]) [] (fun o=>o) (J4 l) (fun k h o z=>by
      have h8 : o.length = 2 * k:=by rw [z,List.nil_append];have:=U5 (l.take k);rw [List.length_take,Nat.min_eq_left q6] at this;exact this
      simp only [J4,dlt h,qy,Qs h,qj,w64s h q6];rw [Y4 (by simp;omega)]
      rfl) (fun o=>by simp only [J4,dnl,qx])
    rw [List.nil_append] at this;exact this
  have hx:=U5 l;obtain ⟨ys,y,m,u⟩:=qnv (xsOf l) q6;have g : ys.length = (xsOf l).length:=m.length_eq;obtain ⟨w,a,c1,c2,c3,c4⟩:=qiz u q6;obtain ⟨_,s,_⟩:=Zt (l:=xsOf l) q6
  have d : a.take w = Qw (xsOf l):=by
    refine qnw (l:=xsOf l) ⟨c4.1,fun x=>?_⟩ s;rw [c4.2 x];exact m.mem_iff
  simp only [v,qj,e1,y,K3,g,if_true,c1,c2,q14];rw [qq q6];simp only [qj,List.drop_zero,d]
theorem qfx (l : List qi) (g : l.length≤400) (x : Int) : loop (Uh l x) (0,[]) = some (covS l x):=by
  have:=Jr l q6 (fun r=>if covR x r = true then [ysp r] else []) [] (fun o=>o) (Uh l x) (fun k a o d=>by
    have f : o.length≤k:=by rw [d,List.nil_append];have:=Uk (l.take k) x;rw [List.length_take,Nat.min_eq_left q6] at this;exact this
    simp only [Uh,dlt a,qy,Qs a,qj,w64s a q6];by_cases b : l[k].X0≤x
    · by_cases c : x < l[k].X1
      · simp only [b,c,decide_true,qy,qj,covR,Bool.and_self,if_true];rw [Y4 (by simp;omega)];rfl
      · simp only [b,c,decide_true,decide_false,qy,qx,qj,covR,Bool.and_false,if_false,Bool.false_eq_true,List.append_nil]
    · simp only [b,decide_false,qx,qj,covR,Bool.false_and,if_false,Bool.false_eq_true,List.append_nil]) (fun o=>by simp only [Uh,dnl,qx])
  rw [List.nil_append] at this;exact this
theorem qkz (l : List qi) (v : l.length≤400) (w : ∀ r∈l,vR r) : q6m l = some (if 400 < (mrgR 2 l []).length then ([],4) else (mrgR 2 l [],0)):=by
  unfold q6m;rw [qso l v];simp only [qj];have c : Qw (xsOf l ++ xsOf []) = Qw (xsOf l):=by simp [xsOf]
  obtain ⟨_,o,a⟩:=q8q (p:=l) (q:=[]) (by simp;omega);have g:=fun i=>qlc 2 (p:=l) (q:=[]) (by simp;omega) i;rw [c] at o a;have a : (Qw (xsOf l)).length≤2 * l.length:=by simpa using a
  have d : loop (q2x (Qw (xsOf l)) l) (1,[],0,0,[]) = some ((mrg 2 l []).sec,((mrg 2 l []).done.length : Int),(mrg 2 l []).hi,mrgR 2 l []):=by
    unfold mrgR mrg;rw [c] at g ⊢;generalize j : Yc (Qw (xsOf l)) (secJ 2 l []) = steps at g ⊢;have x : steps.length = (Qw (xsOf l)).length - 1:=by rw [← j];exact q24 _ _
    have h : Qy putR Qu (steps.take steps.length) = Qy putR Qu steps:=by rw [List.take_length]
    have key:=Z8 (f:=q2x (Qw (xsOf l)) l) (fun k=>(((k + 1 : Nat) : Int),(Qy putR Qu (steps.take k)).sec,((Qy putR Qu (steps.take k)).done.length : Int),(Qy putR Qu (steps.take k)).hi,(Qy putR Qu (steps.take k)).flat putR))
      steps.length ((Qy putR Qu steps).sec,((Qy putR Qu steps).done.length : Int),(Qy putR Qu steps).hi,(Qy putR Qu steps).flat putR) (fun k s=>by
        have b : k + 1 < (Qw (xsOf l)).length:=by omega
        have y : steps[k] = ((Qw (xsOf l))[k],(Qw (xsOf l))[k + 1],secJ 2 l [] (Qw (xsOf l))[k]):=by
          subst j;exact q39 s b
        have z : idx (Qw (xsOf l)) (w64 (((k + 1 : Nat) : Int) - 1)) = some (Qw (xsOf l))[k]:=by rw [Qk q6];exact J1 q6 q6
        have aa:=Uk l (Qw (xsOf l))[k]
        have n : q7z (covS l (Qw (xsOf l))[k]) = some (secJ 2 l [] (Qw (xsOf l))[k],0):=by
          rw [qsp];unfold qfy;rw [qp q6,qq (qj4 w _)];rfl
        have m:=qdb 2 (p:=l) (q:=[]) (by simp;omega) (Qw (xsOf l))[k];have u:=g k;have hb:=qi9 (Qy putR Qu (steps.take k)) (Qw (xsOf l))[k] (Qw (xsOf l))[k + 1] (secJ 2 l [] (Qw (xsOf l))[k]) (by simp at m;omega);rw [q1c putR s,y];simp only [q2x,dlt b,qy,z,Qs b,qj,show idx [l] 0 = some l from rfl,qfx l v,n,hb,Bool.not_true,qx]
        rw [w64s b q6]) (by
        rw [h];by_cases h0 : (Qw (xsOf l)).length = 0
        · have : decide (((steps.length + 1 : Nat) : Int) < ((Qw (xsOf l)).length : Int)) = false:=Q6 q6;simp only [q2x,this,qx]
        · have : decide (((steps.length + 1 : Nat) : Int) < ((Qw (xsOf l)).length : Int)) = false:=Q6 q6
          simp only [q2x,this,qx]) (Nat.zero_le _)
    exact key
  rw [d];simp only [qj];by_cases t : 400 < (mrgR 2 l []).length
  · rw [Q7 (by omega : ((mrgR 2 l []).length : Int) > 400),qq t];rfl
  · rw [Q6 (by omega : ¬ ((mrgR 2 l []).length : Int) > 400),qp t];rfl
end Go.Sh
namespace Go.Sh
open Go Go.Am
theorem qv8 {p q : List qi} (h : p.length + q.length≤490) : q9f p q = some (Qw (xsOf p ++ xsOf q)):=by
  have f : loop (q3x p) (0,[]) = some (xsOf p):=by
    have:=Jr p q6 (fun r=>[r.X0,r.X1]) [] (fun o=>o) (q3x p) (fun k a o b=>by
      have c : o.length = 2 * k:=by rw [b,List.nil_append];have:=U5 (p.take k);rw [List.length_take,Nat.min_eq_left q6] at this;exact this
      simp only [q3x,dlt a,qy,Qs a,qj,w64s a q6];rw [Y4 (by simp;omega)]
      rfl) (fun o=>by simp only [q3x,dnl,qx])
    rw [List.nil_append] at this;exact this
  have d : loop (q3y q) (0,xsOf p) = some (xsOf p ++ xsOf q):=by
    have hp:=U5 p
    exact Jr q q6 (fun r=>[r.X0,r.X1]) (xsOf p) (fun o=>o) (q3y q) (fun k a o b=>by
      have c : o.length = 2 * p.length + 2 * k:=by
        rw [b,List.length_append,hp];have:=U5 (q.take k);rw [List.length_take,Nat.min_eq_left q6] at this;unfold xsOf at this;omega
      simp only [q3y,dlt a,qy,Qs a,qj,w64s a q6];rw [Y4 (by simp;omega)]
      rfl) (fun o=>by simp only [q3y,dnl,qx])
  unfold q9f;simp only [f,d,qj,(q8q h).1]
theorem qva {p q : List qi} (h : p.length + q.length≤490) : q9g p q = some (Qw (ysOf p ++ ysOf q)):=by
  have f : loop (q3z p) (0,[]) = some (ysOf p):=by
    have:=Jr p q6 (fun r=>[r.Y0,r.Y1]) [] (fun o=>o) (q3z p) (fun k a o b=>by
      have c : o.length = 2 * k:=by rw [b,List.nil_append];have:=qbo (p.take k);rw [List.length_take,Nat.min_eq_left q6] at this;exact this
      simp only [q3z,dlt a,qy,Qs a,qj,w64s a q6];rw [Y4 (by simp;omega)]
      rfl) (fun o=>by simp only [q3z,dnl,qx])
    rw [List.nil_append] at this;exact this
  have d : loop (q40 q) (0,ysOf p) = some (ysOf p ++ ysOf q):=by
    have hp:=qbo p
    exact Jr q q6 (fun r=>[r.Y0,r.Y1]) (ysOf p) (fun o=>o) (q40 q) (fun k a o b=>by
      have c : o.length = 2 * p.length + 2 * k:=by
        rw [b,List.length_append,hp];have:=qbo (q.take k);rw [List.length_take,Nat.min_eq_left q6] at this;unfold ysOf at this;omega
      simp only [q40,dlt a,qy,Qs a,qj,w64s a q6];rw [Y4 (by simp;omega)]
      rfl) (fun o=>by simp only [q40,dnl,qx])
  unfold q9g;simp only [f,d,qj,(qf5 h).1]
open Classical in
theorem qm3 (l : List qi) (x y : Int) (s : l.length≤1000000) : q5t l x y = some (decide (hasR l x y)):=by
  let c : qi→Bool:=fun r=>decide (r.X0≤x) && (decide (x < r.X1) && (decide (r.Y0≤y) && decide (y < r.Y1)))
  have hs : ∀ (k : Nat) (h : k < l.length),q2s l x y (k : Int) = some (if c l[k] = true then .inr (.inr true) else .inl ((k + 1 : Nat) : Int)):=by
    intro k h;simp only [q2s,dlt h,qy,Qs h,qj,w64s h s,c];by_cases d : l[k].X0≤x <;> by_cases b : x < l[k].X1 <;> by_cases n : l[k].Y0≤y <;> by_cases m : y < l[k].Y1 <;> simp [d,b,n,m]
  have hd : q2s l x y (l.length : Int) = some (.inr (.inl ())):=by simp only [q2s,dnl,qx]
  unfold q5t;rcases Zd l c (fun _ _=>true) () (q2s l x y) hs hd with ⟨d,b⟩ | ⟨k,p,a,_,b⟩
  · rw [b]
    have : ¬ hasR l x y:=by
      rintro ⟨r,j,q,f,g,o⟩;have:=d r j;simp [c,q,f,g,o] at this
    simp [this]
  · rw [b]
    have : hasR l x y:=by
      simp only [c,Bool.and_eq_true,decide_eq_true_eq] at a;exact ⟨l[k],Ki p,a.1,a.2.1,a.2.2.1,a.2.2.2⟩
    simp [this]
theorem qfp {kind : Int} {a b : Prop} (h : Ky kind a b) : a∨b:=by
  rcases h with ⟨_,h,_⟩ | ⟨_,h⟩ | ⟨_,_,h,_⟩
  · exact .inl h
  · exact h
  · exact .inl h
theorem qfo {kind : Int} {a b a' c : Prop} (f : a↔a') (d : b↔c) : Ky kind a b↔Ky kind a' c:=by
  unfold Ky;rw [f,d]
open Classical in
theorem qpg (kind : Int) {p q : List qi} (h : p.length + q.length≤490) (x : Int) :
    q3r (Qw (ysOf p ++ ysOf q)) ((Qw (ysOf p ++ ysOf q)).map fun y=>decide (Ky kind (hasR p x y) (hasR q x y))) = some (secJ kind p q x):=by
  obtain ⟨_,a,g⟩:=qf5 h;generalize Qw (ysOf p ++ ysOf q) = ys at a g ⊢;obtain ⟨c,o,l⟩:=qih ys (ys.map fun y=>decide (Ky kind (hasR p x y) (hasR q x y))) a.1 q6 qf;rw [o];have s:=Uk p x;have r:=Uk q x;have m:=(q5g kind (covS p x) (covS q x) q6 q6).2;have mp : ∀ z∈ends (covS p x),z∈ys:=fun z j=>(a.2 z).2 (List.mem_append.2 (.inl (qjc j)));have mq : ∀ z∈ends (covS q x),z∈ys:=fun z j=>(a.2 z).2 (List.mem_append.2 (.inr (qjc j)));congr 1;refine q54 l.can m.can fun z=>?_;unfold secJ;rw [l.pts z,m.pts z];constructor
  · rintro ⟨i,hi,n,_,f,d,b⟩;simp only [List.getElem_map,decide_eq_true_eq] at f;refine (qfo ?_ ?_).2 f
    · rw [q30 a.1 mp hi d b,Uv]
    · rw [q30 a.1 mq hi d b,Uv]
  · intro k
    have : ∃ i,∃ (h : i + 1 < ys.length),ys[i]≤z∧z < ys[i + 1]:=by
      rcases qfp k with h | h
      · exact qcc a.1 mp h
      · exact qcc a.1 mq h
    obtain ⟨i,hi,d,b⟩:=this;refine ⟨i,hi,by simp;omega,q6,?_,d,b⟩;simp only [List.getElem_map,decide_eq_true_eq];refine (qfo ?_ ?_).1 k
    · rw [q30 a.1 mp hi d b,Uv]
    · rw [q30 a.1 mq hi d b,Uv]
open Classical in
theorem qs9 (kind : Int) {p q : List qi} (h : p.length + q.length≤490) (ys xs : List Int) (d : ys.length≤1000000) (i : Nat) (hi : i < xs.length) (a : List ql × Int × Int × List qi) (c : a.2.2.1 = i) :
    loop (q3v ys xs a p q kind) (0,[]) = some (ys.map fun y=>decide (Ky kind (hasR p xs[i] y) (hasR q xs[i] y))):=by
  have:=q5i ys (fun y=>decide (Ky kind (hasR p xs[i] y) (hasR q xs[i] y))) [] (fun o=>o) (q3v ys xs a p q kind) (fun k b o f=>by
    simp only [q3v,dlt b,qy,c,Qs b,Qs hi,qj,qm3 p _ _ q6,qm3 q _ _ q6,qkd,w64s b d];rw [Y4 (by simp at f ⊢;omega)]
    rfl) (fun o=>by simp only [q3v,dnl,qx])
  rw [List.nil_append] at this;exact this
theorem qsa (kind : Int) {p q : List qi} (h : p.length + q.length≤490) {xs : List Int} (hx : xs.length≤1000000) {i : Nat} (hi : i + 1 < xs.length) (s : Mg ql qi) (hl : (s.flat putR).length + (secJ kind p q xs[i]).length≤1000000)
    (h0 : i = 0→s.sec = []) (h1 : 0 < i→s.hi = xs[i]) :
    q2t xs (Qw (ysOf p ++ ysOf q)) p q kind (s.sec,(s.done.length : Int),(i : Int),s.flat putR) =
      some (.inl ((addM putR s xs[i] xs[i + 1] (secJ kind p q xs[i])).sec,((addM putR s xs[i] xs[i + 1] (secJ kind p q xs[i])).done.length : Int),((i + 1 : Nat) : Int),(addM putR s xs[i] xs[i + 1] (secJ kind p q xs[i])).flat putR)):=by
  have f : i < xs.length:=by omega
  have x : w64 ((i : Int) + 1) = ((i + 1 : Nat) : Int):=w64s f hx;have hy:=(qf5 h).2.2;have ac : (s.flat putR).length = s.done.length + s.sec.length:=by simp [Mg.flat]
  have r:=qs9 kind h (Qw (ysOf p ++ ysOf q)) xs q6 i f (s.sec,(s.done.length : Int),(i : Int),s.flat putR) rfl;unfold q2t;simp only [x,dlt hi,qy,r,qj,qpg kind h];generalize hc : secJ kind p q xs[i] = c at hl ⊢;by_cases a : 0 < i∧c = s.sec
  · obtain ⟨d,g⟩:=a;have hb : decide ((i : Int) > 0) = true:=Q7 q6
    have b:=qc9 (fun v : qi=>({X0:=v.X0,Y0:=v.Y0,X1:=xs[i + 1],Y1:=v.Y1} : qi)) s.done (s.sec.map (putR s.lo s.hi)) (by simp;omega) (q3w xs (s.sec,(s.done.length : Int),(i : Int),s.flat putR)) (fun k o j ho=>by
      have h5 : (s.done ++ s.sec.map (putR s.lo s.hi)).length = (s.flat putR).length:=rfl
      simp only [q3w,dlt j,qy,Qs j,Qs hi,x,qj,w64s j q6,Int.toNat_natCast]) (fun o=>by simp only [q3w,dnl,qx])
    have u : q5s c s.sec = some true:=by rw [qn0 _ _ q6];simp [g]
    have b : loop (q3w xs (s.sec,(s.done.length : Int),(i : Int),s.flat putR)) ((s.done.length : Int),s.flat putR) = _:=b;simp only [hb,qy,u,qj,b];rcases q17 putR s xs[i] xs[i + 1] c with ⟨_,_,_,l⟩ | ⟨h3,l⟩
    · rw [l];simp only [Mg.flat,List.map_map];rfl
    · have t : c = []:=Classical.byContradiction fun hn=>h3 ⟨hn,g,h1 d⟩;rw [l];simp [Mg.flat,← g,t]
  · have n : (cond (decide ((i : Int) > 0)) ((q5s c s.sec).bind fun m=>some m) (some false)) = some false:=by
      by_cases d : 0 < i
      · have hb : decide ((i : Int) > 0) = true:=Q7 q6;have w : c≠s.sec:=fun h=>a ⟨d,h⟩;rw [hb,qy,qn0 _ _ q6];simp [w]
      · have hb : decide ((i : Int) > 0) = false:=Q6 q6;rw [hb,qx]
    have y:=q5i c (putR xs[i] xs[i + 1]) (s.flat putR) (fun o=>(c,((s.flat putR).length : Int),o)) (q5u c xs (s.sec,(s.done.length : Int),(i : Int),s.flat putR)) (fun k j o ho=>by
      simp only [q5u,dlt j,qy,Qs j,Qs f,Qs hi,x,qj,w64s j q6];rw [Y4 (by simp;omega)]
      rfl) (fun o=>by simp only [q5u,dnl,qx])
    have l : addM putR s xs[i] xs[i + 1] c = ⟨s.flat putR,c,xs[i],xs[i + 1]⟩:=by
      rcases q17 putR s xs[i] xs[i + 1] c with ⟨g1,z,_,_⟩ | ⟨_,l⟩
      · refine absurd ?_ a;refine ⟨Nat.pos_of_ne_zero fun h=>g1 ?_,z⟩;rw [z,h0 h]
      · exact l
    rw [l];simp only [n,qj,qx,y];simp [Mg.flat]
theorem q5v (kind : Int) {p q : List qi} (h : p.length + q.length≤490) : Jf kind p q = some (mrgR kind p q):=by
  unfold Jf;rw [qv8 h,qva h];simp only [qj];obtain ⟨_,g,d⟩:=q8q h;have b:=fun i=>qlc kind h i;unfold mrgR mrg;generalize Qw (xsOf p ++ xsOf q) = xs at g d b ⊢;generalize a : Yc xs (secJ kind p q) = steps at b ⊢;have s : steps.length = xs.length - 1:=by rw [← a];exact q24 _ _
  have key:=Z8 (f:=q2t xs (Qw (ysOf p ++ ysOf q)) p q kind) (fun k=>((Qy putR Qu (steps.take k)).sec,((Qy putR Qu (steps.take k)).done.length : Int),(k : Int),(Qy putR Qu (steps.take k)).flat putR))
    steps.length ((Qy putR Qu steps).flat putR) (fun k j=>by
      have c : k + 1 < xs.length:=by omega
      have t : steps[k] = (xs[k],xs[k + 1],secJ kind p q xs[k]):=by subst a;exact q39 j c
      have o:=qdb kind (p:=p) (q:=q) q6 xs[k];have n:=b k
      have:=qsa kind h (xs:=xs) q6 c (Qy putR Qu (steps.take k)) q6 (fun r=>by subst r;rfl) (fun l=>by
        obtain ⟨m,rfl⟩ : ∃ m,k = m + 1:=⟨k - 1,q6⟩
        rw [q1c putR q6,qec];subst a
        rw [q39 q6 q6])
      rw [this,q1c putR j,t]) (by
      rw [List.take_length]
      have hb : decide (w64 ((steps.length : Int) + 1) < (xs.length : Int)) = false:=by
        rw [Qk q6];exact Q6 q6
      unfold q2t
      simp only [hb,qx]) (Nat.zero_le _)
  have key : loop (q2t xs (Qw (ysOf p ++ ysOf q)) p q kind) ([],0,0,[]) = some ((Qy putR Qu steps).flat putR):=key;rw [key];rfl
end Go.Sh
namespace Go.Sh
open Go Go.Am
noncomputable def Yl (l : List qi) : Int:=if 400 < l.length then 4 else if ∀ r∈l,vR r then (if mrgR 2 l [] = l then 0 else 8) else 8
theorem qq5 {l : List qi} (h : Yl l = 0) : l.length≤400∧(∀ r∈l,vR r)∧mrgR 2 l [] = l:=by
  unfold Yl at h;split at h
  · omega
  · split at h
    · split at h
      · rename_i a b c;exact ⟨q6,b,c⟩
      · omega
    · omega
theorem qw3 (l : List qi) (m : l.length≤1000000) : q9y l (fun a=>q2u a) = some (decide (¬ ∀ r∈l,vR r)):=by
  have hs : ∀ (k : Nat) (h : k < l.length),q4g l (fun a=>q2u a) (k : Int) = some (if (fun r=>!decide (vR r)) l[k] = true then .inr (.inr (k : Int)) else .inl ((k + 1 : Nat) : Int)):=by
    intro k h;simp only [q4g,dlt h,qy,Qs h,qj,w64s h m,q2u,qoh];by_cases c : vR l[k] <;> simp [c]
  have hd : q4g l (fun a=>q2u a) (l.length : Int) = some (.inr (.inl ())):=by simp only [q4g,dnl,qx]
  unfold q9y qdo;rcases Zd l (fun r=>!decide (vR r)) (fun k _=>(k : Int)) () _ hs hd with ⟨j,b⟩ | ⟨k,f,g,_,b⟩
  · rw [b];have : ∀ r∈l,vR r:=fun r d=>by simpa using j r d
    simp [];omega
  · rw [b];have : ¬ ∀ r∈l,vR r:=fun h=>by simp [h _ (Ki f)] at g
    simp only [qj];rw [Q7 this,Q7 q6]
theorem qvx (l : List qi) : q6h l = some (Yl l):=by
  unfold q6h Yl;by_cases d : 400 < l.length
  · rw [Q7 (by omega : (l.length : Int) > 400),qy,qq d]
  rw [Q6 (by omega : ¬ (l.length : Int) > 400),qx,qp d,qw3 l q6,qj];by_cases a : ∀ r∈l,vR r
  · rw [Q6 (fun h=>h a),qx,qkz l q6 a,qq a,qj];by_cases b : 400 < (mrgR 2 l []).length
    · have c : mrgR 2 l []≠l:=fun h=>by rw [h] at b;exact d b
      rw [qq b,qp c];rfl
    · rw [qp b];simp only [qf8 (mrgR 2 l []) l q6];by_cases f : mrgR 2 l [] = l <;> simp [f]
  · rw [Q7 a,qy,qp a]
def putB (a b : Int) (r : qi) : qg:={Lo:={X:=r.X0,Y:=r.Y0,Z:=a},Hi:={X:=r.X1,Y:=r.Y1,Z:=b}}
def qjn (z : Int) : Prop:=-1000000≤z∧z≤1000000
instance (z : Int) : Decidable (qjn z):=by unfold qjn;infer_instance
end Go.Sh
namespace Go.Sh
open Go Go.Am
def covB (z : Int) (b : qg) : Bool:=decide (b.Lo.Z≤z) && decide (z < b.Hi.Z)
def Jh (b : qg) : qi:={X0:=b.Lo.X,Y0:=b.Lo.Y,X1:=b.Hi.X,Y1:=b.Hi.Y}
def atB (l : List qg) (z : Int) : List qi:=l.flatMap fun b=>if covB z b = true then [Jh b] else []
theorem Za (l : List qg) (x : Int) : (atB l x).length≤l.length:=by
  unfold atB
  induction l with
  | nil=>simp
  | cons r l ih=>
    simp only [List.flatMap_cons,List.length_append,List.length_cons];have : (if covB x r = true then [Jh r] else []).length≤1:=by split <;> simp
    omega
theorem qcy (l : List qg) (f : l.length≤1000000) (z : Int) : U1 l z = some (atB l z):=by
  have:=Jr l f (fun b=>if covB z b = true then [Jh b] else []) [] (fun o=>o) (q61 l z) (fun k a o g=>by
    have h : o.length≤k:=by rw [g,List.nil_append];have:=Za (l.take k) z;rw [List.length_take,Nat.min_eq_left q6] at this;exact this
    simp only [q61,dlt a,qy,Qs a,qj,w64s a f];by_cases c : l[k].Lo.Z≤z
    · by_cases d : z < l[k].Hi.Z
      · simp only [c,d,decide_true,qy,qj,covB,Bool.and_self,if_true];rw [Y4 (by simp;omega)];rfl
      · simp only [c,d,decide_true,decide_false,qy,qx,qj,covB,Bool.and_false,if_false,Bool.false_eq_true,List.append_nil]
    · simp only [c,decide_false,qx,qj,covB,Bool.false_and,if_false,Bool.false_eq_true,List.append_nil]) (fun o=>by simp only [q61,dnl,qx])
  rw [List.nil_append] at this;unfold U1;rw [this];rfl
def zsOf (l : List qg) : List Int:=l.flatMap fun b=>[b.Lo.Z,b.Hi.Z]
theorem Yz (l : List qg) : (zsOf l).length = 2 * l.length:=by
  unfold zsOf;induction l with
  | nil=>rfl
  | cons r l ih=>simp only [List.flatMap_cons,List.length_append,List.length_cons,List.length_nil];omega
theorem qma {p q : List qg} (h : p.length + q.length≤100000) : q9i p q = some (Qw (zsOf p ++ zsOf q)):=by
  have f : loop (q43 p) (0,[]) = some (zsOf p):=by
    have:=Jr p q6 (fun r=>[r.Lo.Z,r.Hi.Z]) [] (fun o=>o) (q43 p) (fun k a o b=>by
      have c : o.length = 2 * k:=by rw [b,List.nil_append];have:=Yz (p.take k);rw [List.length_take,Nat.min_eq_left q6] at this;exact this
      simp only [q43,dlt a,qy,Qs a,qj,w64s a q6];rw [Y4 (by simp;omega)]
      rfl) (fun o=>by simp only [q43,dnl,qx])
    rw [List.nil_append] at this;exact this
  have d : loop (q44 q) (0,zsOf p) = some (zsOf p ++ zsOf q):=by
    have hp:=Yz p
    exact Jr q q6 (fun r=>[r.Lo.Z,r.Hi.Z]) (zsOf p) (fun o=>o) (q44 q) (fun k a o b=>by
      have c : o.length = 2 * p.length + 2 * k:=by
        rw [b,List.length_append,hp];have:=Yz (q.take k);rw [List.length_take,Nat.min_eq_left q6] at this;unfold zsOf at this;omega
      simp only [q44,dlt a,qy,Qs a,qj,w64s a q6];rw [Y4 (by simp;omega)]
      rfl) (fun o=>by simp only [q44,dnl,qx])
  have g:=Yz p;have j:=Yz q;unfold q9i;simp only [f,d,qj,(Zt (l:=zsOf p ++ zsOf q) (by simp;omega)).1]
structure q8e (kind : Int) (p q : List qg) (z : Int) : Prop where
  n : (atB p z).length + (atB q z).length≤490
  m : (mrgR kind (atB p z) (atB q z)).length≤400
  mp : (mrgR 2 (atB p z) []).length≤400
  mq : (mrgR 2 (atB q z) []).length≤400
noncomputable def secB (kind : Int) (p q : List qg) (z : Int) : List qi:=mrgR kind (atB p z) (atB q z)
theorem qkk (kind : Int) {p q : List qg} (h : p.length + q.length≤100000) {xs : List Int} (hx : xs.length≤1000000) {i : Nat} (hi : i + 1 < xs.length) (x : q8e kind p q xs[i]) (s : Mg qi qg) (hl : (s.flat putB).length + 400≤1000000)
    (h0 : i = 0→s.sec = []) (h1 : 0 < i→s.hi = xs[i]) :
    U2 xs p q kind (s.sec,(s.done.length : Int),(i : Int),s.flat putB) =
      some (.inl ((addM putB s xs[i] xs[i + 1] (secB kind p q xs[i])).sec,((addM putB s xs[i] xs[i + 1] (secB kind p q xs[i])).done.length : Int),((i + 1 : Nat) : Int),(addM putB s xs[i] xs[i + 1] (secB kind p q xs[i])).flat putB)):=by
  have f : i < xs.length:=by omega
  have z : w64 ((i : Int) + 1) = ((i + 1 : Nat) : Int):=w64s f hx;have al : (s.flat putB).length = s.done.length + s.sec.length:=by simp [Mg.flat]
  obtain ⟨t,u,ae,ak⟩:=x;have ap : U1 p xs[i] = some (atB p xs[i]):=qcy p q6 _;have aq : U1 q xs[i] = some (atB q xs[i]):=qcy q q6 _;have jj : Jf kind (atB p xs[i]) (atB q xs[i]) = some (secB kind p q xs[i]):=q5v kind t;have jp : Jf 2 (atB p xs[i]) [] = some (mrgR 2 (atB p xs[i]) []):=q5v 2 (by simp;omega);have jq : Jf 2 (atB q xs[i]) [] = some (mrgR 2 (atB q xs[i]) []):=q5v 2 (by simp;omega);have u : (secB kind p q xs[i]).length≤400:=u;have d1 : decide (((secB kind p q xs[i]).length : Int) > 400) = false:=Q6 q6;have d2 : decide (((mrgR 2 (atB p xs[i]) []).length : Int) > 400) = false:=Q6 q6;have d3 : decide (((mrgR 2 (atB q xs[i]) []).length : Int) > 400) = false:=Q6 q6;unfold U2;simp only [z,dlt hi,qy,Qs f,ap,aq,jj,jp,jq,d1,d2,d3,qx,qj];generalize hc : secB kind p q xs[i] = c at u ⊢;by_cases a : 0 < i∧c = s.sec
  · obtain ⟨b,g⟩:=a;have hb : decide ((i : Int) > 0) = true:=Q7 q6
    have d:=qc9 (fun v : qg=>({Lo:=v.Lo,Hi:=({X:=v.Hi.X,Y:=v.Hi.Y,Z:=xs[i + 1]} : Qb)} : qg)) s.done (s.sec.map (putB s.lo s.hi)) (by simp;omega) (q45 xs (s.sec,(s.done.length : Int),(i : Int),s.flat putB)) (fun k o j ho=>by
      have h5 : (s.done ++ s.sec.map (putB s.lo s.hi)).length = (s.flat putB).length:=rfl
      simp only [q45,dlt j,qy,Qs j,Qs hi,z,qj,w64s j q6,Int.toNat_natCast]) (fun o=>by simp only [q45,dnl,qx])
    have w : q5w c s.sec = some true:=by rw [qmz _ _ q6];simp [g]
    have d : loop (q45 xs (s.sec,(s.done.length : Int),(i : Int),s.flat putB)) ((s.done.length : Int),s.flat putB) = _:=d;simp only [hb,qy,w,qj,d];rcases q17 putB s xs[i] xs[i + 1] c with ⟨_,_,_,l⟩ | ⟨h3,l⟩
    · rw [l];simp only [Mg.flat,List.map_map];rfl
    · have n : c = []:=Classical.byContradiction fun t=>h3 ⟨t,g,h1 b⟩;rw [l];simp [Mg.flat,← g,n]
  · have r : (cond (decide ((i : Int) > 0)) ((q5w c s.sec).bind fun m=>some m) (some false)) = some false:=by
      by_cases b : 0 < i
      · have hb : decide ((i : Int) > 0) = true:=Q7 q6;have y : c≠s.sec:=fun h=>a ⟨b,h⟩;rw [hb,qy,qmz _ _ q6];simp [y]
      · have hb : decide ((i : Int) > 0) = false:=Q6 q6;rw [hb,qx]
    have aa:=q5i c (putB xs[i] xs[i + 1]) (s.flat putB) (fun o=>(c,((s.flat putB).length : Int),o)) (q64 c xs (s.sec,(s.done.length : Int),(i : Int),s.flat putB)) (fun k j o ho=>by
      simp only [q64,dlt j,qy,Qs j,Qs f,Qs hi,z,qj,w64s j q6];rw [Y4 (by simp;omega)]
      rfl) (fun o=>by simp only [q64,dnl,qx])
    have l : addM putB s xs[i] xs[i + 1] c = ⟨s.flat putB,c,xs[i],xs[i + 1]⟩:=by
      rcases q17 putB s xs[i] xs[i + 1] c with ⟨g1,g2,_,_⟩ | ⟨_,l⟩
      · refine absurd ?_ a;refine ⟨Nat.pos_of_ne_zero fun h=>g1 ?_,g2⟩;rw [g2,h0 h]
      · exact l
    rw [l];simp only [r,qj,qx,aa];simp [Mg.flat]
noncomputable def mrgB (kind : Int) (p q : List qg) : List qg:=(Qy putB Qu (Yc (Qw (zsOf p ++ zsOf q)) (secB kind p q))).flat putB
theorem qmc (kind : Int) {p q : List qg} (h : p.length + q.length≤100000) (b : ∀ z,q8e kind p q z) (g : (Qw (zsOf p ++ zsOf q)).length≤2000) :
    J3 kind p q = some (mrgB kind p q,decide (((mrgB kind p q).length : Int)≤400)):=by
  unfold J3;rw [qma h];simp only [qj];unfold mrgB;generalize Qw (zsOf p ++ zsOf q) = xs at g ⊢;generalize a : Yc xs (secB kind p q) = steps;have s : steps.length = xs.length - 1:=by rw [← a];exact q24 _ _
  have d : ∀ i,((Qy putB Qu (steps.take i)).flat putB).length≤2000 * 400:=fun i=>by
    have h1:=q3j putB (s0:=Qu) (M:=400) (steps:=steps.take i) (fun t r=>by
      subst a
      exact qdy (M:=400) (fun x=>(b x).m) t (List.mem_of_mem_take r))
    have v : (steps.take i).length≤2000:=by rw [List.length_take];omega
    have y : (Qu.flat putB : List qg).length = 0:=rfl;have w : (steps.take i).length * 400≤2000 * 400:=Nat.mul_le_mul_right _ v;omega
  have key:=Z8 (f:=U2 xs p q kind) (fun k=>((Qy putB Qu (steps.take k)).sec,((Qy putB Qu (steps.take k)).done.length : Int),(k : Int),(Qy putB Qu (steps.take k)).flat putB))
    steps.length (.inl ((Qy putB Qu steps).flat putB)) (fun k j=>by
      have c : k + 1 < xs.length:=by omega
      have u : steps[k] = (xs[k],xs[k + 1],secB kind p q xs[k]):=by subst a;exact q39 j c
      have n:=d k
      have:=qkk kind h (xs:=xs) q6 c (b _) (Qy putB Qu (steps.take k)) q6 (fun o=>by subst o;rfl) (fun l=>by
        obtain ⟨m,rfl⟩ : ∃ m,k = m + 1:=⟨k - 1,q6⟩
        rw [q1c putB q6,qec];subst a
        rw [q39 q6 q6])
      rw [this,q1c putB j,u]) (by
      rw [List.take_length]
      have hb : decide (w64 ((steps.length : Int) + 1) < (xs.length : Int)) = false:=by
        rw [Qk q6];exact Q6 q6
      unfold U2
      simp only [hb,qx]) (Nat.zero_le _)
  have key : loop (U2 xs p q kind) ([],0,0,[]) = some (.inl ((Qy putB Qu steps).flat putB)):=key;rw [key];rfl
section
variable {σ β : Type} (put : Int→Int→σ→β)
def Alike (s t : Mg σ β) : Prop:=s = t∨(s.flat put = t.flat put∧s.sec = []∧t.sec = [])
theorem Alike.flat {s t : Mg σ β} (h : Alike put s t) : s.flat put = t.flat put:=by
  rcases h with rfl | h
  · rfl
  · exact h.1
end
section
variable {σ β : Type} [DecidableEq σ] (put : Int→Int→σ→β)
def runM (sec : Int→List σ) : Mg σ β→List Int→Mg σ β
  | s,a::b::r=>runM sec (addM put s a b (sec a)) (b::r)
  | s,_=>s
theorem qjq (sec : Int→List σ) : ∀ (c : List Int) (s : Mg σ β),Qy put s (Yc c sec) = runM put sec s c
  | [],s=>rfl
  | [a],s=>rfl
  | a::b::r,s=>by
    have:=qjq sec (b::r) (addM put s a b (sec a))
    simp only [runM,← this]
    rfl
theorem Alike.add {s t : Mg σ β} (h : Alike put s t) (a b : Int) (c : List σ) : Alike put (addM put s a b c) (addM put t a b c):=by
  rcases h with rfl | ⟨m,n,j⟩
  · exact .inl rfl
  · refine .inl ?_;rcases q17 put s a b c with ⟨o,f,_,_⟩ | ⟨_,d⟩
    · exact absurd (f.trans n) o
    · rcases q17 put t a b c with ⟨l,k,_,_⟩ | ⟨_,g⟩
      · exact absurd (k.trans j) l
      · rw [d,g,m]
end
end Go.Sh
namespace Go.Sh
open Go Go.Am
structure Grp (σ : Type) where
  lo : Int
  hi : Int
  sec : List σ
section
variable {σ β : Type}
def CanG (gs : List (Grp σ)) : Prop:=(∀ g∈gs,g.lo < g.hi∧g.sec≠[])∧gs.Pairwise (fun g h=>g.hi≤h.lo∧(g.hi = h.lo→g.sec≠h.sec))
def secG : List (Grp σ)→Int→List σ
  | [],_=>[]
  | g::r,x=>if g.lo≤x∧x < g.hi then g.sec else secG r x
def Y8 (put : Int→Int→σ→β) (gs : List (Grp σ)) : List β:=gs.flatMap fun g=>g.sec.map (put g.lo g.hi)
theorem qr9 (put : Int→Int→σ→β) (a b : List (Grp σ)) : Y8 put (a ++ b) = Y8 put a ++ Y8 put b:=by simp [Y8]
theorem q2z {y x : Int} : ∀ {r : List (Grp σ)},(∀ h∈r,y≤h.lo)→x < y→secG r x = []
  | [],_,_=>rfl
  | g::r,h,hx=>by
    have:=h g qf
    rw [secG,qp q6]
    exact q2z (fun k a=>h k (by simp [a])) hx
theorem q6s {y x : Int} : ∀ {r : List (Grp σ)},(∀ h∈r,h.hi≤y)→y≤x→secG r x = []
  | [],_,_=>rfl
  | g::r,h,hx=>by
    have:=h g qf
    rw [secG,qp q6]
    exact q6s (fun k a=>h k (by simp [a])) hx
theorem q9t {x : Int} : ∀ {a b : List (Grp σ)},secG a x = []→(∀ g∈a,g.sec≠[])→secG (a ++ b) x = secG b x
  | [],_,_,_=>rfl
  | g::a,b,h,hne=>by
    rw [secG] at h
    split at h
    · exact absurd h (hne g qf)
    · rename_i c
      rw [List.cons_append,secG,qp c]
      exact q9t h fun k d=>hne k (by simp [d])
theorem qh4 {y x : Int} {a b : List (Grp σ)} (hb : ∀ h∈b,y≤h.lo) (c : x < y) : secG (a ++ b) x = secG a x:=by
  induction a with
  | nil=>exact q2z hb c
  | cons g a ih=>simp only [List.cons_append,secG,ih]
theorem CanG.tail {g : Grp σ} {r : List (Grp σ)} (h : CanG (g::r)) : CanG r:=⟨fun k a=>h.1 k (by simp [a]),(List.pairwise_cons.1 h.2).2⟩
theorem CanG.nxt {g : Grp σ} {r : List (Grp σ)} (h : CanG (g::r)) : ∀ k∈r,g.hi≤k.lo∧(g.hi = k.lo→g.sec≠k.sec):=(List.pairwise_cons.1 h.2).1
theorem q2y {g : Grp σ} {r : List (Grp σ)} {x : Int} (a : g.lo≤x) (b : x < g.hi) : secG (g::r) x = g.sec:=by rw [secG,qq ⟨a,b⟩]
theorem qxv {g : Grp σ} {r : List (Grp σ)} (h : CanG (g::r)) : secG (g::r) g.hi≠g.sec:=by
  rw [secG,qp q6]
  cases r with
  | nil=>exact fun e=>(h.1 g qf).2 e.symm
  | cons k r=>
    have d:=h.nxt k qf;have b:=h.tail.1 k qf;by_cases c : g.hi = k.lo
    · rw [q2y q6 q6];exact fun e=>d.2 c e.symm
    · rw [secG,qp q6,q2z (y:=k.hi) (fun m a=>(h.tail.nxt m a).1) q6];exact fun e=>(h.1 g qf).2 e.symm
theorem qeq : ∀ {a b : List (Grp σ)},CanG a→CanG b→(∀ x,secG a x = secG b x)→a = b
  | [],[],_,_,_=>rfl
  | [],g::r,_,hb,h=>by
    have:=h g.lo
    rw [q2y (Int.le_refl _) (hb.1 g qf).1] at this
    exact absurd this.symm (hb.1 g qf).2
  | g::r,[],c,_,h=>by
    have:=h g.lo
    rw [q2y (Int.le_refl _) (c.1 g qf).1] at this
    exact absurd this (c.1 g qf).2
  | g::r,k::s,c,hb,h=>by
    have q:=c.1 g qf
    have t:=hb.1 k qf
    have low : ∀ {g k : Grp σ} {r s : List (Grp σ)},CanG (g::r)→CanG (k::s)→(∀ x,secG (g::r) x = secG (k::s) x)→k.lo≤g.lo:=by
      intro g k r s c hb h;refine Int.not_lt.1 fun j=>?_;have d:=h g.lo;rw [q2y (Int.le_refl _) (c.1 g qf).1,q2z (y:=k.lo) (fun m f=>?_) j] at d
      · exact (c.1 g qf).2 d
      · rcases List.mem_cons.1 f with rfl | f
        · exact Int.le_refl _
        · have:=(hb.nxt m f).1;have:=(hb.1 k qf).1;omega
    have n : g.lo = k.lo:=Int.le_antisymm (low hb c fun x=>(h x).symm) (low c hb h)
    have l : g.sec = k.sec:=by
      have d:=h g.lo
      rwa [q2y (Int.le_refl _) q.1,q2y q6 q6] at d
    have hi : ∀ {g k : Grp σ} {r s : List (Grp σ)},CanG (g::r)→CanG (k::s)→(∀ x,secG (g::r) x = secG (k::s) x)→g.lo = k.lo→g.sec = k.sec→k.hi≤g.hi:=by
      intro g k r s c hb h n l;refine Int.not_lt.1 fun j=>?_;have d:=h g.hi;have:=(c.1 g qf).1;rw [q2y (g:=k) q6 j,← l] at d;exact qxv c d
    have o : g.hi = k.hi:=Int.le_antisymm (hi hb c (fun x=>(h x).symm) n.symm l.symm) (hi c hb h n l)
    have e : g = k:=by cases g;cases k;simp at n l o;simp [n,l,o]
    subst e
    have : r = s:=qeq c.tail hb.tail fun x=>by
      by_cases p : x < g.hi
      · rw [q2z (y:=g.hi) (fun m f=>(c.nxt m f).1) p,q2z (y:=g.hi) (fun m f=>(hb.nxt m f).1) p]
      · have d:=h x
        rwa [secG,secG,qp q6,qp q6] at d
    rw [this]
def curG (s : Mg σ β) : List (Grp σ):=if s.sec = [] then [] else [⟨s.lo,s.hi,s.sec⟩]
def secC (sec : Int→List σ) : List Int→Int→List σ
  | a::b::r,x=>if a≤x∧x < b then sec a else secC sec (b::r) x
  | _,_=>[]
theorem qjo (put : Int→Int→σ→β) (s : Mg σ β) (a : List (Grp σ)) (h : s.done = Y8 put a) : s.flat put = Y8 put (a ++ curG s):=by
  rw [qr9,Mg.flat,h];unfold curG;split
  · rename_i b;simp [b,Y8]
  · simp [Y8]
theorem qcl {s : Mg σ β} {g : Grp σ} (h : g∈curG s) : s.sec≠[]∧g = ⟨s.lo,s.hi,s.sec⟩:=by
  unfold curG at h;split at h
  · cases h
  · rename_i a;exact ⟨a,by simpa using h⟩
theorem qda (sec : Int→List σ) {x : Int} : ∀ {d : List Int},d.Pairwise (· < ·)→
    (∀ a∈d,a≤x→(∀ c∈d,c≤a∨x < c)→sec a = sec x)→((∀ c∈d,x < c)→sec x = [])→((∀ c∈d,c≤x)→sec x = [])→secC sec d x = sec x
  | [],_,_,h2,_=>(h2 qf).symm
  | [a],_,_,h2,h3=>by
    rw [secC]
    · by_cases k : x < a
      · exact (h2 (by simpa using k)).symm
      · exact (h3 (by simpa using k)).symm
    · intro a b r h;simp at h
  | a::b::r,hp,h1,h2,h3=>by
    have p : a < b:=(List.pairwise_cons.1 hp).1 b qf
    have n:=(List.pairwise_cons.1 (List.pairwise_cons.1 hp).2).1
    rw [secC]
    split
    · rename_i k
      refine h1 a qf k.1 fun c f=>?_
      rcases List.mem_cons.1 f with rfl | f
      · exact .inl (Int.le_refl _)
      · rcases List.mem_cons.1 f with rfl | f
        · exact .inr k.2
        · have:=n c f;exact .inr q6
    · rename_i k
      by_cases m : x < a
      · have e : sec x = []:=h2 fun c f=>by
          rcases List.mem_cons.1 f with rfl | f
          · exact m
          · have:=(List.pairwise_cons.1 hp).1 c f;omega
        have:=qda sec (x:=x) (List.pairwise_cons.1 hp).2 (fun a' j l _=>by
          exfalso;have:=(List.pairwise_cons.1 hp).1 a' j;omega) (fun _=>e) (fun _=>e)
        exact this
      · have o : b≤x:=by omega
        exact qda sec (List.pairwise_cons.1 hp).2 (fun a' j l g=>h1 a' (by simp [j]) l fun c f=>by
          rcases List.mem_cons.1 f with rfl | f
          · have:=(List.pairwise_cons.1 hp).1 a' j;exact .inl q6
          · exact g c f) (fun g=>by have:=g b qf;omega) (fun g=>h3 fun c f=>by
          rcases List.mem_cons.1 f with rfl | f
          · omega
          · exact g c f)
variable [DecidableEq σ] (put : Int→Int→σ→β)
structure InvG (s : Mg σ β) (gs : List (Grp σ)) (c : Int) : Prop where
  done : s.done = Y8 put gs
  can : CanG (gs ++ curG s)
  le : ∀ g∈gs ++ curG s,g.hi≤c
  gap : s.sec = []→∀ g∈gs,g.hi = c→False
theorem qs3 {s : Mg σ β} {l : List (Grp σ)} {a b : Int} {c : List σ} (ab : a < b) (hi : InvG put s l a) :
    ∃ r,InvG put (addM put s a b c) r b∧∀ x,secG (r ++ curG (addM put s a b c)) x = if a≤x∧x < b then c else secG (l ++ curG s) x:=by
  rcases q17 put s a b c with ⟨h1,h2,h3,h4⟩ | ⟨h1,h4⟩
  · rw [h4];have hs : s.sec≠[]:=h2 ▸ h1;have c1 : curG s = [⟨s.lo,s.hi,s.sec⟩]:=by unfold curG;rw [qp hs]
    have c2 : curG (⟨s.done,s.sec,s.lo,b⟩ : Mg σ β) = [⟨s.lo,b,s.sec⟩]:=by unfold curG;rw [qp hs]
    have f:=hi.can;rw [c1] at f;have ah : s.lo < s.hi:=(f.1 ⟨s.lo,s.hi,s.sec⟩ qf).1;refine ⟨l,⟨hi.done,?_,?_,fun h=>absurd h hs⟩,?_⟩
    · rw [c2];refine ⟨fun g d=>?_,?_⟩
      · rcases List.mem_append.1 d with d | d
        · exact f.1 g (by simp [d])
        · obtain rfl:=List.mem_singleton.1 d;exact ⟨by simp only;omega,hs⟩
      · have:=List.pairwise_append.1 f.2;refine List.pairwise_append.2 ⟨this.1,qf,fun g d k w=>?_⟩;obtain rfl:=List.mem_singleton.1 w;exact this.2.2 g d ⟨s.lo,s.hi,s.sec⟩ qf
    · rw [c2];intro g d;rcases List.mem_append.1 d with d | d
      · have:=hi.le g (by simp [d]);omega
      · obtain rfl:=List.mem_singleton.1 d;exact Int.le_refl _
    · intro x;rw [c1,c2];have v : ∀ g∈l,g.hi≤s.lo:=fun g d=>((List.pairwise_append.1 f.2).2.2 g d ⟨s.lo,s.hi,s.sec⟩ qf).1;have p : ∀ g∈l,g.sec≠[]:=fun g d=>(f.1 g (by simp [d])).2;by_cases n : x < s.lo
      · rw [qp q6,qh4 (y:=s.lo) qf n,qh4 (y:=s.lo) qf n]
      · have e : secG l x = []:=q6s v q6;rw [q9t e p,q9t e p];simp only [secG];by_cases ad : x < s.hi
        · rw [qq ⟨q6,q6⟩,qp q6,qq ⟨q6,ad⟩]
        · by_cases q : x < b
          · rw [qq ⟨q6,q⟩,qq ⟨q6,q⟩,h2]
          · rw [qp q6,qp q6,qp q6]
  · rw [h4];have hd : s.flat put = Y8 put (l ++ curG s):=qjo put s l hi.done;refine ⟨l ++ curG s,⟨hd,?_,?_,?_⟩,?_⟩
    · by_cases m : c = []
      · have : curG (⟨s.flat put,c,a,b⟩ : Mg σ β) = []:=by unfold curG;rw [qq m]
        rw [this,List.append_nil];exact hi.can
      · have : curG (⟨s.flat put,c,a,b⟩ : Mg σ β) = [⟨a,b,c⟩]:=by unfold curG;rw [qp m]
        rw [this];refine ⟨fun g d=>?_,List.pairwise_append.2 ⟨hi.can.2,qf,fun g d k w=>?_⟩⟩
        · rcases List.mem_append.1 d with d | d
          · exact hi.can.1 g d
          · obtain rfl:=List.mem_singleton.1 d;exact ⟨ab,m⟩
        · obtain rfl:=List.mem_singleton.1 w;refine ⟨hi.le g d,fun t o=>?_⟩;rcases List.mem_append.1 d with j | j
          · by_cases hs : s.sec = []
            · exact hi.gap hs g j t
            · have u : (⟨s.lo,s.hi,s.sec⟩ : Grp σ)∈curG s:=by unfold curG;rw [qp hs];simp
              have h6:=((List.pairwise_append.1 hi.can.2).2.2 g j _ u).1;have h7:=(hi.can.1 _ (List.mem_append.2 (.inr u))).1;have h8:=hi.le _ (List.mem_append.2 (.inr u));simp only at t h6 h7 h8;omega
          · obtain ⟨hs,rfl⟩:=qcl j;exact h1 ⟨m,o.symm,t⟩
    · intro g d;rcases List.mem_append.1 d with d | d
      · have:=hi.le g d;omega
      · obtain ⟨_,rfl⟩:=qcl d;exact Int.le_refl _
    · intro m g d t;have:=hi.le g d;omega
    · intro x;by_cases n : a≤x∧x < b
      · rw [qq n,q9t (q6s hi.le n.1) fun g d=>(hi.can.1 g d).2];unfold curG;split
        · rename_i m;simp only at m;rw [m];rfl
        · simp only [secG];rw [qq n]
      · rw [qp n];by_cases z : x < a
        · exact qh4 (y:=a) (fun g d=>by obtain ⟨_,rfl⟩:=qcl d;exact Int.le_refl _) z
        · have e:=q6s (x:=x) hi.le q6;rw [q9t e fun g d=>(hi.can.1 g d).2,e];exact q6s (y:=b) (fun g d=>by obtain ⟨_,rfl⟩:=qcl d;exact Int.le_refl _) q6
theorem qmx (sec : Int→List σ) : ∀ (d : List Int) (c : Int) (s : Mg σ β) (h : List (Grp σ)),(c::d).Pairwise (· < ·)→InvG put s h c→
    ∃ f,(runM put sec s (c::d)).flat put = Y8 put f∧CanG f∧∀ x,secG f x = if x < c then secG (h ++ curG s) x else secC sec (c::d) x
  | [],c,s,h,_,hi=>by
    refine ⟨h ++ curG s,qjo put s h hi.done,hi.can,fun x=>?_⟩
    by_cases k : x < c
    · rw [qq k]
    · rw [qp k];exact q6s hi.le q6
  | b::d,a,s,h,hp,hi=>by
    have m : a < b:=(List.pairwise_cons.1 hp).1 b qf
    obtain ⟨f,n,j⟩:=qs3 (b:=b) (c:=sec a) put m hi
    obtain ⟨l,q,p,o⟩:=qmx sec d b _ f (List.pairwise_cons.1 hp).2 n
    refine ⟨l,q,p,fun x=>?_⟩
    rw [o x]
    by_cases k : x < a
    · rw [qq q6,qq k,j,qp q6]
    · rw [qp k]
      simp only [secC]
      by_cases g : x < b
      · rw [qq g,j,qq ⟨q6,g⟩,qq ⟨q6,g⟩]
      · rw [qp g,qp q6]
theorem ql7 (sec : Int→List σ) {a : List Int} (g : a.Pairwise (· < ·)) :
    ∃ d,(Qy put Qu (Yc a sec)).flat put = Y8 put d∧CanG d∧∀ x,secG d x = secC sec a x:=by
  rw [qjq]
  cases a with
  | nil=>exact ⟨[],rfl,⟨qf,qf⟩,fun x=>rfl⟩
  | cons c a=>
    obtain ⟨d,k,j,h⟩:=qmx put sec a c (Qu : Mg σ β) [] g ⟨rfl,⟨by simp [curG,Qu],by simp [curG,Qu]⟩,by simp [curG,Qu],qf⟩;refine ⟨d,k,j,fun x=>?_⟩;rw [h x];split
    · rename_i f
      have : ∀ (a : List Int) (c : Int),(c::a).Pairwise (· < ·)→x < c→secC sec (c::a) x = []:=by
        intro a
        induction a with
        | nil=>intros;rfl
        | cons b r ih=>
          intro c hp f;rw [secC,qp q6];exact ih b (List.pairwise_cons.1 hp).2 (by have:=(List.pairwise_cons.1 hp).1 b qf;omega)
      rw [this a c g f];rfl
    · rfl
end
end Go.Sh
namespace Go.Sh
open Go Go.Am
section
variable {σ : Type}
theorem qh6 {x : Int} : ∀ (b : List (Grp σ)),secG b x = []∨∃ g∈b,g.lo≤x∧x < g.hi∧secG b x = g.sec
  | []=>.inl rfl
  | g::r=>by
    by_cases a : g.lo≤x∧x < g.hi
    · exact .inr ⟨g,qf,a.1,a.2,by rw [secG,qq a]⟩
    · rw [secG,qp a]
      rcases qh6 r with h | ⟨k,c,h⟩
      · exact .inl h
      · exact .inr ⟨k,by simp [c],h⟩
theorem qh5 : ∀ {b : List (Grp σ)},CanG b→∀ g∈b,∀ x,g.lo≤x→x < g.hi→secG b x = g.sec
  | k::r,h,g,a,x,h1,h2=>by
    rcases List.mem_cons.1 a with rfl | a
    · exact q2y h1 h2
    · have:=(h.nxt g a).1
      rw [secG,qp q6]
      exact qh5 h.tail g a x h1 h2
end
theorem qkl (kind : Int) : Jb kind [] [] = []:=by
  have a:=(q5g kind [] [] qf qf).2;refine q54 a.can ⟨qf,qf⟩ fun x=>?_;rw [a.pts];have:=q1n x;unfold Ky;simp [this]
theorem qql (a b : List qi) (x : Int) : covS (a ++ b) x = covS a x ++ covS b x:=by simp [covS]
theorem qqm (s : List ql) (lo hi x : Int) : covS (s.map (putR lo hi)) x = if lo≤x∧x < hi then s else []:=by
  induction s with
  | nil=>simp [covS]
  | cons t s ih=>
    have e : covS (List.map (putR lo hi) (t::s)) x = (if covR x (putR lo hi t) = true then [t] else []) ++ covS (s.map (putR lo hi)) x:=rfl;rw [e,ih];have : covR x (putR lo hi t) = (decide (lo≤x) && decide (x < hi)):=rfl;rw [this];by_cases a : lo≤x <;> by_cases b : x < hi <;> simp [a,b]
theorem q8p : ∀ {b : List (Grp ql)},CanG b→∀ x,covS (Y8 putR b) x = secG b x
  | [],_,x=>rfl
  | g::r,h,x=>by
    have e : Y8 putR (g::r) = g.sec.map (putR g.lo g.hi) ++ Y8 putR r:=rfl
    rw [e,qql,qqm,q8p h.tail x]
    by_cases a : g.lo≤x∧x < g.hi
    · rw [qq a,secG,qq a,q2z (y:=g.hi) (fun m c=>(h.nxt m c).1) a.2,List.append_nil]
    · rw [qp a,secG,qp a,List.nil_append]
theorem qj2 {l : List qi} {a x : Int} (h : ∀ r∈l,covR a r = covR x r) : covS l a = covS l x:=by
  induction l with
  | nil=>rfl
  | cons r l ih=>
    have e : ∀ y,covS (r::l) y = (if covR y r = true then [ysp r] else []) ++ covS l y:=fun _=>rfl;rw [e,e,h r qf,ih fun k b=>h k (by simp [b])]
theorem qc4 {l : List qi} {x : Int} (h : ∀ r∈l,covR x r = false) : covS l x = []:=by
  induction l with
  | nil=>rfl
  | cons r l ih=>
    have e : covS (r::l) x = (if covR x r = true then [ysp r] else []) ++ covS l x:=rfl;rw [e,h r qf,ih fun k a=>h k (by simp [a])];rfl
theorem q57 {x : Int} {r : qi} : covR x r = true↔r.X0≤x∧x < r.X1:=by simp [covR]
theorem ql5 {p q : List qi} {r : qi} (h : r∈p∨r∈q) : r.X0∈xsOf p ++ xsOf q∧r.X1∈xsOf p ++ xsOf q:=by
  unfold xsOf;simp only [List.mem_append,List.mem_flatMap];rcases h with h | h
  · exact ⟨.inl ⟨r,h,qf⟩,.inl ⟨r,h,qf⟩⟩
  · exact ⟨.inr ⟨r,h,qf⟩,.inr ⟨r,h,qf⟩⟩
theorem qla (kind : Int) {p q : List qi} (h : p.length + q.length≤100000) :
    ∃ f,mrgR kind p q = Y8 putR f∧CanG f∧∀ x,secG f x = secJ kind p q x:=by
  have t:=U5 p;have s:=U5 q;have hs:=(Zt (l:=xsOf p ++ xsOf q) (by simp;omega)).2.1;obtain ⟨f,o,m,n⟩:=ql7 putR (secJ kind p q) hs.1;refine ⟨f,o,m,fun x=>?_⟩;rw [n]
  have g : ∀ r,(r∈p∨r∈q)→r.X0∈Qw (xsOf p ++ xsOf q)∧r.X1∈Qw (xsOf p ++ xsOf q):=fun r b=>
    ⟨(hs.2 _).2 (ql5 b).1,(hs.2 _).2 (ql5 b).2⟩
  refine qda _ hs.1 (fun a _ k c=>?_) (fun c=>?_) (fun c=>?_)
  · have d : ∀ r,(r∈p∨r∈q)→covR a r = covR x r:=fun r b=>by
      have j:=c _ (g r b).1;have u:=c _ (g r b).2;rw [Bool.eq_iff_iff,q57,q57];omega
    unfold secJ;rw [qj2 fun r b=>d r (.inl b),qj2 fun r b=>d r (.inr b)]
  · have d : ∀ r,(r∈p∨r∈q)→covR x r = false:=fun r b=>by
      have j:=c _ (g r b).1;rw [← Bool.not_eq_true,q57];omega
    unfold secJ;rw [qc4 fun r b=>d r (.inl b),qc4 fun r b=>d r (.inr b),qkl]
  · have d : ∀ r,(r∈p∨r∈q)→covR x r = false:=fun r b=>by
      have j:=c _ (g r b).2;rw [← Bool.not_eq_true,q57];omega
    unfold secJ;rw [qc4 fun r b=>d r (.inl b),qc4 fun r b=>d r (.inr b),qkl]
def CanR (l : List qi) : Prop:=∃ gs : List (Grp ql),l = Y8 putR gs∧CanG gs∧∀ g∈gs,Can g.sec
theorem qpf : Can []:=⟨qf,qf⟩
theorem CanR.nil : CanR []:=⟨[],rfl,⟨qf,qf⟩,qf⟩
theorem CanR.cov {l : List qi} (h : CanR l) (x : Int) : Can (covS l x):=by
  obtain ⟨a,rfl,c,d⟩:=h;rw [q8p c];rcases qh6 (x:=x) a with e | ⟨g,b,_,_,e⟩
  · rw [e];exact qpf
  · rw [e];exact d g b
theorem qby {a b : List qi} (c : CanR a) (hb : CanR b) (h : ∀ x y,hasR a x y↔hasR b x y) : a = b:=by
  have g : ∀ x,covS a x = covS b x:=fun x=>q54 (c.cov x) (hb.cov x) fun y=>by rw [Uv,Uv];exact h x y
  obtain ⟨j,rfl,d,_⟩:=c;obtain ⟨k,rfl,f,_⟩:=hb;rw [qeq d f fun x=>by rw [← q8p d,← q8p f];exact g x]
theorem qn4 (kind : Int) {p q : List qi} (h : p.length + q.length≤100000) (x : Int) : qeb kind (covS p x) (covS q x) (secJ kind p q x):=by
  have a:=Uk p x;have b:=Uk q x;exact (q5g kind (covS p x) (covS q x) q6 q6).2
theorem q5o (kind : Int) {p q : List qi} (h : p.length + q.length≤100000) : CanR (mrgR kind p q):=by
  obtain ⟨c,f,a,d⟩:=qla kind h;refine ⟨c,f,a,fun g b=>?_⟩;have:=d g.lo;rw [qh5 a g b _ (Int.le_refl _) (a.1 g b).1] at this;rw [this];exact (qn4 kind h _).can
theorem qj3 (kind : Int) {p q : List qi} (h : p.length + q.length≤100000) (x : Int) : covS (mrgR kind p q) x = secJ kind p q x:=by
  obtain ⟨d,c,b,a⟩:=qla kind h;rw [c,q8p b,a]
theorem q5f (kind : Int) {p q : List qi} (h : p.length + q.length≤100000) (x y : Int) : hasR (mrgR kind p q) x y↔Ky kind (hasR p x y) (hasR q x y):=by
  rw [← Uv,qj3 kind h,(qn4 kind h x).pts,Uv,Uv]
theorem qfl (x y : Int) : ¬ hasR [] x y:=by rintro ⟨r,h,_⟩;cases h
theorem qcd {a b : Prop} : Ky 2 a b↔a∨b:=by unfold Ky;simp
theorem qkc {a b : Prop} : Ky 1 a b↔a∧b:=by unfold Ky;simp
theorem qru {l : List qi} (h : l.length≤100000) (x y : Int) : hasR (mrgR 2 l []) x y↔hasR l x y:=by
  rw [q5f 2 (by simpa using h),qcd];simp [qfl]
theorem qlb {l : List qi} (a : l.length≤100000) (h : CanR l) : mrgR 2 l [] = l:=
  qby (q5o 2 (by simpa using a)) h fun x y=>qru a x y
theorem q96 (kind : Int) {p q p' q' : List qi} (h : p.length + q.length≤100000) (a : p'.length + q'.length≤100000)
    (b : ∀ x y,hasR p x y↔hasR p' x y) (c : ∀ x y,hasR q x y↔hasR q' x y) : mrgR kind p q = mrgR kind p' q':=
  qby (q5o kind h) (q5o kind a) fun x y=>by rw [q5f kind h,q5f kind a];exact qfo (b x y) (c x y)
theorem ql3 {σ β : Type} {put : Int→Int→σ→β} {a : List (Grp σ)} {r : β} : r∈Y8 put a↔∃ g∈a,∃ t∈g.sec,r = put g.lo g.hi t:=by
  unfold Y8;simp only [List.mem_flatMap,List.mem_map];exact ⟨fun ⟨g,hg,t,ht,e⟩=>⟨g,hg,t,ht,e.symm⟩,fun ⟨g,hg,t,ht,e⟩=>⟨g,hg,t,ht,e.symm⟩⟩
theorem CanR.lt {l : List qi} (h : CanR l) : ∀ r∈l,r.X0 < r.X1∧r.Y0 < r.Y1:=by
  obtain ⟨j,rfl,d,f⟩:=h;intro r b;obtain ⟨g,a,t,c,rfl⟩:=ql3.1 b;exact ⟨(d.1 g a).1,(f g a).1 t c⟩
def InR (l : List qi) : Prop:=∀ x y,hasR l x y→(-1000000≤x∧x < 1000000)∧(-1000000≤y∧y < 1000000)
theorem CanR.vR {l : List qi} (h : CanR l) (hi : InR l) : ∀ r∈l,vR r:=by
  intro r a;have c:=h.lt r a;have d:=hi r.X0 r.Y0 ⟨r,a,q6⟩;have b:=hi (r.X1 - 1) (r.Y1 - 1) ⟨r,a,q6⟩;unfold Go.Sh.vR;omega
theorem InR.mrg {kind : Int} {p q : List qi} (h : p.length + q.length≤100000) (hp : InR p) (c : InR q) : InR (mrgR kind p q):=fun x y b=>by
  rcases qfp ((q5f kind h x y).1 b) with a | a
  · exact hp x y a
  · exact c x y a
theorem InR.nil : InR []:=fun x y h=>absurd h (qfl x y)
theorem q8l {l : List qi} : Yl l = 0↔l.length≤400∧(∀ r∈l,vR r)∧CanR l:=by
  constructor
  · intro h;obtain ⟨c,b,a⟩:=qq5 h;exact ⟨c,b,a ▸ q5o 2 (by simp;omega)⟩
  · rintro ⟨c,b,a⟩;unfold Yl;rw [qp q6,qq b,qq (qlb q6 a)]
end Go.Sh
