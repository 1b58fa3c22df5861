/- Pt1 Pt2 Pt3 Pt4 Pt5 Pt6 Pt7 Qa1 Qa2 Qa3 Rs1 Rs2 Rs3 -/
import Derived.Test.YtmekakoiicomaaaGreatK10
namespace Go.Sh
open Go Go.Am
theorem Zw {α β : Type} {f : α→Option (α ⊕ β)} (st : Nat→α) (n : Nat) (b : β) (hs : ∀ k,k < n→f (st k) = some (.inl (st (k + 1)))) (hd : f (st n) = some (.inr b)) : ∀ {k : Nat},k≤n→loop f (st k) = some b:=by
  have key : ∀ m k,n - k = m→k≤n→loop f (st k) = some b:=by
    intro m
    induction m with
    | zero => intro k c a; obtain rfl : k = n := by omega
              exact Kc hd
    | succ m ih=>intro k c a;rw [Ki (hs k q6)];exact ih (k + 1) q6 q6
  intro k a;exact key _ k rfl a
theorem w64s {k : Nat} {n : Nat} (h : k < n) (a : n≤1000000) : w64 ((k : Int) + 1) = ((k + 1 : Nat) : Int):=by rw [Qa q6];omega
theorem dlt {k n : Nat} (h : k < n) : decide ((k : Int) < (n : Int)) = true:=Qe q6
theorem dnl {n : Nat} : decide ((n : Int) < (n : Int)) = false:=Qm q6
theorem q5v {α β γ : Type} (src : List α) (_ : src.length≤1000000) (h : α→List γ) (out : List γ) (fin : List γ→β) (f : Int × List γ→Option ((Int × List γ) ⊕ β))
    (hs : ∀ (k : Nat) (a : k < src.length) (o : List γ),o = out ++ (src.take k).flatMap h→f ((k : Int),o) = some (.inl (((k + 1 : Nat) : Int),o ++ h src[k])))
    (hd : ∀ o,f ((src.length : Int),o) = some (.inr (fin o))) : loop f (0,out) = some (fin (out ++ src.flatMap h)):=by
  have e : ∀ k (a : k < src.length),(src.take (k + 1)).flatMap h = (src.take k).flatMap h ++ h src[k]:=fun k a=>by
    rw [List.take_succ_eq_append_getElem a,List.flatMap_append,List.flatMap_cons,List.flatMap_nil,List.append_nil]
  have:=Zw (f:=f) (fun k=>((k : Int),out ++ (src.take k).flatMap h)) src.length (fin (out ++ src.flatMap h)) (fun k a=>by
    rw [hs k a _ rfl,e k a,List.append_assoc]) (by simp only [List.take_length];exact hd _) (Nat.zero_le _)
  simpa using this
theorem q6l {α β γ : Type} (src : List α) (h : α→γ) (out : List γ) (fin : List γ→β) (f : Int × List γ→Option ((Int × List γ) ⊕ β))
    (hs : ∀ (k : Nat) (a : k < src.length) (o : List γ),o.length = out.length + k→f ((k : Int),o) = some (.inl (((k + 1 : Nat) : Int),o ++ [h src[k]])))
    (hd : ∀ o,f ((src.length : Int),o) = some (.inr (fin o))) : loop f (0,out) = some (fin (out ++ src.map h)):=by
  have e : ∀ k (a : k < src.length),(src.take (k + 1)).map h = (src.take k).map h ++ [h src[k]]:=fun k a=>by
    rw [List.take_succ_eq_append_getElem a,List.map_append,List.map_cons,List.map_nil]
  have:=Zw (f:=f) (fun k=>((k : Int),out ++ (src.take k).map h)) src.length (fin (out ++ src.map h)) (fun k a=>by
    rw [hs k a _ (by simp;omega),e k a,List.append_assoc]) (by simp only [List.take_length];exact hd _) (Nat.zero_le _)
  simpa using this
theorem qbj {γ : Type} (g : γ→γ) (a b : List γ) (l : (a ++ b).length≤1000000) (f : Int × List γ→Option ((Int × List γ) ⊕ (List γ)))
    (hs : ∀ (k : Nat) (o : List γ) (h : k < o.length),o.length = (a ++ b).length→f ((k : Int),o) = some (.inl (((k + 1 : Nat) : Int),o.set k (g o[k]))))
    (hd : ∀ o : List γ,f ((o.length : Int),o) = some (.inr o)) : loop f ((a.length : Int),a ++ b) = some (a ++ b.map g):=by
  have m : a.length + b.length≤1000000:=by simpa using l
  have key:=Zw (f:=f) (fun k=>(((a.length + k : Nat) : Int),a ++ ((b.take k).map g ++ b.drop k))) b.length (a ++ b.map g) (fun k h=>by
    have c : (a ++ ((b.take k).map g ++ b.drop k)).length = (a ++ b).length:=by simp;omega
    have d : a.length + k < (a ++ ((b.take k).map g ++ b.drop k)).length:=by rw [c];simp;omega
    rw [hs (a.length + k) _ d c];have j : ((b.take k).map g).length = k:=by simp;omega
    have e : (a ++ ((b.take k).map g ++ b.drop k))[a.length + k]'d = b[k]:=by
      rw [List.getElem_append_right q6];rw [List.getElem_append_right (by rw [j];omega)];simp [List.length_take,Nat.min_eq_left (Nat.le_of_lt h)]
    rw [e];congr 4;rw [List.set_append,qy q6,List.set_append,qy (by rw [j];omega),j];have z : a.length + k - a.length - k = 0:=by omega
    rw [z,List.take_succ_eq_append_getElem h,List.drop_eq_getElem_cons h,List.set_cons_zero,List.map_append,List.map_cons,List.map_nil,List.append_assoc]
    rfl) (by
    simp only [List.take_length,List.drop_length,List.append_nil];have:=hd (a ++ b.map g)
    simpa using this) (Nat.zero_le _)
  simpa using key
theorem q6a {α γ υ : Type} (l : List α) (c : α→Bool) (m : (k : Nat)→k < l.length→γ) (u : υ) (f : Int→Option (Int ⊕ (υ ⊕ γ)))
    (hs : ∀ (k : Nat) (h : k < l.length),f (k : Int) = some (if c l[k] = true then .inr (.inr (m k h)) else .inl ((k + 1 : Nat) : Int))) (hd : f (l.length : Int) = some (.inr (.inl u))) :
    ((∀ v∈l,c v = false)∧loop f 0 = some (.inl u))∨∃ k,∃ h : k < l.length,c l[k] = true∧(∀ j (d : j < k),c (l[j]'(q6)) = false)∧loop f 0 = some (.inr (m k h)):=by
  by_cases p : ∀ v∈l,c v = false
  · refine .inl ⟨p,?_⟩;exact Zw (f:=f) (fun k=>(k : Int)) l.length _ (fun k b=>by rw [hs k b,p _ (Yi b)];rfl) hd (Nat.zero_le _)
  · refine .inr ?_
    have : ∃ k,∃ h : k < l.length,c l[k] = true:=by
      refine Classical.byContradiction fun r=>p fun v s=>?_;obtain ⟨k,b,rfl⟩:=List.getElem_of_mem s;cases o : c l[k]
      · rfl
      · exact absurd ⟨k,b,o⟩ r
    have g : ∃ k,(∃ h : k < l.length,c l[k] = true)∧∀ j,j < k→¬ ∃ h : j < l.length,c l[j] = true:=by
      obtain ⟨k,b⟩:=this
      induction k using Nat.strongRecOn with
      | _ k ih=>
        by_cases d : ∃ j,j < k∧∃ h : j < l.length,c l[j] = true
        · obtain ⟨j,q,g⟩:=d;exact ih j q g
        · exact ⟨k,b,fun j q g=>d ⟨j,q,g⟩⟩
    obtain ⟨k,⟨b,o⟩,n⟩:=g
    have a : ∀ j (d : j < k),c (l[j]'(q6)) = false:=fun j d=>by
      cases h : c (l[j]'(q6))
      · rfl
      · exact absurd ⟨q6,h⟩ (n j d)
    refine ⟨k,b,o,a,?_⟩;exact Zw (f:=f) (fun k=>(k : Int)) k _ (fun j d=>by rw [hs j q6,a j d];rfl) (by rw [hs k b,qs o]) (Nat.zero_le _)
theorem qj9 : ∀ {l a b : List Int},Yq l a→Yq l b→a = b:=by
  have key : ∀ (a b : List Int),a.Pairwise (· < ·)→b.Pairwise (· < ·)→(∀ x,x∈a↔x∈b)→a = b:=by
    intro a
    induction a with
    | nil=>intro b _ _ h;cases b with
      | nil=>rfl
      | cons y b=>exact absurd ((h y).2 qe) qe
    | cons x a ih=>
      intro b d hb h
      cases b with
      | nil=>exact absurd ((h x).1 qe) qe
      | cons y b=>
        rw [List.pairwise_cons] at d hb
        have g : x = y:=by
          rcases List.mem_cons.1 ((h x).1 qe) with c | c
          · exact c
          · rcases List.mem_cons.1 ((h y).2 qe) with j | j
            · exact j.symm
            · have:=hb.1 _ c;have:=d.1 _ j;omega
        subst g;rw [ih b d.2 hb.2 fun z=>?_];constructor
        · intro f;rcases List.mem_cons.1 ((h z).1 (by simp [f])) with c | c
          · have:=d.1 _ f;omega
          · exact c
        · intro f;rcases List.mem_cons.1 ((h z).2 (by simp [f])) with c | c
          · have:=hb.1 _ f;omega
          · exact c
  intro l a b d hb;exact key a b d.1 hb.1 fun x=>(d.2 x).trans (hb.2 x).symm
def ltI (a b : Int) : Bool:=decide (a < b)
theorem swoI : Sort.SWO ltI where
  irrefl:=by intro x;simp [ltI]
  trans:=by intro x y z;simp only [ltI,decide_eq_true_eq];omega
  ntrans:=by intro x y z;simp only [ltI,decide_eq_false_iff_not];omega
theorem cmpI : Kq qO ltI (fun _=>True):=by
  intro x y _ _;refine ⟨sg x y,rfl,?_⟩;rw [Zn];rfl
theorem qj8 (l : List Int) (c : l.length≤1000000) : ∃ ys,Uf l = some ys∧ys.Perm l∧ys.Pairwise (·≤·):=by
  obtain ⟨ys,f,d,g⟩:=qj7 cmpI swoI l c (fun _ _=>trivial);refine ⟨ys,by rw [qty];exact f,d,g.imp ?_⟩;intro a b h;simp only [ltI,decide_eq_false_iff_not] at h;omega
end Go.Sh
namespace Go.Sh
open Go Go.Am
structure CInv (p : List Int) (k k2 i : Nat) (a : List Int) : Prop where
  len : a.length = p.length
  hi : i≤k + k2 - 1
  same : ∀ j (h : j < p.length),k + k2 - 1≤j→a[j]? = some p[j]
  so : Yq (p.take (k + k2)) (a.take i)
theorem qm4 {p : List Int} (hp : p.Pairwise (·≤·)) (hl : p.length≤1000000) {k b i : Nat} {a : List Int} (hk : 0 < k) (h2 : 0 < b) (u : k + b < p.length) (h : CInv p k b i a) :
    ∃ (i' : Nat) (a' : List Int),q17 ((i : Int),(k,p.length - k),(b : Int),a) = some (.inl ((i' : Int),(k,p.length - k),((b + 1 : Nat) : Int),a'))∧CInv p k (b + 1) i' a':=by
  obtain ⟨h1,h3,o,h5,v⟩:=h;have hb : decide ((b : Int) < ((p.length - k : Nat) : Int)) = true:=dlt q6
  have z : idxW a (k,p.length - k) (b : Int) = some (p[k + b]):=by
    unfold idxW;rw [qs ⟨q6,q6⟩];simp only [Int.toNat_natCast];exact o (k + b) u q6
  have r2 : idxW a (k,p.length - k) (w64 ((b : Int) - 1)) = some (p[k + b - 1]):=by
    rw [Qa q6];have e : (b : Int) - 1 = ((b - 1 : Nat) : Int):=by omega
    rw [e];unfold idxW;rw [qs ⟨q6,q6⟩];simp only [Int.toNat_natCast];have:=o (k + b - 1) q6 q6;rw [show k + (b - 1) = k + b - 1 by omega];exact this
  have ai : p[k + b - 1]≤p[k + b]:=List.pairwise_iff_getElem.1 hp _ _ q6 u q6
  have l : p[k + b - 1]∈p.take (k + b):=by
    rw [List.mem_take_iff_getElem];exact ⟨k + b - 1,q6,rfl⟩
  have f : p.take (k + (b + 1)) = p.take (k + b) ++ [p[k + b]]:=by rw [← Nat.add_assoc,List.take_succ_eq_append_getElem u]
  have hw : w64 ((b : Int) + 1) = ((b + 1 : Nat) : Int):=w64s (n:=p.length) q6 hl;by_cases w : p[k + b] = p[k + b - 1]
  · refine ⟨i,a,?_,h1,q6,fun j q r=>o j q q6,?_⟩
    · have c : (p[k + b] != p[k + b - 1]) = false:=by rw [w];simp
      simp only [q17,hb,Q1,z,r2,qp,c,Q2,hw]
    · rw [f];refine ⟨h5,fun x=>?_⟩;rw [v x];constructor
      · intro g;exact List.mem_append.2 (.inl g)
      · intro g;rcases List.mem_append.1 g with h | h
        · exact h
        · simp only [List.mem_singleton] at h;rw [h,w];exact l
  · have c : (p[k + b] != p[k + b - 1]) = true:=by simpa using w
    have m : i < a.length:=by omega
    have r3 : idx a (i : Int) = some a[i]:=K5 m;have s : w64 ((i : Int) + 1) = ((i + 1 : Nat) : Int):=w64s (n:=p.length) q6 hl;refine ⟨i + 1,a.set i p[k + b],?_,by simpa using h1,q6,fun j q r=>?_,?_⟩
    · simp only [q17,hb,Q1,z,r2,qp,c,r3,hw,s,Int.toNat_natCast]
    · rw [List.getElem?_set_ne q6];exact o j q q6
    · have e : (a.set i p[k + b]).take (i + 1) = a.take i ++ [p[k + b]]:=by
        rw [List.take_succ_eq_append_getElem (by simpa using m)];simp [List.take_set_of_le]
      rw [e,f];refine ⟨?_,fun x=>?_⟩
      · rw [List.pairwise_append];refine ⟨h5,qe,fun x g y hy=>?_⟩;simp only [List.mem_singleton] at hy;subst hy;have d:=(v x).1 g;rw [List.mem_take_iff_getElem] at d;obtain ⟨j,q,rfl⟩:=d
        have : p[j]≤p[k + b - 1]:=by
          by_cases t : j = k + b - 1
          · subst t;exact Int.le_refl _
          · exact List.pairwise_iff_getElem.1 hp _ _ q6 q6 q6
        omega
      · rw [List.mem_append,List.mem_append,v x]
theorem qm3 {p : List Int} (hp : p.Pairwise (·≤·)) (o : p.length≤1000000) {k : Nat} (s : 0 < k) (m : k < p.length) (r : Yq (p.take (k + 1)) (p.take k)) :
    ∃ i : Nat,∃ a : List Int,loop q17 ((k : Int),(k,p.length - k),1,p) = some ((i : Int),a)∧a.length = p.length∧i≤p.length∧Yq p (a.take i):=by
  have h:=Zx (f:=q17) (mk:=fun d (c : Nat × List Int)=>((c.1 : Int),(k,p.length - k),((d : Nat) : Int),c.2)) (p.length - k) (fun d c=>0 < d∧CInv p k d c.1 c.2)
    (fun b=>∃ i : Nat,∃ a : List Int,b = ((i : Int),a)∧a.length = p.length∧i≤p.length∧Yq p (a.take i))
    (fun d c n g=>by
      obtain ⟨v,a',t,y⟩:=qm4 hp o s g.1 q6 g.2
      exact .inl ⟨(v,a'),t,q6,y⟩)
    (fun c g=>by
      obtain ⟨l,w,z,h4,x⟩:=g;refine ⟨((c.1 : Int),c.2),?_,c.1,c.2,rfl,w,q6,?_⟩
      · simp only [q17,dnl,Q2]
      · rwa [List.take_of_length_le q6] at x)
    (k0:=1) (c0:=(k,p)) q6 ⟨q6,rfl,qe,fun j u _=>by simp [u],r⟩
  obtain ⟨b,hb,i,a,rfl,q⟩:=h;exact ⟨i,a,hb,q⟩
theorem qf1 {p : List Int} (hp : p.Pairwise (·≤·)) (y : p.length≤1000000) :
    ∃ w a,q24 p = some ((0,w),a)∧a.length = p.length∧w≤p.length∧Yq p (a.take w):=by
  unfold q24;by_cases hs : p.length < 2
  · rw [Qe (by omega : (p.length : Int) < 2),Q1];refine ⟨p.length,p,rfl,rfl,Nat.le_refl _,?_⟩;rw [List.take_length];refine ⟨?_,fun x=>Iff.rfl⟩
    match p,hs with
    | [],_=>simp
    | [x],_=>simp
  rw [Qm (by omega : ¬ (p.length : Int) < 2),Q2]
  have b : ∀ k,k≤p.length→(∀ j (n : j < k),0 < j→∀ h : j < p.length,p[j]≠p[j - 1])→Yq (p.take k) (p.take k):=by
    intro k g q;refine ⟨?_,fun x=>Iff.rfl⟩;rw [List.pairwise_iff_getElem];intro i j hi n z;simp only [List.length_take] at hi n;simp only [List.getElem_take];have m : p[j - 1]≤p[j]:=List.pairwise_iff_getElem.1 hp _ _ q6 q6 q6;have r:=q j q6 q6 q6
    have h3 : p[i]≤p[j - 1]:=by
      by_cases e : i = j - 1
      · subst e;exact Int.le_refl _
      · exact List.pairwise_iff_getElem.1 hp _ _ q6 q6 q6
    omega
  have c : ∀ k,0 < k→∀ h : k < p.length,p[k]≠p[k - 1]→J0 p (k : Int) = some (.inl ((k + 1 : Nat) : Int)):=by
    intro k d h q;have u : idx p (w64 ((k : Int) - 1)) = some (p[k - 1]):=by rw [Qa q6];exact Ux q6 q6
    have hb : (p[k] == p[k - 1]) = false:=by simpa using q
    simp only [J0,dlt h,Q1,K5 h,u,qp,hb,Q2,w64s h y]
  by_cases t : ∀ j,0 < j→∀ h : j < p.length,p[j]≠p[j - 1]
  · have m : loop (J0 p) 1 = some (.inl ()):=by
      exact Zw (f:=J0 p) (fun k=>((k + 1 : Nat) : Int)) (p.length - 1) _ (fun k g=>by
        exact c (k + 1) q6 q6 (t (k + 1) q6 q6)) (by
        show J0 p (((p.length - 1) + 1 : Nat) : Int) = _;rw [show p.length - 1 + 1 = p.length by omega]
        simp only [J0,dnl,Q2]) (Nat.zero_le _)
    rw [m];refine ⟨p.length,p,rfl,rfl,Nat.le_refl _,?_⟩;have:=b p.length (Nat.le_refl _) fun j _ d h=>t j d h;rw [List.take_length] at this ⊢;exact this
  · have r : ∃ k,(0 < k∧∃ h : k < p.length,p[k] = p[k - 1])∧∀ j,j < k→¬ (0 < j∧∃ h : j < p.length,p[j] = p[j - 1]):=by
      have : ∃ k,0 < k∧∃ h : k < p.length,p[k] = p[k - 1]:=by
        refine Classical.byContradiction fun hn=>t fun j d h o=>hn ⟨j,d,h,o⟩
      obtain ⟨k,g⟩:=this
      induction k using Nat.strongRecOn with
      | _ k ih=>
        by_cases n : ∃ j,j < k∧(0 < j∧∃ h : j < p.length,p[j] = p[j - 1])
        · obtain ⟨j,m,r⟩:=n;exact ih j m r
        · exact ⟨k,g,fun j m r=>n ⟨j,m,r⟩⟩
    obtain ⟨k,⟨d,g,o⟩,l⟩:=r;have v : Yq (p.take k) (p.take k):=b k q6 fun j n d h o=>l j n ⟨d,h,o⟩
    have s : Yq (p.take (k + 1)) (p.take k):=by
      refine ⟨v.1,fun x=>?_⟩;rw [List.take_succ_eq_append_getElem g,List.mem_append];refine ⟨.inl,fun h=>h.elim id fun h=>?_⟩;simp only [List.mem_singleton] at h;rw [h,o,List.mem_take_iff_getElem];exact ⟨k - 1,q6,rfl⟩
    obtain ⟨i,a,e1,e2,e3,e4⟩:=qm3 hp y d g s;have s1 : sub2 p.length (k : Int) (p.length : Int) = some (k,p.length - k):=by unfold sub2;rw [qs ⟨q6,q6,q6⟩];simp
    have s2 : sub2 a.length (i : Int) (a.length : Int) = some (i,a.length - i):=by unfold sub2;rw [qs ⟨q6,q6,q6⟩];simp
    have s3 : sub2 a.length 0 (i : Int) = some (0,i):=by unfold sub2;rw [qs ⟨q6,q6,q6⟩];simp
    have u : idx p (w64 ((k : Int) - 1)) = some (p[k - 1]):=by rw [Qa q6];exact Ux q6 q6
    have m : loop (J0 p) 1 = some (.inr ((0,i),clrw a (i,a.length - i) 0)):=by
      exact Zw (f:=J0 p) (fun k=>((k + 1 : Nat) : Int)) (k - 1) _ (fun j n=>by
        exact c (j + 1) q6 q6 fun o=>l (j + 1) q6 ⟨q6,q6,o⟩) (by
        show J0 p (((k - 1) + 1 : Nat) : Int) = _;rw [show k - 1 + 1 = k by omega];have hb : (p[k] == p[k - 1]) = true:=by simpa using o
        simp only [J0,dlt g,Q1,K5 g,u,qp,hb,s1,e1,s2,s3]) (Nat.zero_le _)
    rw [m];refine ⟨i,clrw a (i,a.length - i) 0,rfl,by rw [qep (by simp;omega)];exact e2,e3,?_⟩
    have : (clrw a (i,a.length - i) 0).take i = a.take i:=by
      unfold clrw splice;rw [List.append_assoc,List.take_append_of_le_length (by simp;omega)];simp [List.take_take]
    rw [this];exact e4
end Go.Sh
namespace Go.Sh
open Go Go.Am
theorem q8z {α : Type} [DecidableEq α] (e : α→α→Bool) (j : ∀ v w,e v w = decide (v = w)) (p q : List α) (s : p.length≤1000000) (f : Int→Option (Int ⊕ (Unit ⊕ Bool)))
    (d : ∀ k,f k = cond (decide (k < (p.length : Int))) ((idx p k).bind fun v=>(idx q k).bind fun w=>cond (!(e v w)) (some (.inr (.inr false))) (some (.inl (w64 (k + 1))))) (some (.inr (.inl ())))) :
    cond ((p.length : Int) != (q.length : Int)) (some false) ((loop f 0).bind fun m=>(match m with | .inl _=>some true | .inr x=>some x)) = some (decide (p = q)):=by
  by_cases a : p.length = q.length
  · have : ((p.length : Int) != (q.length : Int)) = false:=by rw [a];simp
    rw [this,Q2]
    let c : Nat→Bool:=fun k=>if h : k < p.length then !(e p[k] (q[k]'(q6))) else false
    have hs : ∀ (k : Nat) (h : k < (List.range p.length).length),f (k : Int) = some (if c (List.range p.length)[k] = true then .inr (.inr false) else .inl ((k + 1 : Nat) : Int)):=by
      intro k h;have h : k < p.length:=by simpa using h
      rw [d];simp only [dlt h,Q1,K5 h,K5 (xs:=q) (k:=k) q6,qp,List.getElem_range,c,dif_pos h,w64s h s];cases e p[k] (q[k]'(q6)) <;> simp
    have hd : f ((List.range p.length).length : Int) = some (.inr (.inl ())):=by rw [d];simp []
    rcases q6a (List.range p.length) c (fun _ _=>false) () f hs hd with ⟨r,b⟩ | ⟨k,n,l,_,b⟩
    · rw [b]
      have : p = q:=by
        refine List.ext_getElem a fun k g t=>?_;have:=r k (by simpa using g);simp only [c,dif_pos g,j,Bool.not_eq_false',decide_eq_true_eq] at this;exact this
      simp [this]
    · rw [b];have o : k < p.length:=by simpa using n
      have : p≠q:=by
        intro h;simp only [List.getElem_range,c,j,h] at l;simp at l
      simp [this]
  · have : ((p.length : Int) != (q.length : Int)) = true:=by simpa using (fun h : (p.length : Int) = q.length=>a q6)
    rw [this,Q1];have : p≠q:=fun h=>a (by rw [h]);simp [this]
theorem qff (p q : List qm) (a : p.length≤1000000) : q7c p q = some (decide (p = q)):=
  q8z (fun v w=>((v.Lo == w.Lo) && ((v.Hi == w.Hi) && true))) (fun v w=>by cases v;cases w;rw [Bool.eq_iff_iff];simp) p q a (qa5 p q) (fun _=>rfl)
theorem qrn (p q : List qm) (a : p.length≤1000000) : q9r p q = some (decide (p = q)):=
  q8z (fun v w=>((v.Lo == w.Lo) && ((v.Hi == w.Hi) && true))) (fun v w=>by cases v;cases w;rw [Bool.eq_iff_iff];simp) p q a (q9s p q) (fun _=>rfl)
theorem q3r (p q : List ql) (a : p.length≤1000000) : Ue p q = some (decide (p = q)):=
  q8z (fun v w=>((v.X0 == w.X0) && ((v.Y0 == w.Y0) && ((v.X1 == w.X1) && ((v.Y1 == w.Y1) && true))))) (fun v w=>by cases v;cases w;rw [Bool.eq_iff_iff];simp) p q a (qa2 p q) (fun _=>rfl)
theorem sameBox (p q : List qn) (a : p.length≤1000000) : q9t p q = some (decide (p = q)):=
  q8z (fun v w=>((v.Lo.X == w.Lo.X) && ((v.Lo.Y == w.Lo.Y) && ((v.Lo.Z == w.Lo.Z) && ((v.Hi.X == w.Hi.X) && ((v.Hi.Y == w.Hi.Y) && ((v.Hi.Z == w.Hi.Z) && true))))))) (fun v w=>by rcases v with ⟨⟨_,_,_⟩,⟨_,_,_⟩⟩;rcases w with ⟨⟨_,_,_⟩,⟨_,_,_⟩⟩;rw [Bool.eq_iff_iff];simp [and_assoc]) p q a (q9u p q) (fun _=>rfl)
structure Mg (σ β : Type) where
  done : List β
  sec : List σ
  lo : Int
  hi : Int
section
variable {σ β : Type} [DecidableEq σ] (put : Int→Int→σ→β)
def Mg.flat (s : Mg σ β) : List β:=s.done ++ s.sec.map (put s.lo s.hi)
def addM (s : Mg σ β) (a b : Int) (c : List σ) : Mg σ β:=if c≠[]∧c = s.sec∧s.hi = a then ⟨s.done,s.sec,s.lo,b⟩ else ⟨s.flat put,c,a,b⟩
def K2 : Mg σ β:=⟨[],[],0,0⟩
def K4 (s0 : Mg σ β) (steps : List (Int × Int × List σ)) : Mg σ β:=steps.foldl (fun s t=>addM put s t.1 t.2.1 t.2.2) s0
theorem qbp {s0 : Mg σ β} {steps : List (Int × Int × List σ)} {i : Nat} (h : i < steps.length) : K4 put s0 (steps.take (i + 1)) = addM put (K4 put s0 (steps.take i)) steps[i].1 steps[i].2.1 steps[i].2.2:=by
  unfold K4;rw [List.take_succ_eq_append_getElem h,List.foldl_append];rfl
theorem qkb (s : Mg σ β) (a b : Int) (c : List σ) : ((addM put s a b c).flat put).length≤(s.flat put).length + c.length:=by
  unfold addM;split
  · simp [Mg.flat]
  · simp [Mg.flat];omega
theorem qbo {s0 : Mg σ β} {M : Nat} : ∀ {steps : List (Int × Int × List σ)},(∀ t∈steps,t.2.2.length≤M)→((K4 put s0 steps).flat put).length≤(s0.flat put).length + steps.length * M:=by
  intro steps
  induction steps generalizing s0 with
  | nil=>intro _;simp [K4]
  | cons t r ih=>
    intro h;have f:=ih (s0:=addM put s0 t.1 t.2.1 t.2.2) fun u a=>h u (by simp [a]);have c:=qkb put s0 t.1 t.2.1 t.2.2;have d:=h t qe;have b : K4 put s0 (t::r) = K4 put (addM put s0 t.1 t.2.1 t.2.2) r:=rfl;rw [b];simp only [List.length_cons,Nat.succ_mul];omega
end
section
variable {σ : Type}
def Yu (cuts : List Int) (sec : Int→List σ) : List (Int × Int × List σ):=(cuts.zip cuts.tail).map fun c=>(c.1,c.2,sec c.1)
theorem qdj (a : List Int) (sec : Int→List σ) : (Yu a sec).length = a.length - 1:=by simp [Yu]
theorem qjh {a : List Int} {sec : Int→List σ} {i : Nat} (h : i < (Yu a sec).length) (b : i + 1 < a.length) : (Yu a sec)[i] = (a[i],a[i + 1],sec a[i]):=by
  simp [Yu]
theorem qww {a : List Int} {sec : Int→List σ} {M : Nat} (h : ∀ x,(sec x).length≤M) : ∀ t∈Yu a sec,t.2.2.length≤M:=by
  intro t b;simp only [Yu,List.mem_map] at b;obtain ⟨c,_,rfl⟩:=b;exact h _
end
theorem q3m {σ β : Type} [DecidableEq σ] (put : Int→Int→σ→β) (s : Mg σ β) (a b : Int) (c : List σ) : (c≠[]∧c = s.sec∧s.hi = a∧addM put s a b c = ⟨s.done,s.sec,s.lo,b⟩)∨(¬ (c≠[]∧c = s.sec∧s.hi = a)∧addM put s a b c = ⟨s.flat put,c,a,b⟩):=by
  unfold addM;split
  · rename_i h;exact .inl ⟨h.1,h.2.1,h.2.2,rfl⟩
  · rename_i h;exact .inr ⟨h,rfl⟩
def putR (a b : Int) (t : qm) : ql:={X0:=a,Y0:=t.Lo,X1:=b,Y1:=t.Hi}
theorem qkr (s : Mg qm ql) (a b : Int) (c : List qm) (z : (s.flat putR).length + c.length≤1000000) :
    q73 (s.flat putR) s.sec (s.done.length : Int) s.hi a b c = some ((addM putR s a b c).sec,((addM putR s a b c).done.length : Int),(addM putR s a b c).hi,(addM putR s a b c).flat putR):=by
  have d : s.sec.length≤1000000:=by have : (s.flat putR).length = s.done.length + s.sec.length:=(by simp [Mg.flat]);omega
  unfold q73;rcases q3m putR s a b c with ⟨p,r,w,m⟩ | ⟨p,m⟩
  · have hb : decide ((c.length : Int) > 0) = true:=Qe (by have:=List.length_pos_iff.2 p;omega);have x : (s.hi == a) = true:=by simpa using w
    rw [r] at hb;rw [m,r];simp only [hb,Q1,x,qp,qff _ _ d,decide_true]
    have:=qbj (fun v : ql=>({X0:=v.X0,Y0:=v.Y0,X1:=b,Y1:=v.Y1} : ql)) s.done (s.sec.map (putR s.lo s.hi)) (by have : (s.done ++ s.sec.map (putR s.lo s.hi)).length = (s.flat putR).length:=rfl;omega) (q4g b) (fun k o f u=>by
      have l : (s.done ++ s.sec.map (putR s.lo s.hi)).length = (s.flat putR).length:=rfl
      simp only [q4g,dlt f,Q1,K5 f,qp,w64s f q6,Int.toNat_natCast]) (fun o=>by simp only [q4g,dnl,Q2])
    rw [show s.flat putR = s.done ++ s.sec.map (putR s.lo s.hi) from rfl,this];simp only [qp,Mg.flat,List.map_map];rfl
  · rw [m]
    have y : ((cond (decide ((c.length : Int) > 0)) (some (s.hi == a)) (some false)).bind fun g=>(cond g ((q7c s.sec c).bind fun j=>some j) (some false))) = some false:=by
      by_cases l : c = []
      · subst l;simp
      · have hb : decide ((c.length : Int) > 0) = true:=Qe (by have:=List.length_pos_iff.2 l;omega);simp only [hb,Q1,qp,qff _ _ d];by_cases q : s.hi = a
        · have t : s.sec≠c:=fun h=>p ⟨l,h.symm,q⟩;simp [q,t]
        · have : (s.hi == a) = false:=by simpa using q
          simp [this]
    have n:=q6l c (putR a b) (s.flat putR) (fun o=>(c,((s.flat putR).length : Int),b,o)) (q4h c a b (s.flat putR)) (fun k f o u=>by
      simp only [q4h,dlt f,Q1,K5 f,qp,w64s f q6];rw [Z5 (by simp;omega)]
      rfl) (fun o=>by simp only [q4h,dnl,Q2])
    rw [← Option.bind_assoc,y];simp only [qp,Q2,n];simp [Mg.flat]
end Go.Sh
namespace Go.Sh
open Go Go.Am
def vR (r : ql) : Prop:=r.X0 < r.X1∧r.Y0 < r.Y1∧-1000000≤r.X0∧r.X0≤1000000∧-1000000≤r.X1∧r.X1≤1000000∧-1000000≤r.Y0∧r.Y0≤1000000∧-1000000≤r.Y1∧r.Y1≤1000000
instance (r : ql) : Decidable (vR r):=by unfold vR;infer_instance
theorem qfq (x : Int) : q1z x = some (decide (-1000000≤x∧x≤1000000)):=by
  unfold q1z;by_cases h : x ≥ -1000000 <;> by_cases a : x≤1000000 <;> simp [h,a] <;> omega
theorem qjy (r : ql) : q4j r = some (decide (vR r)):=by
  unfold q4j;simp only [qfq,qm5,qp,vR];by_cases d : r.X0 < r.X1 <;> by_cases b : r.Y0 < r.Y1 <;> by_cases g : -1000000≤r.X0∧r.X0≤1000000 <;> by_cases c : -1000000≤r.X1∧r.X1≤1000000 <;> by_cases f : -1000000≤r.Y0∧r.Y0≤1000000 <;> by_cases a : -1000000≤r.Y1∧r.Y1≤1000000 <;> simp [d,b,g,c,f,a] <;> omega
def covR (x : Int) (r : ql) : Bool:=decide (r.X0≤x) && decide (x < r.X1)
def ysp (r : ql) : qm:={Lo:=r.Y0,Hi:=r.Y1}
def covS (l : List ql) (x : Int) : List qm:=l.flatMap fun r=>if covR x r = true then [ysp r] else []
def hasR (l : List ql) (x y : Int) : Prop:=∃ r∈l,r.X0≤x∧x < r.X1∧r.Y0≤y∧y < r.Y1
theorem qca {l : List ql} {x : Int} {t : qm} : t∈covS l x↔∃ r∈l,covR x r = true∧t = ysp r:=by
  unfold covS;rw [List.mem_flatMap];constructor
  · rintro ⟨r,a,h⟩;split at h
    · rename_i b;simp only [List.mem_singleton] at h;exact ⟨r,a,b,h⟩
    · cases h
  · rintro ⟨r,a,b,rfl⟩;exact ⟨r,a,by simp [b]⟩
theorem q3x {l : List ql} {x y : Int} : has (covS l x) y↔hasR l x y:=by
  unfold has hasR;constructor
  · rintro ⟨t,g,c,a⟩;obtain ⟨r,b,d,rfl⟩:=qca.1 g;simp only [covR,Bool.and_eq_true,decide_eq_true_eq] at d;exact ⟨r,b,d.1,d.2,c,a⟩
  · rintro ⟨r,b,c,a,h,f⟩;exact ⟨ysp r,qca.2 ⟨r,b,by simp [covR,c,a],rfl⟩,h,f⟩
theorem q3p (l : List ql) (x : Int) : (covS l x).length≤l.length:=by
  unfold covS
  induction l with
  | nil=>simp
  | cons r l ih=>
    simp only [List.flatMap_cons,List.length_append,List.length_cons];have : (if covR x r = true then [ysp r] else []).length≤1:=by split <;> simp
    omega
theorem qmc {l : List ql} (h : ∀ r∈l,vR r) (x : Int) : ∀ t∈covS l x,vld t:=by
  intro t d;obtain ⟨r,c,_,rfl⟩:=qca.1 d;obtain ⟨_,a,_,_,_,_,f,_,_,b⟩:=h r c;exact ⟨a,f,b⟩
def xsOf (l : List ql) : List Int:=l.flatMap fun r=>[r.X0,r.X1]
theorem q5r (l : List ql) : (xsOf l).length = 2 * l.length:=by
  unfold xsOf;induction l with
  | nil=>rfl
  | cons r l ih=>simp only [List.flatMap_cons,List.length_append,List.length_cons,List.length_nil];omega
noncomputable def K3 (l : List Int) : List Int:=(q44 l).getD []
theorem q2k {l : List Int} (c : l.length≤1000000) : q44 l = some (K3 l)∧Yq l (K3 l)∧(K3 l).length≤l.length:=by
  obtain ⟨t,a,d,b⟩:=qja l c;unfold K3;rw [a];exact ⟨rfl,d,b⟩
noncomputable def secJ (kind : Int) (p q : List ql) (x : Int) : List qm:=U9 kind (covS p x) (covS q x)
theorem qio (kind : Int) {p q : List ql} (h : p.length + q.length≤100000) (x : Int) : (secJ kind p q x).length≤2 * (p.length + q.length):=by
  have a:=q3p p x;have b:=q3p q x;have:=(q6i kind (covS p x) (covS q x) q6 q6).2.len;unfold secJ;omega
noncomputable def mrg (kind : Int) (p q : List ql) : Mg qm ql:=K4 putR K2 (Yu (K3 (xsOf p ++ xsOf q)) (secJ kind p q))
noncomputable def mrgR (kind : Int) (p q : List ql) : List ql:=(mrg kind p q).flat putR
theorem qf6 {p q : List ql} (h : p.length + q.length≤490) : q44 (xsOf p ++ xsOf q) = some (K3 (xsOf p ++ xsOf q))∧Yq (xsOf p ++ xsOf q) (K3 (xsOf p ++ xsOf q))∧(K3 (xsOf p ++ xsOf q)).length≤2 * (p.length + q.length):=by
  have f:=q5r p;have d:=q5r q;obtain ⟨a,b,c⟩:=q2k (l:=xsOf p ++ xsOf q) (by simp;omega);exact ⟨a,b,by simp at c;omega⟩
theorem qos (kind : Int) {p q : List ql} (h : p.length + q.length≤490) (i : Nat) :
    ((K4 putR K2 ((Yu (K3 (xsOf p ++ xsOf q)) (secJ kind p q)).take i)).flat putR).length≤980 * 980:=by
  have d:=qbo putR (s0:=K2) (M:=980) (steps:=(Yu (K3 (xsOf p ++ xsOf q)) (secJ kind p q)).take i) (fun t b=>by
    have:=qww (M:=2 * (p.length + q.length)) (fun x=>qio kind q6 x) t (List.mem_of_mem_take b)
    omega)
  have a : ((Yu (K3 (xsOf p ++ xsOf q)) (secJ kind p q)).take i).length≤980:=by
    have:=(qf6 h).2.2;rw [List.length_take,qdj];omega
  have f : (K2.flat putR : List ql).length = 0:=rfl;have c : ((Yu (K3 (xsOf p ++ xsOf q)) (secJ kind p q)).take i).length * 980≤980 * 980:=Nat.mul_le_mul_right _ a;omega
theorem qol (l : List ql) (z : l.length≤400) :
    (((idx [l] 0).bind fun g=>(loop (q20 g) (0,[])).bind fun n=>some n).bind fun f=>(Uf f).bind fun c=>(Qw c.length f.length).bind fun _=>(q24 c).bind fun b=>(Qw b.2.length c.length).bind fun _=>(q2c b.2.length b.1).bind fun _=>some ((b.2.drop b.1.1).take b.1.2)) = some (K3 (xsOf l)):=by
  have q : idx [l] 0 = some l:=rfl
  have v : loop (q20 l) (0,[]) = some (xsOf l):=by
    have:=q5v l q6 (fun r=>[r.X0,r.X1]) [] (fun o=>o) (q20 l) (fun k h o s=>by
      have y : o.length = 2 * k:=by rw [s,List.nil_append];have:=q5r (l.take k);rw [List.length_take,Nat.min_eq_left q6] at this;exact this
      simp only [q20,dlt h,Q1,K5 h,qp,w64s h q6];rw [Z5 (by simp;omega)]
      rfl) (fun o=>by simp only [q20,dnl,Q2])
    rw [List.nil_append] at this;exact this
  have hx:=q5r l;obtain ⟨ys,t,m,u⟩:=qj8 (xsOf l) q6;have j : ys.length = (xsOf l).length:=m.length_eq;obtain ⟨w,a,c1,c2,c3,c4⟩:=qf1 u q6;obtain ⟨_,p,_⟩:=q2k (l:=xsOf l) q6
  have d : a.take w = K3 (xsOf l):=by
    refine qj9 (l:=xsOf l) ⟨c4.1,fun x=>?_⟩ p;rw [c4.2 x];exact m.mem_iff
  simp only [q,qp,v,t,Qw,j,if_true,c1,c2,q2c];rw [qs q6];simp only [qp,List.drop_zero,d]
theorem qok (l : List ql) (g : l.length≤400) (x : Int) : loop (q30 l x) (0,[]) = some (covS l x):=by
  have:=q5v l q6 (fun r=>if covR x r = true then [ysp r] else []) [] (fun o=>o) (q30 l x) (fun k a o d=>by
    have f : o.length≤k:=by rw [d,List.nil_append];have:=q3p (l.take k) x;rw [List.length_take,Nat.min_eq_left q6] at this;exact this
    simp only [q30,dlt a,Q1,K5 a,qp,w64s a q6];by_cases b : l[k].X0≤x
    · by_cases c : x < l[k].X1
      · simp only [b,c,decide_true,Q1,qp,covR,Bool.and_self,if_true];rw [Z5 (by simp;omega)];rfl
      · simp only [b,c,decide_true,decide_false,Q1,Q2,qp,covR,Bool.and_false,if_false,Bool.false_eq_true,List.append_nil]
    · simp only [b,decide_false,Q2,qp,covR,Bool.false_and,if_false,Bool.false_eq_true,List.append_nil]) (fun o=>by simp only [q30,dnl,Q2])
  rw [List.nil_append] at this;exact this
theorem qgy (l : List ql) (v : l.length≤400) (z : ∀ r∈l,vR r) : q4i l = some (if 400 < (mrgR 2 l []).length then ([],4) else (mrgR 2 l [],0)):=by
  unfold q4i;rw [qol l v];simp only [qp];have c : K3 (xsOf l ++ xsOf []) = K3 (xsOf l):=by simp [xsOf]
  obtain ⟨_,o,a⟩:=qf6 (p:=l) (q:=[]) (by simp;omega);have g:=fun i=>qos 2 (p:=l) (q:=[]) (by simp;omega) i;rw [c] at o a;have a : (K3 (xsOf l)).length≤2 * l.length:=by simpa using a
  have d : loop (q21 (K3 (xsOf l)) l) (1,[],0,0,[]) = some ((mrg 2 l []).sec,((mrg 2 l []).done.length : Int),(mrg 2 l []).hi,mrgR 2 l []):=by
    unfold mrgR mrg;rw [c] at g ⊢;generalize h : Yu (K3 (xsOf l)) (secJ 2 l []) = steps at g ⊢;have x : steps.length = (K3 (xsOf l)).length - 1:=by rw [← h];exact qdj _ _
    have j : K4 putR K2 (steps.take steps.length) = K4 putR K2 steps:=by rw [List.take_length]
    have key:=Zw (f:=q21 (K3 (xsOf l)) l) (fun k=>(((k + 1 : Nat) : Int),(K4 putR K2 (steps.take k)).sec,((K4 putR K2 (steps.take k)).done.length : Int),(K4 putR K2 (steps.take k)).hi,(K4 putR K2 (steps.take k)).flat putR))
      steps.length ((K4 putR K2 steps).sec,((K4 putR K2 steps).done.length : Int),(K4 putR K2 steps).hi,(K4 putR K2 steps).flat putR) (fun k s=>by
        have b : k + 1 < (K3 (xsOf l)).length:=by omega
        have w : steps[k] = ((K3 (xsOf l))[k],(K3 (xsOf l))[k + 1],secJ 2 l [] (K3 (xsOf l))[k]):=by
          subst h;exact qjh s b
        have y : idx (K3 (xsOf l)) (w64 (((k + 1 : Nat) : Int) - 1)) = some (K3 (xsOf l))[k]:=by rw [Qa q6];exact Ux q6 q6
        have aa:=q3p l (K3 (xsOf l))[k]
        have n : q2a (covS l (K3 (xsOf l))[k]) = some (secJ 2 l [] (K3 (xsOf l))[k],0):=by
          rw [qgz];unfold q9f;rw [qy q6,qs (qmc z _)];rfl
        have m:=qio 2 (p:=l) (q:=[]) (by simp;omega) (K3 (xsOf l))[k];have u:=g k;have hb:=qkr (K4 putR K2 (steps.take k)) (K3 (xsOf l))[k] (K3 (xsOf l))[k + 1] (secJ 2 l [] (K3 (xsOf l))[k]) (by simp at m;omega);rw [qbp putR s,w];simp only [q21,dlt b,Q1,y,K5 b,qp,show idx [l] 0 = some l from rfl,qok l v,n,hb]
        rw [w64s b q6]) (by
        rw [j];by_cases h0 : (K3 (xsOf l)).length = 0
        · have : decide (((steps.length + 1 : Nat) : Int) < ((K3 (xsOf l)).length : Int)) = false:=Qm q6;simp only [q21,this,Q2]
        · have : decide (((steps.length + 1 : Nat) : Int) < ((K3 (xsOf l)).length : Int)) = false:=Qm q6
          simp only [q21,this,Q2]) (Nat.zero_le _)
    exact key
  rw [d];simp only [qp];by_cases t : 400 < (mrgR 2 l []).length
  · rw [Qe (by omega : ((mrgR 2 l []).length : Int) > 400),qs t];rfl
  · rw [Qm (by omega : ¬ ((mrgR 2 l []).length : Int) > 400),qy t];rfl
end Go.Sh
namespace Go.Sh
open Go Go.Am
theorem qgh {kind : Int} {a b : Prop} (h : Yx kind a b) : a∨b:=by
  rcases h with ⟨_,h,_⟩ | ⟨_,h⟩ | ⟨_,_,h,_⟩
  · exact .inl h
  · exact h
  · exact .inl h
end Go.Sh
namespace Go.Sh
open Go Go.Am
noncomputable def Ye (l : List ql) : Int:=if 400 < l.length then 4 else if ∀ r∈l,vR r then (if mrgR 2 l [] = l then 0 else 8) else 8
theorem qem {l : List ql} (h : Ye l = 0) : l.length≤400∧(∀ r∈l,vR r)∧mrgR 2 l [] = l:=by
  unfold Ye at h;split at h
  · omega
  · split at h
    · split at h
      · rename_i a b c;exact ⟨q6,b,c⟩
      · omega
    · omega
theorem qr4 (l : List ql) (f : l.length≤1000000) : q78 l (fun a=>q1x a) = some (decide (¬ ∀ r∈l,vR r)):=by
  have hs : ∀ (k : Nat) (h : k < l.length),q33 l (fun a=>q1x a) (k : Int) = some (if (fun r=>!decide (vR r)) l[k] = true then .inr (.inr (k : Int)) else .inl ((k + 1 : Nat) : Int)):=by
    intro k h;simp only [q33,dlt h,Q1,K5 h,qp,w64s h f,q1x,qjy];by_cases d : vR l[k] <;> simp [d]
  have hd : q33 l (fun a=>q1x a) (l.length : Int) = some (.inr (.inl ())):=by simp only [q33,dnl,Q2]
  unfold q78 qa7;rcases q6a l (fun r=>!decide (vR r)) (fun k _=>(k : Int)) () _ hs hd with ⟨j,b⟩ | ⟨k,c,m,_,b⟩
  · rw [b];have : ∀ r∈l,vR r:=fun r g=>by simpa using j r g
    simp [];omega
  · rw [b];have : ¬ ∀ r∈l,vR r:=fun h=>by simp [h _ (Yi c)] at m
    simp only [qp];rw [Qe this,Qe q6]
theorem qd1 (l : List ql) : q2y l = some (Ye l):=by
  unfold q2y Ye;by_cases d : 400 < l.length
  · rw [Qe (by omega : (l.length : Int) > 400),Q1,qs d]
  rw [Qm (by omega : ¬ (l.length : Int) > 400),Q2,qy d,qr4 l q6,qp];by_cases a : ∀ r∈l,vR r
  · rw [Qm (fun h=>h a),Q2,qgy l q6 a,qs a,qp];by_cases b : 400 < (mrgR 2 l []).length
    · have c : mrgR 2 l []≠l:=fun h=>by rw [h] at b;exact d b
      rw [qs b,qy c];rfl
    · rw [qy b];simp only [q3r (mrgR 2 l []) l q6];by_cases f : mrgR 2 l [] = l <;> simp [f]
  · rw [Qe a,Q1,qy a]
def putB (a b : Int) (r : ql) : qn:={Lo:={X:=r.X0,Y:=r.Y0,Z:=a},Hi:={X:=r.X1,Y:=r.Y1,Z:=b}}
def Yf (z : Int) : Prop:=-1000000≤z∧z≤1000000
instance (z : Int) : Decidable (Yf z):=by unfold Yf;infer_instance
end Go.Sh
namespace Go.Sh
open Go Go.Am
def covB (z : Int) (b : qn) : Bool:=decide (b.Lo.Z≤z) && decide (z < b.Hi.Z)
def Zm (b : qn) : ql:={X0:=b.Lo.X,Y0:=b.Lo.Y,X1:=b.Hi.X,Y1:=b.Hi.Y}
def atB (l : List qn) (z : Int) : List ql:=l.flatMap fun b=>if covB z b = true then [Zm b] else []
theorem q5y (l : List qn) (x : Int) : (atB l x).length≤l.length:=by
  unfold atB
  induction l with
  | nil=>simp
  | cons r l ih=>
    simp only [List.flatMap_cons,List.length_append,List.length_cons];have : (if covB x r = true then [Zm r] else []).length≤1:=by split <;> simp
    omega
def zsOf (l : List qn) : List Int:=l.flatMap fun b=>[b.Lo.Z,b.Hi.Z]
theorem q5s (l : List qn) : (zsOf l).length = 2 * l.length:=by
  unfold zsOf;induction l with
  | nil=>rfl
  | cons r l ih=>simp only [List.flatMap_cons,List.length_append,List.length_cons,List.length_nil];omega
structure qxz (kind : Int) (p q : List qn) (z : Int) : Prop where
  n : (atB p z).length + (atB q z).length≤490
  m : (mrgR kind (atB p z) (atB q z)).length≤400
  mp : (mrgR 2 (atB p z) []).length≤400
  mq : (mrgR 2 (atB q z) []).length≤400
noncomputable def secB (kind : Int) (p q : List qn) (z : Int) : List ql:=mrgR kind (atB p z) (atB q z)
noncomputable def mrgB (kind : Int) (p q : List qn) : List qn:=(K4 putB K2 (Yu (K3 (zsOf p ++ zsOf q)) (secB kind p q))).flat putB
section
variable {σ β : Type} (put : Int→Int→σ→β)
def Alike (s t : Mg σ β) : Prop:=s = t∨(s.flat put = t.flat put∧s.sec = []∧t.sec = [])
theorem Alike.flat {s t : Mg σ β} (h : Alike put s t) : s.flat put = t.flat put:=by
  rcases h with rfl | h
  · rfl
  · exact h.1
end
section
variable {σ β : Type} [DecidableEq σ] (put : Int→Int→σ→β)
def runM (sec : Int→List σ) : Mg σ β→List Int→Mg σ β
  | s,a::b::r=>runM sec (addM put s a b (sec a)) (b::r)
  | s,_=>s
theorem qft (sec : Int→List σ) : ∀ (c : List Int) (s : Mg σ β),K4 put s (Yu c sec) = runM put sec s c
  | [],s=>rfl
  | [a],s=>rfl
  | a::b::r,s=>by
    have:=qft sec (b::r) (addM put s a b (sec a))
    simp only [runM,← this]
    rfl
theorem Alike.add {s t : Mg σ β} (h : Alike put s t) (a b : Int) (c : List σ) : Alike put (addM put s a b c) (addM put t a b c):=by
  rcases h with rfl | ⟨m,k,n⟩
  · exact .inl rfl
  · refine .inl ?_;rcases q3m put s a b c with ⟨g,f,_,_⟩ | ⟨_,d⟩
    · exact absurd (f.trans k) g
    · rcases q3m put t a b c with ⟨j,o,_,_⟩ | ⟨_,l⟩
      · exact absurd (o.trans n) j
      · rw [d,l,m]
end
end Go.Sh
namespace Go.Sh
open Go Go.Am
structure Grp (σ : Type) where
  lo : Int
  hi : Int
  sec : List σ
section
variable {σ β : Type}
def CanG (gs : List (Grp σ)) : Prop:=(∀ g∈gs,g.lo < g.hi∧g.sec≠[])∧gs.Pairwise (fun g h=>g.hi≤h.lo∧(g.hi = h.lo→g.sec≠h.sec))
def secG : List (Grp σ)→Int→List σ
  | [],_=>[]
  | g::r,x=>if g.lo≤x∧x < g.hi then g.sec else secG r x
def Ks (put : Int→Int→σ→β) (gs : List (Grp σ)) : List β:=gs.flatMap fun g=>g.sec.map (put g.lo g.hi)
theorem qn3 (put : Int→Int→σ→β) (a b : List (Grp σ)) : Ks put (a ++ b) = Ks put a ++ Ks put b:=by simp [Ks]
theorem q23 {y x : Int} : ∀ {r : List (Grp σ)},(∀ h∈r,y≤h.lo)→x < y→secG r x = []
  | [],_,_=>rfl
  | g::r,h,hx=>by
    have:=h g qe
    rw [secG,qy q6]
    exact q23 (fun k a=>h k (by simp [a])) hx
theorem q4n {y x : Int} : ∀ {r : List (Grp σ)},(∀ h∈r,h.hi≤y)→y≤x→secG r x = []
  | [],_,_=>rfl
  | g::r,h,hx=>by
    have:=h g qe
    rw [secG,qy q6]
    exact q4n (fun k a=>h k (by simp [a])) hx
theorem q75 {x : Int} : ∀ {a b : List (Grp σ)},secG a x = []→(∀ g∈a,g.sec≠[])→secG (a ++ b) x = secG b x
  | [],_,_,_=>rfl
  | g::a,b,h,hne=>by
    rw [secG] at h
    split at h
    · exact absurd h (hne g qe)
    · rename_i d
      rw [List.cons_append,secG,qy d]
      exact q75 h fun k c=>hne k (by simp [c])
theorem qd8 {y x : Int} {a b : List (Grp σ)} (hb : ∀ h∈b,y≤h.lo) (c : x < y) : secG (a ++ b) x = secG a x:=by
  induction a with
  | nil=>exact q23 hb c
  | cons g a ih=>simp only [List.cons_append,secG,ih]
theorem CanG.tail {g : Grp σ} {r : List (Grp σ)} (h : CanG (g::r)) : CanG r:=⟨fun k a=>h.1 k (by simp [a]),(List.pairwise_cons.1 h.2).2⟩
theorem CanG.nxt {g : Grp σ} {r : List (Grp σ)} (h : CanG (g::r)) : ∀ k∈r,g.hi≤k.lo∧(g.hi = k.lo→g.sec≠k.sec):=(List.pairwise_cons.1 h.2).1
theorem q22 {g : Grp σ} {r : List (Grp σ)} {x : Int} (a : g.lo≤x) (b : x < g.hi) : secG (g::r) x = g.sec:=by rw [secG,qs ⟨a,b⟩]
theorem qss {g : Grp σ} {r : List (Grp σ)} (h : CanG (g::r)) : secG (g::r) g.hi≠g.sec:=by
  rw [secG,qy q6]
  cases r with
  | nil=>exact fun e=>(h.1 g qe).2 e.symm
  | cons k r=>
    have b:=h.nxt k qe;have c:=h.tail.1 k qe;by_cases d : g.hi = k.lo
    · rw [q22 q6 q6];exact fun e=>b.2 d e.symm
    · rw [secG,qy q6,q23 (y:=k.hi) (fun m a=>(h.tail.nxt m a).1) q6];exact fun e=>(h.1 g qe).2 e.symm
theorem qb6 : ∀ {a b : List (Grp σ)},CanG a→CanG b→(∀ x,secG a x = secG b x)→a = b
  | [],[],_,_,_=>rfl
  | [],g::r,_,hb,h=>by
    have:=h g.lo
    rw [q22 (Int.le_refl _) (hb.1 g qe).1] at this
    exact absurd this.symm (hb.1 g qe).2
  | g::r,[],c,_,h=>by
    have:=h g.lo
    rw [q22 (Int.le_refl _) (c.1 g qe).1] at this
    exact absurd this (c.1 g qe).2
  | g::r,k::s,c,hb,h=>by
    have q:=c.1 g qe
    have t:=hb.1 k qe
    have low : ∀ {g k : Grp σ} {r s : List (Grp σ)},CanG (g::r)→CanG (k::s)→(∀ x,secG (g::r) x = secG (k::s) x)→k.lo≤g.lo:=by
      intro g k r s c hb h;refine Int.not_lt.1 fun f=>?_;have d:=h g.lo;rw [q22 (Int.le_refl _) (c.1 g qe).1,q23 (y:=k.lo) (fun m j=>?_) f] at d
      · exact (c.1 g qe).2 d
      · rcases List.mem_cons.1 j with rfl | j
        · exact Int.le_refl _
        · have:=(hb.nxt m j).1;have:=(hb.1 k qe).1;omega
    have n : g.lo = k.lo:=Int.le_antisymm (low hb c fun x=>(h x).symm) (low c hb h)
    have l : g.sec = k.sec:=by
      have d:=h g.lo
      rwa [q22 (Int.le_refl _) q.1,q22 q6 q6] at d
    have hi : ∀ {g k : Grp σ} {r s : List (Grp σ)},CanG (g::r)→CanG (k::s)→(∀ x,secG (g::r) x = secG (k::s) x)→g.lo = k.lo→g.sec = k.sec→k.hi≤g.hi:=by
      intro g k r s c hb h n l;refine Int.not_lt.1 fun f=>?_;have d:=h g.hi;have:=(c.1 g qe).1;rw [q22 (g:=k) q6 f,← l] at d;exact qss c d
    have p : g.hi = k.hi:=Int.le_antisymm (hi hb c (fun x=>(h x).symm) n.symm l.symm) (hi c hb h n l)
    have e : g = k:=by cases g;cases k;simp at n l p;simp [n,l,p]
    subst e
    have : r = s:=qb6 c.tail hb.tail fun x=>by
      by_cases o : x < g.hi
      · rw [q23 (y:=g.hi) (fun m j=>(c.nxt m j).1) o,q23 (y:=g.hi) (fun m j=>(hb.nxt m j).1) o]
      · have d:=h x
        rwa [secG,secG,qy q6,qy q6] at d
    rw [this]
def curG (s : Mg σ β) : List (Grp σ):=if s.sec = [] then [] else [⟨s.lo,s.hi,s.sec⟩]
def secC (sec : Int→List σ) : List Int→Int→List σ
  | a::b::r,x=>if a≤x∧x < b then sec a else secC sec (b::r) x
  | _,_=>[]
theorem qfr (put : Int→Int→σ→β) (s : Mg σ β) (a : List (Grp σ)) (h : s.done = Ks put a) : s.flat put = Ks put (a ++ curG s):=by
  rw [qn3,Mg.flat,h];unfold curG;split
  · rename_i b;simp [b,Ks]
  · simp [Ks]
theorem q9g {s : Mg σ β} {g : Grp σ} (h : g∈curG s) : s.sec≠[]∧g = ⟨s.lo,s.hi,s.sec⟩:=by
  unfold curG at h;split at h
  · cases h
  · rename_i a;exact ⟨a,by simpa using h⟩
theorem q9z (sec : Int→List σ) {x : Int} : ∀ {d : List Int},d.Pairwise (· < ·)→
    (∀ a∈d,a≤x→(∀ c∈d,c≤a∨x < c)→sec a = sec x)→((∀ c∈d,x < c)→sec x = [])→((∀ c∈d,c≤x)→sec x = [])→secC sec d x = sec x
  | [],_,_,h2,_=>(h2 qe).symm
  | [a],_,_,h2,h3=>by
    rw [secC]
    · by_cases k : x < a
      · exact (h2 (by simpa using k)).symm
      · exact (h3 (by simpa using k)).symm
    · intro a b r h;simp at h
  | a::b::r,hp,h1,h2,h3=>by
    have o : a < b:=(List.pairwise_cons.1 hp).1 b qe
    have m:=(List.pairwise_cons.1 (List.pairwise_cons.1 hp).2).1
    rw [secC]
    split
    · rename_i k
      refine h1 a qe k.1 fun c f=>?_
      rcases List.mem_cons.1 f with rfl | f
      · exact .inl (Int.le_refl _)
      · rcases List.mem_cons.1 f with rfl | f
        · exact .inr k.2
        · have:=m c f;exact .inr q6
    · rename_i k
      by_cases n : x < a
      · have e : sec x = []:=h2 fun c f=>by
          rcases List.mem_cons.1 f with rfl | f
          · exact n
          · have:=(List.pairwise_cons.1 hp).1 c f;omega
        have:=q9z sec (x:=x) (List.pairwise_cons.1 hp).2 (fun a' j l _=>by
          exfalso;have:=(List.pairwise_cons.1 hp).1 a' j;omega) (fun _=>e) (fun _=>e)
        exact this
      · have p : b≤x:=by omega
        exact q9z sec (List.pairwise_cons.1 hp).2 (fun a' j l g=>h1 a' (by simp [j]) l fun c f=>by
          rcases List.mem_cons.1 f with rfl | f
          · have:=(List.pairwise_cons.1 hp).1 a' j;exact .inl q6
          · exact g c f) (fun g=>by have:=g b qe;omega) (fun g=>h3 fun c f=>by
          rcases List.mem_cons.1 f with rfl | f
          · omega
          · exact g c f)
variable [DecidableEq σ] (put : Int→Int→σ→β)
structure InvG (s : Mg σ β) (gs : List (Grp σ)) (c : Int) : Prop where
  done : s.done = Ks put gs
  can : CanG (gs ++ curG s)
  le : ∀ g∈gs ++ curG s,g.hi≤c
  gap : s.sec = []→∀ g∈gs,g.hi = c→False
theorem qo5 {s : Mg σ β} {l : List (Grp σ)} {a b : Int} {c : List σ} (v : a < b) (hi : InvG put s l a) :
    ∃ p,InvG put (addM put s a b c) p b∧∀ x,secG (p ++ curG (addM put s a b c)) x = if a≤x∧x < b then c else secG (l ++ curG s) x:=by
  rcases q3m put s a b c with ⟨h1,h2,h3,z⟩ | ⟨h1,z⟩
  · rw [z];have hs : s.sec≠[]:=h2 ▸ h1;have c1 : curG s = [⟨s.lo,s.hi,s.sec⟩]:=by unfold curG;rw [qy hs]
    have c2 : curG (⟨s.done,s.sec,s.lo,b⟩ : Mg σ β) = [⟨s.lo,b,s.sec⟩]:=by unfold curG;rw [qy hs]
    have f:=hi.can;rw [c1] at f;have ai : s.lo < s.hi:=(f.1 ⟨s.lo,s.hi,s.sec⟩ qe).1;refine ⟨l,⟨hi.done,?_,?_,fun h=>absurd h hs⟩,?_⟩
    · rw [c2];refine ⟨fun g d=>?_,?_⟩
      · rcases List.mem_append.1 d with d | d
        · exact f.1 g (by simp [d])
        · obtain rfl:=List.mem_singleton.1 d;exact ⟨by simp only;omega,hs⟩
      · have:=List.pairwise_append.1 f.2;refine List.pairwise_append.2 ⟨this.1,qe,fun g d k w=>?_⟩;obtain rfl:=List.mem_singleton.1 w;exact this.2.2 g d ⟨s.lo,s.hi,s.sec⟩ qe
    · rw [c2];intro g d;rcases List.mem_append.1 d with d | d
      · have:=hi.le g (by simp [d]);omega
      · obtain rfl:=List.mem_singleton.1 d;exact Int.le_refl _
    · intro x;rw [c1,c2];have ad : ∀ g∈l,g.hi≤s.lo:=fun g d=>((List.pairwise_append.1 f.2).2.2 g d ⟨s.lo,s.hi,s.sec⟩ qe).1;have r : ∀ g∈l,g.sec≠[]:=fun g d=>(f.1 g (by simp [d])).2;by_cases n : x < s.lo
      · rw [qy q6,qd8 (y:=s.lo) qe n,qd8 (y:=s.lo) qe n]
      · have e : secG l x = []:=q4n ad q6;rw [q75 e r,q75 e r];simp only [secG];by_cases u : x < s.hi
        · rw [qs ⟨q6,q6⟩,qy q6,qs ⟨q6,u⟩]
        · by_cases o : x < b
          · rw [qs ⟨q6,o⟩,qs ⟨q6,o⟩,h2]
          · rw [qy q6,qy q6,qy q6]
  · rw [z];have hd : s.flat put = Ks put (l ++ curG s):=qfr put s l hi.done;refine ⟨l ++ curG s,⟨hd,?_,?_,?_⟩,?_⟩
    · by_cases m : c = []
      · have : curG (⟨s.flat put,c,a,b⟩ : Mg σ β) = []:=by unfold curG;rw [qs m]
        rw [this,List.append_nil];exact hi.can
      · have : curG (⟨s.flat put,c,a,b⟩ : Mg σ β) = [⟨a,b,c⟩]:=by unfold curG;rw [qy m]
        rw [this];refine ⟨fun g d=>?_,List.pairwise_append.2 ⟨hi.can.2,qe,fun g d k w=>?_⟩⟩
        · rcases List.mem_append.1 d with d | d
          · exact hi.can.1 g d
          · obtain rfl:=List.mem_singleton.1 d;exact ⟨v,m⟩
        · obtain rfl:=List.mem_singleton.1 w;refine ⟨hi.le g d,fun t q=>?_⟩;rcases List.mem_append.1 d with j | j
          · by_cases hs : s.sec = []
            · exact hi.gap hs g j t
            · have h5 : (⟨s.lo,s.hi,s.sec⟩ : Grp σ)∈curG s:=by unfold curG;rw [qy hs];simp
              have h6:=((List.pairwise_append.1 hi.can.2).2.2 g j _ h5).1;have h7:=(hi.can.1 _ (List.mem_append.2 (.inr h5))).1;have h8:=hi.le _ (List.mem_append.2 (.inr h5));simp only at t h6 h7 h8;omega
          · obtain ⟨hs,rfl⟩:=q9g j;exact h1 ⟨m,q.symm,t⟩
    · intro g d;rcases List.mem_append.1 d with d | d
      · have:=hi.le g d;omega
      · obtain ⟨_,rfl⟩:=q9g d;exact Int.le_refl _
    · intro m g d t;have:=hi.le g d;omega
    · intro x;by_cases n : a≤x∧x < b
      · rw [qs n,q75 (q4n hi.le n.1) fun g d=>(hi.can.1 g d).2];unfold curG;split
        · rename_i m;simp only at m;rw [m];rfl
        · simp only [secG];rw [qs n]
      · rw [qy n];by_cases ac : x < a
        · exact qd8 (y:=a) (fun g d=>by obtain ⟨_,rfl⟩:=q9g d;exact Int.le_refl _) ac
        · have e:=q4n (x:=x) hi.le q6;rw [q75 e fun g d=>(hi.can.1 g d).2,e];exact q4n (y:=b) (fun g d=>by obtain ⟨_,rfl⟩:=q9g d;exact Int.le_refl _) q6
theorem qij (sec : Int→List σ) : ∀ (d : List Int) (c : Int) (s : Mg σ β) (h : List (Grp σ)),(c::d).Pairwise (· < ·)→InvG put s h c→
    ∃ f,(runM put sec s (c::d)).flat put = Ks put f∧CanG f∧∀ x,secG f x = if x < c then secG (h ++ curG s) x else secC sec (c::d) x
  | [],c,s,h,_,hi=>by
    refine ⟨h ++ curG s,qfr put s h hi.done,hi.can,fun x=>?_⟩
    by_cases k : x < c
    · rw [qs k]
    · rw [qy k];exact q4n hi.le q6
  | b::d,a,s,h,hp,hi=>by
    have n : a < b:=(List.pairwise_cons.1 hp).1 b qe
    obtain ⟨f,l,j⟩:=qo5 (b:=b) (c:=sec a) put n hi
    obtain ⟨m,o,q,p⟩:=qij sec d b _ f (List.pairwise_cons.1 hp).2 l
    refine ⟨m,o,q,fun x=>?_⟩
    rw [p x]
    by_cases k : x < a
    · rw [qs q6,qs k,j,qy q6]
    · rw [qy k]
      simp only [secC]
      by_cases g : x < b
      · rw [qs g,j,qs ⟨q6,g⟩,qs ⟨q6,g⟩]
      · rw [qy g,qy q6]
theorem qh7 (sec : Int→List σ) {a : List Int} (f : a.Pairwise (· < ·)) :
    ∃ d,(K4 put K2 (Yu a sec)).flat put = Ks put d∧CanG d∧∀ x,secG d x = secC sec a x:=by
  rw [qft]
  cases a with
  | nil=>exact ⟨[],rfl,⟨qe,qe⟩,fun x=>rfl⟩
  | cons c a=>
    obtain ⟨d,h,k,j⟩:=qij put sec a c (K2 : Mg σ β) [] f ⟨rfl,⟨by simp [curG,K2],by simp [curG,K2]⟩,by simp [curG,K2],qe⟩;refine ⟨d,h,k,fun x=>?_⟩;rw [j x];split
    · rename_i g
      have : ∀ (a : List Int) (c : Int),(c::a).Pairwise (· < ·)→x < c→secC sec (c::a) x = []:=by
        intro a
        induction a with
        | nil=>intros;rfl
        | cons b r ih=>
          intro c hp g;rw [secC,qy q6];exact ih b (List.pairwise_cons.1 hp).2 (by have:=(List.pairwise_cons.1 hp).1 b qe;omega)
      rw [this a c f g];rfl
    · rfl
end
end Go.Sh
namespace Go.Sh
open Go Go.Am
section
variable {σ : Type}
theorem qda {x : Int} : ∀ (b : List (Grp σ)),secG b x = []∨∃ g∈b,g.lo≤x∧x < g.hi∧secG b x = g.sec
  | []=>.inl rfl
  | g::r=>by
    by_cases a : g.lo≤x∧x < g.hi
    · exact .inr ⟨g,qe,a.1,a.2,by rw [secG,qs a]⟩
    · rw [secG,qy a]
      rcases qda r with h | ⟨k,c,h⟩
      · exact .inl h
      · exact .inr ⟨k,by simp [c],h⟩
theorem qd9 : ∀ {b : List (Grp σ)},CanG b→∀ g∈b,∀ x,g.lo≤x→x < g.hi→secG b x = g.sec
  | k::r,h,g,a,x,h1,h2=>by
    rcases List.mem_cons.1 a with rfl | a
    · exact q22 h1 h2
    · have:=(h.nxt g a).1
      rw [secG,qy q6]
      exact qd9 h.tail g a x h1 h2
end
theorem qgm (kind : Int) : U9 kind [] [] = []:=by
  have a:=(q6i kind [] [] qe qe).2;refine q60 a.can ⟨qe,qe⟩ fun x=>?_;rw [a.pts];have:=Uw x;unfold Yx;simp [this]
theorem qm9 (a b : List ql) (x : Int) : covS (a ++ b) x = covS a x ++ covS b x:=by simp [covS]
theorem qmb (s : List qm) (lo hi x : Int) : covS (s.map (putR lo hi)) x = if lo≤x∧x < hi then s else []:=by
  induction s with
  | nil=>simp [covS]
  | cons t s ih=>
    have e : covS (List.map (putR lo hi) (t::s)) x = (if covR x (putR lo hi t) = true then [t] else []) ++ covS (s.map (putR lo hi)) x:=rfl;rw [e,ih];have : covR x (putR lo hi t) = (decide (lo≤x) && decide (x < hi)):=rfl;rw [this];by_cases a : lo≤x <;> by_cases b : x < hi <;> simp [a,b]
theorem q64 : ∀ {b : List (Grp qm)},CanG b→∀ x,covS (Ks putR b) x = secG b x
  | [],_,x=>rfl
  | g::r,h,x=>by
    have e : Ks putR (g::r) = g.sec.map (putR g.lo g.hi) ++ Ks putR r:=rfl
    rw [e,qm9,qmb,q64 h.tail x]
    by_cases a : g.lo≤x∧x < g.hi
    · rw [qs a,secG,qs a,q23 (y:=g.hi) (fun m c=>(h.nxt m c).1) a.2,List.append_nil]
    · rw [qy a,secG,qy a,List.nil_append]
theorem qf5 {l : List ql} {a x : Int} (h : ∀ r∈l,covR a r = covR x r) : covS l a = covS l x:=by
  induction l with
  | nil=>rfl
  | cons r l ih=>
    have e : ∀ y,covS (r::l) y = (if covR y r = true then [ysp r] else []) ++ covS l y:=fun _=>rfl;rw [e,e,h r qe,ih fun k b=>h k (by simp [b])]
theorem q8v {l : List ql} {x : Int} (h : ∀ r∈l,covR x r = false) : covS l x = []:=by
  induction l with
  | nil=>rfl
  | cons r l ih=>
    have e : covS (r::l) x = (if covR x r = true then [ysp r] else []) ++ covS l x:=rfl;rw [e,h r qe,ih fun k a=>h k (by simp [a])];rfl
theorem q3o {x : Int} {r : ql} : covR x r = true↔r.X0≤x∧x < r.X1:=by simp [covR]
theorem qh5 {p q : List ql} {r : ql} (h : r∈p∨r∈q) : r.X0∈xsOf p ++ xsOf q∧r.X1∈xsOf p ++ xsOf q:=by
  unfold xsOf;simp only [List.mem_append,List.mem_flatMap];rcases h with h | h
  · exact ⟨.inl ⟨r,h,qe⟩,.inl ⟨r,h,qe⟩⟩
  · exact ⟨.inr ⟨r,h,qe⟩,.inr ⟨r,h,qe⟩⟩
theorem qhb (kind : Int) {p q : List ql} (h : p.length + q.length≤100000) :
    ∃ f,mrgR kind p q = Ks putR f∧CanG f∧∀ x,secG f x = secJ kind p q x:=by
  have t:=q5r p;have u:=q5r q;have hs:=(q2k (l:=xsOf p ++ xsOf q) (by simp;omega)).2.1;obtain ⟨f,k,n,m⟩:=qh7 putR (secJ kind p q) hs.1;refine ⟨f,k,n,fun x=>?_⟩;rw [m]
  have g : ∀ r,(r∈p∨r∈q)→r.X0∈K3 (xsOf p ++ xsOf q)∧r.X1∈K3 (xsOf p ++ xsOf q):=fun r b=>
    ⟨(hs.2 _).2 (qh5 b).1,(hs.2 _).2 (qh5 b).2⟩
  refine q9z _ hs.1 (fun a _ o c=>?_) (fun c=>?_) (fun c=>?_)
  · have d : ∀ r,(r∈p∨r∈q)→covR a r = covR x r:=fun r b=>by
      have j:=c _ (g r b).1;have s:=c _ (g r b).2;rw [Bool.eq_iff_iff,q3o,q3o];omega
    unfold secJ;rw [qf5 fun r b=>d r (.inl b),qf5 fun r b=>d r (.inr b)]
  · have d : ∀ r,(r∈p∨r∈q)→covR x r = false:=fun r b=>by
      have j:=c _ (g r b).1;rw [← Bool.not_eq_true,q3o];omega
    unfold secJ;rw [q8v fun r b=>d r (.inl b),q8v fun r b=>d r (.inr b),qgm]
  · have d : ∀ r,(r∈p∨r∈q)→covR x r = false:=fun r b=>by
      have j:=c _ (g r b).2;rw [← Bool.not_eq_true,q3o];omega
    unfold secJ;rw [q8v fun r b=>d r (.inl b),q8v fun r b=>d r (.inr b),qgm]
def CanR (l : List ql) : Prop:=∃ gs : List (Grp qm),l = Ks putR gs∧CanG gs∧∀ g∈gs,Can g.sec
theorem ql2 : Can []:=⟨qe,qe⟩
theorem CanR.nil : CanR []:=⟨[],rfl,⟨qe,qe⟩,qe⟩
theorem CanR.cov {l : List ql} (h : CanR l) (x : Int) : Can (covS l x):=by
  obtain ⟨b,rfl,c,a⟩:=h;rw [q64 c];rcases qda (x:=x) b with e | ⟨g,d,_,_,e⟩
  · rw [e];exact ql2
  · rw [e];exact a g d
theorem qb7 {a b : List ql} (c : CanR a) (hb : CanR b) (h : ∀ x y,hasR a x y↔hasR b x y) : a = b:=by
  have g : ∀ x,covS a x = covS b x:=fun x=>q60 (c.cov x) (hb.cov x) fun y=>by rw [q3x,q3x];exact h x y
  obtain ⟨j,rfl,f,_⟩:=c;obtain ⟨k,rfl,d,_⟩:=hb;rw [qb6 f d fun x=>by rw [← q64 f,← q64 d];exact g x]
theorem qip (kind : Int) {p q : List ql} (h : p.length + q.length≤100000) (x : Int) : qat kind (covS p x) (covS q x) (secJ kind p q x):=by
  have a:=q3p p x;have b:=q3p q x;exact (q6i kind (covS p x) (covS q x) q6 q6).2
theorem q9j (kind : Int) {p q : List ql} (h : p.length + q.length≤100000) : CanR (mrgR kind p q):=by
  obtain ⟨f,c,a,d⟩:=qhb kind h;refine ⟨f,c,a,fun g b=>?_⟩;have:=d g.lo;rw [qd9 a g b _ (Int.le_refl _) (a.1 g b).1] at this;rw [this];exact (qip kind h _).can
theorem qma (kind : Int) {p q : List ql} (h : p.length + q.length≤100000) (x : Int) : covS (mrgR kind p q) x = secJ kind p q x:=by
  obtain ⟨d,a,c,b⟩:=qhb kind h;rw [a,q64 c,b]
theorem q97 (kind : Int) {p q : List ql} (h : p.length + q.length≤100000) (x y : Int) : hasR (mrgR kind p q) x y↔Yx kind (hasR p x y) (hasR q x y):=by
  rw [← q3x,qma kind h,(qip kind h x).pts,q3x,q3x]
theorem qbx (x y : Int) : ¬ hasR [] x y:=by rintro ⟨r,h,_⟩;cases h
theorem qc0 {a b : Prop} : Yx 2 a b↔a∨b:=by unfold Yx;simp
theorem qnr {l : List ql} (h : l.length≤100000) (x y : Int) : hasR (mrgR 2 l []) x y↔hasR l x y:=by
  rw [q97 2 (by simpa using h),qc0];simp [qbx]
theorem qor {l : List ql} (a : l.length≤100000) (h : CanR l) : mrgR 2 l [] = l:=
  qb7 (q9j 2 (by simpa using a)) h fun x y=>qnr a x y
theorem qh3 {σ β : Type} {put : Int→Int→σ→β} {a : List (Grp σ)} {r : β} : r∈Ks put a↔∃ g∈a,∃ t∈g.sec,r = put g.lo g.hi t:=by
  unfold Ks;simp only [List.mem_flatMap,List.mem_map];exact ⟨fun ⟨g,hg,t,ht,e⟩=>⟨g,hg,t,ht,e.symm⟩,fun ⟨g,hg,t,ht,e⟩=>⟨g,hg,t,ht,e.symm⟩⟩
theorem CanR.lt {l : List ql} (h : CanR l) : ∀ r∈l,r.X0 < r.X1∧r.Y0 < r.Y1:=by
  obtain ⟨j,rfl,d,b⟩:=h;intro r c;obtain ⟨g,a,t,f,rfl⟩:=qh3.1 c;exact ⟨(d.1 g a).1,(b g a).1 t f⟩
def InR (l : List ql) : Prop:=∀ x y,hasR l x y→(-1000000≤x∧x < 1000000)∧(-1000000≤y∧y < 1000000)
theorem CanR.vR {l : List ql} (h : CanR l) (hi : InR l) : ∀ r∈l,vR r:=by
  intro r a;have c:=h.lt r a;have b:=hi r.X0 r.Y0 ⟨r,a,q6⟩;have d:=hi (r.X1 - 1) (r.Y1 - 1) ⟨r,a,q6⟩;unfold Go.Sh.vR;omega
theorem InR.mrg {kind : Int} {p q : List ql} (h : p.length + q.length≤100000) (hp : InR p) (b : InR q) : InR (mrgR kind p q):=fun x y c=>by
  rcases qgh ((q97 kind h x y).1 c) with a | a
  · exact hp x y a
  · exact b x y a
theorem InR.nil : InR []:=fun x y h=>absurd h (qbx x y)
theorem qbb {l : List ql} : Ye l = 0↔l.length≤400∧(∀ r∈l,vR r)∧CanR l:=by
  constructor
  · intro h;obtain ⟨c,b,a⟩:=qem h;exact ⟨c,b,a ▸ q9j 2 (by simp;omega)⟩
  · rintro ⟨c,b,a⟩;unfold Ye;rw [qy q6,qs b,qs (qor q6 a)]
end Go.Sh
namespace Go.Sh
open Go Go.Am
def hasB (l : List qn) (x y z : Int) : Prop:=∃ b∈l,(b.Lo.X≤x∧x < b.Hi.X)∧(b.Lo.Y≤y∧y < b.Hi.Y)∧(b.Lo.Z≤z∧z < b.Hi.Z)
theorem q1f {z : Int} {b : qn} : covB z b = true↔b.Lo.Z≤z∧z < b.Hi.Z:=by simp [covB]
theorem qc9 {l : List qn} {z : Int} {r : ql} : r∈atB l z↔∃ b∈l,(b.Lo.Z≤z∧z < b.Hi.Z)∧r = Zm b:=by
  unfold atB;rw [List.mem_flatMap];constructor
  · rintro ⟨b,hb,h⟩;split at h
    · rename_i a;exact ⟨b,hb,q1f.1 a,by simpa using h⟩
    · cases h
  · rintro ⟨b,hb,a,rfl⟩;exact ⟨b,hb,by rw [qs (q1f.2 a)];simp⟩
theorem q2s {l : List qn} {x y z : Int} : hasR (atB l z) x y↔hasB l x y z:=by
  constructor
  · rintro ⟨r,h,d,a,f,c⟩;obtain ⟨b,hb,g,rfl⟩:=qc9.1 h;exact ⟨b,hb,⟨d,a⟩,⟨f,c⟩,g⟩
  · rintro ⟨b,hb,⟨d,a⟩,⟨f,c⟩,g⟩;exact ⟨Zm b,qc9.2 ⟨b,hb,g,rfl⟩,d,a,f,c⟩
theorem qbw (x y z : Int) : ¬ hasB [] x y z:=by rintro ⟨r,h,_⟩;cases h
theorem qkn (a b : List qn) (z : Int) : atB (a ++ b) z = atB a z ++ atB b z:=by simp [atB]
theorem qko (s : List ql) (lo hi z : Int) : atB (s.map (putB lo hi)) z = if lo≤z∧z < hi then s else []:=by
  induction s with
  | nil=>simp [atB]
  | cons t s ih=>
    have e : atB (List.map (putB lo hi) (t::s)) z = (if covB z (putB lo hi t) = true then [t] else []) ++ atB (s.map (putB lo hi)) z:=rfl;rw [e,ih];have : covB z (putB lo hi t) = (decide (lo≤z) && decide (z < hi)):=rfl;rw [this];by_cases a : lo≤z <;> by_cases b : z < hi <;> simp [a,b]
theorem q5x : ∀ {b : List (Grp ql)},CanG b→∀ z,atB (Ks putB b) z = secG b z
  | [],_,z=>rfl
  | g::r,h,z=>by
    have e : Ks putB (g::r) = g.sec.map (putB g.lo g.hi) ++ Ks putB r:=rfl
    rw [e,qkn,qko,q5x h.tail z]
    by_cases a : g.lo≤z∧z < g.hi
    · rw [qs a,secG,qs a,q23 (y:=g.hi) (fun m c=>(h.nxt m c).1) a.2,List.append_nil]
    · rw [qy a,secG,qy a,List.nil_append]
theorem qeb {l : List qn} {a x : Int} (h : ∀ r∈l,covB a r = covB x r) : atB l a = atB l x:=by
  induction l with
  | nil=>rfl
  | cons r l ih=>
    have e : ∀ y,atB (r::l) y = (if covB y r = true then [Zm r] else []) ++ atB l y:=fun _=>rfl;rw [e,e,h r qe,ih fun k b=>h k (by simp [b])]
theorem q8q {l : List qn} {x : Int} (h : ∀ r∈l,covB x r = false) : atB l x = []:=by
  induction l with
  | nil=>rfl
  | cons r l ih=>
    have e : atB (r::l) x = (if covB x r = true then [Zm r] else []) ++ atB l x:=rfl;rw [e,h r qe,ih fun k a=>h k (by simp [a])];rfl
theorem qh6 {p q : List qn} {r : qn} (h : r∈p∨r∈q) : r.Lo.Z∈zsOf p ++ zsOf q∧r.Hi.Z∈zsOf p ++ zsOf q:=by
  unfold zsOf;simp only [List.mem_append,List.mem_flatMap];rcases h with h | h
  · exact ⟨.inl ⟨r,h,qe⟩,.inl ⟨r,h,qe⟩⟩
  · exact ⟨.inr ⟨r,h,qe⟩,.inr ⟨r,h,qe⟩⟩
theorem qhc (kind : Int) : mrgR kind [] [] = []:=by
  refine qb7 (q9j kind qe) .nil fun x y=>?_;rw [q97 kind qe];have:=qbx x y;unfold Yx;simp [this]
theorem qha (kind : Int) {p q : List qn} (h : p.length + q.length≤100000) :
    ∃ f,mrgB kind p q = Ks putB f∧CanG f∧∀ z,secG f z = secB kind p q z:=by
  have t:=q5s p;have u:=q5s q;have hs:=(q2k (l:=zsOf p ++ zsOf q) (by simp;omega)).2.1;obtain ⟨f,m,k,n⟩:=qh7 putB (secB kind p q) hs.1;refine ⟨f,m,k,fun x=>?_⟩;rw [n]
  have g : ∀ r,(r∈p∨r∈q)→r.Lo.Z∈K3 (zsOf p ++ zsOf q)∧r.Hi.Z∈K3 (zsOf p ++ zsOf q):=fun r b=>
    ⟨(hs.2 _).2 (qh6 b).1,(hs.2 _).2 (qh6 b).2⟩
  refine q9z _ hs.1 (fun a _ o c=>?_) (fun c=>?_) (fun c=>?_)
  · have d : ∀ r,(r∈p∨r∈q)→covB a r = covB x r:=fun r b=>by
      have j:=c _ (g r b).1;have s:=c _ (g r b).2;rw [Bool.eq_iff_iff,q1f,q1f];omega
    unfold secB;rw [qeb fun r b=>d r (.inl b),qeb fun r b=>d r (.inr b)]
  · have d : ∀ r,(r∈p∨r∈q)→covB x r = false:=fun r b=>by
      have j:=c _ (g r b).1;rw [← Bool.not_eq_true,q1f];omega
    unfold secB;rw [q8q fun r b=>d r (.inl b),q8q fun r b=>d r (.inr b),qhc]
  · have d : ∀ r,(r∈p∨r∈q)→covB x r = false:=fun r b=>by
      have j:=c _ (g r b).2;rw [← Bool.not_eq_true,q1f];omega
    unfold secB;rw [q8q fun r b=>d r (.inl b),q8q fun r b=>d r (.inr b),qhc]
def CanB (l : List qn) : Prop:=∃ gs : List (Grp ql),l = Ks putB gs∧CanG gs∧∀ g∈gs,CanR g.sec
theorem CanB.nil : CanB []:=⟨[],rfl,⟨qe,qe⟩,qe⟩
theorem CanB.at {l : List qn} (h : CanB l) (z : Int) : CanR (atB l z):=by
  obtain ⟨b,rfl,c,a⟩:=h;rw [q5x c];rcases qda (x:=z) b with e | ⟨g,d,_,_,e⟩
  · rw [e];exact .nil
  · rw [e];exact a g d
theorem ql1 {a b : List qn} (c : CanB a) (hb : CanB b) (h : ∀ x y z,hasB a x y z↔hasB b x y z) : a = b:=by
  have g : ∀ z,atB a z = atB b z:=fun z=>qb7 (c.at z) (hb.at z) fun x y=>by rw [q2s,q2s];exact h x y z
  obtain ⟨j,rfl,f,_⟩:=c;obtain ⟨k,rfl,d,_⟩:=hb;rw [qb6 f d fun x=>by rw [← q5x f,← q5x d];exact g x]
theorem qee {p q : List qn} (h : p.length + q.length≤100000) (z : Int) : (atB p z).length + (atB q z).length≤100000:=by
  have:=q5y p z;have:=q5y q z;omega
theorem qh9 (kind : Int) {p q : List qn} (h : p.length + q.length≤100000) : CanB (mrgB kind p q):=by
  obtain ⟨f,c,a,d⟩:=qha kind h;refine ⟨f,c,a,fun g b=>?_⟩;have:=d g.lo;rw [qd9 a g b _ (Int.le_refl _) (a.1 g b).1] at this;rw [this];exact q9j kind (qee h _)
theorem qec (kind : Int) {p q : List qn} (h : p.length + q.length≤100000) (z : Int) : atB (mrgB kind p q) z = secB kind p q z:=by
  obtain ⟨d,a,c,b⟩:=qha kind h;rw [a,q5x c,b]
theorem qgd (kind : Int) {p q : List qn} (h : p.length + q.length≤100000) (x y z : Int) : hasB (mrgB kind p q) x y z↔Yx kind (hasB p x y z) (hasB q x y z):=by
  rw [← q2s,qec kind h,secB,q97 kind (qee h z),q2s,q2s]
theorem qnp {l : List qn} (h : l.length≤100000) (x y z : Int) : hasB (mrgB 2 l []) x y z↔hasB l x y z:=by
  rw [qgd 2 (by simpa using h),qc0];simp [qbw]
theorem qoq {l : List qn} (a : l.length≤100000) (h : CanB l) : mrgB 2 l [] = l:=
  ql1 (qh9 2 (by simpa using a)) h fun x y z=>qnp a x y z
theorem CanB.lt {l : List qn} (h : CanB l) : ∀ b∈l,b.Lo.X < b.Hi.X∧b.Lo.Y < b.Hi.Y∧b.Lo.Z < b.Hi.Z:=by
  obtain ⟨k,rfl,f,c⟩:=h;intro r d;obtain ⟨g,a,t,j,rfl⟩:=qh3.1 d;have:=(c g a).lt t j;exact ⟨this.1,this.2,(f.1 g a).1⟩
def vB (b : qn) : Prop:=(b.Lo.X < b.Hi.X∧b.Lo.Y < b.Hi.Y∧b.Lo.Z < b.Hi.Z)∧(-1000000≤b.Lo.X∧-1000000≤b.Lo.Y∧-1000000≤b.Lo.Z)∧b.Hi.X≤1000000∧b.Hi.Y≤1000000∧b.Hi.Z≤1000000
instance (b : qn) : Decidable (vB b):=by unfold vB;infer_instance
def InB (l : List qn) : Prop:=∀ x y z,hasB l x y z→(-1000000≤x∧x < 1000000)∧(-1000000≤y∧y < 1000000)∧(-1000000≤z∧z < 1000000)
theorem CanB.vB {l : List qn} (h : CanB l) (hi : InB l) : ∀ r∈l,vB r:=by
  intro r a;have c:=h.lt r a;have b:=hi r.Lo.X r.Lo.Y r.Lo.Z ⟨r,a,q6⟩;have d:=hi (r.Hi.X - 1) (r.Hi.Y - 1) (r.Hi.Z - 1) ⟨r,a,q6⟩;unfold Go.Sh.vB;omega
theorem InB.mrg {kind : Int} {p q : List qn} (h : p.length + q.length≤100000) (hp : InB p) (b : InB q) : InB (mrgB kind p q):=fun x y z c=>by
  rcases qgh ((qgd kind h x y z).1 c) with a | a
  · exact hp x y z a
  · exact b x y z a
theorem InB.nil : InB []:=fun x y z h=>absurd h (qbw x y z)
theorem qxa {l : List qn} (h : ∀ b∈l,vB b) (z : Int) : ∀ r∈atB l z,vR r:=by
  intro r a;obtain ⟨b,hb,_,rfl⟩:=qc9.1 a;have:=h b hb;unfold vB at this;unfold vR Zm;simp only;omega
theorem InB.at {l : List qn} (h : InB l) (z : Int) : InR (atB l z):=fun x y a=>by
  have:=h x y z (q2s.1 a);exact ⟨this.1,this.2.1⟩
noncomputable def Ky (l : List qn) : Int:=if 400 < l.length then 4 else if ∀ b∈l,vB b then (if mrgB 2 l [] = l then 0 else 8) else 8
theorem q2j {l : List qn} : Ky l = 0↔l.length≤400∧(∀ b∈l,vB b)∧CanB l:=by
  unfold Ky;constructor
  · intro h;split at h
    · exact absurd h qw
    · rename_i d;split at h
      · rename_i c;split at h
        · rename_i a;exact ⟨q6,c,a ▸ qh9 2 (by simp;omega)⟩
        · exact absurd h qw
      · exact absurd h qw
  · rintro ⟨d,c,a⟩;rw [qy q6,qs c,qs (qoq q6 a)]
theorem qsr (kind : Int) {p q : List qn} (h : p.length + q.length≤100000) (z : Int) : (secB kind p q z).length≤(mrgB kind p q).length:=by
  rw [← qec kind h];exact q5y _ _
noncomputable def mkB (l : List qn) : List qn × Int:=if 400 < l.length then ([],4) else if ∀ b∈l,vB b then (if 400 < (mrgB 2 l []).length then ([],4) else (mrgB 2 l [],0)) else ([],8)
noncomputable def mkR (l : List ql) : List ql × Int:=if 400 < l.length then ([],4) else if ∀ b∈l,vR b then (if 400 < (mrgR 2 l []).length then ([],4) else (mrgR 2 l [],0)) else ([],8)
end Go.Sh
namespace Go.Sh
open Go Go.Am
theorem qoh {α β : Type} {f : α→Option (α ⊕ β)} (st : Nat→α) (n : Nat) (ok : Nat→Prop) (b e : β)
    (step : ∀ k,k < n→(∀ j,j≤k→ok j)→f (st k) = some (.inl (st (k + 1))))
    (bad : ∀ k,k < n→(∀ j,j < k→ok j)→¬ ok k→f (st k) = some (.inr e))
    (done : (∀ j,j < n→ok j)→f (st n) = some (.inr b)) :
    ((∀ j,j < n→ok j)∧loop f (st 0) = some b)∨(∃ j,j < n∧¬ ok j∧loop f (st 0) = some e):=by
  by_cases h : ∀ j,j < n→ok j
  · exact .inl ⟨h,Zw st n b (fun k c=>step k c fun j d=>h j q6) (done h) (Nat.zero_le _)⟩
  · refine .inr ?_
    have g : ∃ k,(k < n∧¬ ok k)∧∀ j,j < k→ok j:=by
      have : ∃ k,k < n∧¬ ok k:=by
        refine Classical.byContradiction fun o=>h fun k c=>?_;exact Classical.byContradiction fun h=>o ⟨k,c,h⟩
      obtain ⟨k,c⟩:=this
      induction k using Nat.strongRecOn with
      | _ k ih=>
        by_cases d : ∃ j,j < k∧(j < n∧¬ ok j)
        · obtain ⟨j,l,g⟩:=d;exact ih j l g
        · exact ⟨k,c,fun j l=>Classical.byContradiction fun h=>d ⟨j,l,q6,h⟩⟩
    obtain ⟨K,⟨m,hb⟩,a⟩:=g;exact ⟨K,m,hb,Zw st K e (fun k c=>step k q6 fun j d=>a j q6) (bad K m a hb) (Nat.zero_le _)⟩
theorem qw6 (xs : List Int) (h : xs.length≤1000000) :
    ((Uf xs).bind fun c=>(Qw c.length xs.length).bind fun _=>(q24 c).bind fun b=>(Qw b.2.length c.length).bind fun _=>(q2c b.2.length b.1).bind fun _=>some ((b.2.drop b.1.1).take b.1.2)) = some (K3 xs):=by
  obtain ⟨ys,k,g,m⟩:=qj8 xs h;have f : ys.length = xs.length:=g.length_eq;obtain ⟨w,a,c1,c2,c3,c4⟩:=qf1 m q6;obtain ⟨_,j,_⟩:=q2k h
  have d : a.take w = K3 xs:=by
    refine qj9 (l:=xs) ⟨c4.1,fun x=>?_⟩ j;rw [c4.2 x];exact g.mem_iff
  simp only [qp,k,Qw,f,if_true,c1,c2,q2c];rw [qs q6];simp only [qp,List.drop_zero,d]
theorem qr5 (l : List ql) (f : l.length≤1000000) : q77 l (fun a=>q1y a) = some (decide (¬ ∀ r∈l,vR r)):=by
  have hs : ∀ (k : Nat) (h : k < l.length),q32 l (fun a=>q1y a) (k : Int) = some (if (fun r=>!decide (vR r)) l[k] = true then .inr (.inr (k : Int)) else .inl ((k + 1 : Nat) : Int)):=by
    intro k h;simp only [q32,dlt h,Q1,K5 h,qp,w64s h f,q1y,qjy];by_cases d : vR l[k] <;> simp [d]
  have hd : q32 l (fun a=>q1y a) (l.length : Int) = some (.inr (.inl ())):=by simp only [q32,dnl,Q2]
  unfold q77 qa6;rcases q6a l (fun r=>!decide (vR r)) (fun k _=>(k : Int)) () _ hs hd with ⟨j,b⟩ | ⟨k,c,m,_,b⟩
  · rw [b];have : ∀ r∈l,vR r:=fun r g=>by simpa using j r g
    simp [];omega
  · rw [b];have : ¬ ∀ r∈l,vR r:=fun h=>by simp [h _ (Yi c)] at m
    simp only [qp];rw [Qe this,Qe q6]
theorem qi8 (l : List ql) : q2z l = some (mkR l):=by
  unfold q2z mkR;by_cases b : 400 < l.length
  · rw [Qe (by omega : (l.length : Int) > 400),Q1,qs b]
  rw [Qm (by omega : ¬ (l.length : Int) > 400),Q2,qy b,qr5 l q6,qp];by_cases a : ∀ r∈l,vR r
  · rw [Qm (fun h=>h a),Q2,qgy l q6 a,qs a];rfl
  · rw [Qe a,Q1,qy a]
end Go.Sh
namespace Go.Sh
open Go Go.Am
theorem qw1 (v : qj) : q5o v = some (decide ((-1000000≤v.X∧-1000000≤v.Y∧-1000000≤v.Z)∧v.X≤1000000∧v.Y≤1000000∧v.Z≤1000000)):=by
  unfold q5o;by_cases a : min (min v.X v.Y) v.Z ≥ -1000000
  · by_cases b : max (max v.X v.Y) v.Z≤1000000
    · rw [Qe a,Qe b,Q1,qp];congr 1;exact (Qe q6).symm
    · rw [Qe a,Qm b,Q1,qp];congr 1;exact (Qm q6).symm
  · rw [Qm a,Q2,qp];congr 1;exact (Qm q6).symm
theorem qw3 (b : qn) : q86 b = some (decide (vB b)):=by
  unfold q86 vB;simp only [qw1,qp];by_cases a : b.Lo.X < b.Hi.X
  · by_cases c : b.Lo.Y < b.Hi.Y
    · by_cases d : b.Lo.Z < b.Hi.Z
      · simp only [a,c,d,decide_true,Q1,qp,true_and];by_cases f : (-1000000≤b.Lo.X∧-1000000≤b.Lo.Y∧-1000000≤b.Lo.Z)∧b.Lo.X≤1000000∧b.Lo.Y≤1000000∧b.Lo.Z≤1000000
        · rw [Qe f];simp only [Q1,qp];congr 1;exact decide_eq_decide.2 q6
        · rw [Qm f];simp only [Q2,qp];congr 1;exact (Qm q6).symm
      · simp [a,c,d]
    · simp [a,c]
  · simp [a]
theorem qw0 (l : List qn) (f : l.length≤1000000) : q79 l (fun a=>q29 a) = some (decide (¬ ∀ r∈l,vB r)):=by
  have hs : ∀ (k : Nat) (h : k < l.length),q34 l (fun a=>q29 a) (k : Int) = some (if (fun r=>!decide (vB r)) l[k] = true then .inr (.inr (k : Int)) else .inl ((k + 1 : Nat) : Int)):=by
    intro k h;simp only [q34,dlt h,Q1,K5 h,qp,w64s h f,q29,qw3];by_cases d : vB l[k] <;> simp [d]
  have hd : q34 l (fun a=>q29 a) (l.length : Int) = some (.inr (.inl ())):=by simp only [q34,dnl,Q2]
  unfold q79 qa8;rcases q6a l (fun r=>!decide (vB r)) (fun k _=>(k : Int)) () _ hs hd with ⟨j,b⟩ | ⟨k,c,m,_,b⟩
  · rw [b];have : ∀ r∈l,vB r:=fun r g=>by simpa using j r g
    simp [];omega
  · rw [b];have : ¬ ∀ r∈l,vB r:=fun h=>by simp [h _ (Yi c)] at m
    simp only [qp];rw [Qe this,Qe q6]
theorem qvy (s : Mg ql qn) (a b : Int) (c : List ql) (hl : (s.flat putB).length + c.length≤1000000) :
    q85 (s.flat putB) s.sec (s.done.length : Int) s.hi a b c = some ((addM putB s a b c).sec,((addM putB s a b c).done.length : Int),(addM putB s a b c).hi,(addM putB s a b c).flat putB):=by
  have w : (s.flat putB).length = s.done.length + s.sec.length:=by simp [Mg.flat]
  have d : s.sec.length≤1000000:=by omega
  unfold q85;rcases q3m putB s a b c with ⟨p,r,x,m⟩ | ⟨p,m⟩
  · have hb : decide ((c.length : Int) > 0) = true:=Qe (by have:=List.length_pos_iff.2 p;omega);have y : (s.hi == a) = true:=by simpa using x
    rw [r] at hb;rw [m,r];simp only [hb,Q1,y,qp,q3r _ _ d,decide_true]
    have:=qbj (fun v : qn=>({Lo:=v.Lo,Hi:=({X:=v.Hi.X,Y:=v.Hi.Y,Z:=b} : qj)} : qn)) s.done (s.sec.map (putB s.lo s.hi)) (by simp;omega) (q5m b) (fun k o f u=>by
      have l : (s.done ++ s.sec.map (putB s.lo s.hi)).length = (s.flat putB).length:=rfl
      simp only [q5m,dlt f,Q1,K5 f,qp,w64s f q6,Int.toNat_natCast]) (fun o=>by simp only [q5m,dnl,Q2])
    rw [show s.flat putB = s.done ++ s.sec.map (putB s.lo s.hi) from rfl,this];simp only [qp,Mg.flat,List.map_map];rfl
  · rw [m]
    have z : ((cond (decide ((c.length : Int) > 0)) (some (s.hi == a)) (some false)).bind fun g=>(cond g ((Ue s.sec c).bind fun j=>some j) (some false))) = some false:=by
      by_cases l : c = []
      · subst l;simp
      · have hb : decide ((c.length : Int) > 0) = true:=Qe (by have:=List.length_pos_iff.2 l;omega);simp only [hb,Q1,qp,q3r _ _ d];by_cases q : s.hi = a
        · have t : s.sec≠c:=fun h=>p ⟨l,h.symm,q⟩;simp [q,t]
        · have : (s.hi == a) = false:=by simpa using q
          simp [this]
    have n:=q6l c (putB a b) (s.flat putB) (fun o=>(c,((s.flat putB).length : Int),b,o)) (q5n c a b (s.flat putB)) (fun k f o u=>by
      simp only [q5n,dlt f,Q1,K5 f,qp,w64s f q6];rw [Z5 (by simp;omega)]
      rfl) (fun o=>by simp only [q5n,dnl,Q2])
    rw [← Option.bind_assoc,z];simp only [qp,Q2,n];simp [Mg.flat]
theorem qxy (l : List qn) (o : List Int) (g : l.length≤400) (d : o.length≤10000) : loop (q3e l) (0,o) = some (o ++ zsOf l):=
  q5v l q6 (fun r=>[r.Lo.Z,r.Hi.Z]) o (fun o=>o) (q3e l) (fun k a c b=>by
    have f : c.length = o.length + 2 * k:=by
      rw [b,List.length_append];have:=q5s (l.take k);rw [List.length_take,Nat.min_eq_left q6] at this;unfold zsOf at this;omega
    simp only [q3e,dlt a,Q1,K5 a,qp,w64s a q6]
    rw [Z5 (by simp;omega)]
    rfl) (fun o=>by simp only [q3e,dnl,Q2])
theorem qed (l : List qn) (g : l.length≤400) (x : Int) : loop (q3g l x) (0,[]) = some (atB l x):=by
  have:=q5v l q6 (fun r=>if covB x r = true then [Zm r] else []) [] (fun o=>o) (q3g l x) (fun k a o d=>by
    have f : o.length≤k:=by rw [d,List.nil_append];have:=q5y (l.take k) x;rw [List.length_take,Nat.min_eq_left q6] at this;exact this
    simp only [q3g,dlt a,Q1,K5 a,qp,w64s a q6];by_cases b : l[k].Lo.Z≤x
    · by_cases c : x < l[k].Hi.Z
      · simp only [b,c,decide_true,Q1,qp,covB,Bool.and_self,if_true];rw [Z5 (by simp;omega)];rfl
      · simp only [b,c,decide_true,decide_false,Q1,Q2,qp,covB,Bool.and_false,if_false,Bool.false_eq_true,List.append_nil]
    · simp only [b,decide_false,Q2,qp,covB,Bool.false_and,if_false,Bool.false_eq_true,List.append_nil]) (fun o=>by simp only [q3g,dnl,Q2])
  rw [List.nil_append] at this;exact this
theorem qsu {kind : Int} {p q : List qn} {xs : List Int} (ab : K3 (zsOf p ++ zsOf q) = xs) (h : p.length + q.length≤800) (F : Int × List ql × Int × Int × List qn→Option ((Int × List ql × Int × Int × List qn) ⊕ ((List ql × Int × Int × List qn) ⊕ (List qn × Int))))
    (af : ∀ (a b : Int) (k : Nat) (s : Mg ql qn),(s.flat putB).length + 400≤1000000→(h1 : k + 1 < xs.length)→a = xs[k]'(q6)→b = xs[k + 1]'h1→(secB kind p q a).length≤400→
      F (((k + 1 : Nat) : Int),s.sec,(s.done.length : Int),s.hi,s.flat putB) = some (.inl (((k + 1 + 1 : Nat) : Int),(addM putB s a b (secB kind p q a)).sec,((addM putB s a b (secB kind p q a)).done.length : Int),(addM putB s a b (secB kind p q a)).hi,(addM putB s a b (secB kind p q a)).flat putB)))
    (y : ∀ (a : Int) (k : Nat) (s : Mg ql qn),(h1 : k + 1 < xs.length)→a = xs[k]'(q6)→400 < (secB kind p q a).length→
      F (((k + 1 : Nat) : Int),s.sec,(s.done.length : Int),s.hi,s.flat putB) = some (.inr (.inr ([],4))))
    (w : ∀ (k : Nat) (s : Mg ql qn),xs.length≤k + 1→F (((k + 1 : Nat) : Int),s.sec,(s.done.length : Int),s.hi,s.flat putB) = some (.inr (.inl (s.sec,(s.done.length : Int),s.hi,s.flat putB)))) :
    (∃ a b c,loop F (1,[],0,0,[]) = some (.inl (a,b,c,mrgB kind p q)))∨(400 < (mrgB kind p q).length∧loop F (1,[],0,0,[]) = some (.inr ([],4))):=by
  have ao:=q5s p;have ai:=q5s q;obtain ⟨_,aa,d⟩:=q2k (l:=zsOf p ++ zsOf q) (by simp;omega);have d : (K3 (zsOf p ++ zsOf q)).length≤1600:=by simp at d;omega
  have m : ∀ x,(secB kind p q x).length≤(mrgB kind p q).length:=fun x=>qsr kind q6 x;have ag : mrgB kind p q = (K4 putB K2 (Yu (K3 (zsOf p ++ zsOf q)) (secB kind p q))).flat putB:=rfl;rw [ag] at m ⊢;rw [ab] at aa d m ⊢;generalize z : Yu xs (secB kind p q) = steps at m ⊢;have al : steps.length = xs.length - 1:=by rw [← z];exact qdj _ _
  have u : ∀ k (g : k < steps.length),steps[k] = (xs[k]'(q6),xs[k + 1]'(q6),secB kind p q (xs[k]'(q6))):=fun k g=>by subst z;exact qjh g q6
  have ae : ∀ k,k≤steps.length→(∀ j,j < k→∀ t,steps[j]? = some t→t.2.2.length≤400)→((K4 putB K2 (steps.take k)).flat putB).length≤1600 * 400:=fun k g n=>by
    have h1:=qbo putB (s0:=K2) (M:=400) (steps:=steps.take k) (fun t o=>by
      obtain ⟨i,hi,rfl⟩:=List.getElem_of_mem o;rw [List.length_take] at hi;rw [List.getElem_take]
      exact n i q6 _ (List.getElem?_eq_getElem q6))
    have v : (steps.take k).length≤1600:=by rw [List.length_take];omega
    have h3 : (K2.flat putB : List qn).length = 0:=rfl;have h4 : (steps.take k).length * 400≤1600 * 400:=Nat.mul_le_mul_right _ v;omega
  have main:=qoh (f:=F) (fun k=>(((k + 1 : Nat) : Int),(K4 putB K2 (steps.take k)).sec,((K4 putB K2 (steps.take k)).done.length : Int),(K4 putB K2 (steps.take k)).hi,(K4 putB K2 (steps.take k)).flat putB))
    steps.length (fun j=>∀ t,steps[j]? = some t→t.2.2.length≤400) (.inl ((K4 putB K2 steps).sec,((K4 putB K2 steps).done.length : Int),(K4 putB K2 steps).hi,(K4 putB K2 steps).flat putB)) (.inr ([],4))
    (fun k g n=>by
      have r : k + 1 < xs.length:=by omega
      have hc:=n k (Nat.le_refl _) _ (List.getElem?_eq_getElem g);have hm:=ae k q6 fun j ak=>n j q6;rw [qbp putB g,u k g] at *;simp only at hc
      exact af _ _ k (K4 putB K2 (steps.take k)) q6 r rfl rfl hc)
    (fun k g n hb=>by
      have r : k + 1 < xs.length:=by omega
      have am : k < xs.length:=by omega
      refine y _ k (K4 putB K2 (steps.take k)) r rfl ?_;refine Nat.lt_of_not_le fun h=>hb fun t o=>?_;rw [List.getElem?_eq_getElem g,u k g] at o
      cases o;exact h)
    (fun _=>by
      rw [List.take_length]
      exact w steps.length _ q6)
  have ad : ((((0 + 1 : Nat) : Int),(K4 putB K2 (steps.take 0)).sec,((K4 putB K2 (steps.take 0)).done.length : Int),(K4 putB K2 (steps.take 0)).hi,(K4 putB K2 (steps.take 0)).flat putB) : Int × List ql × Int × Int × List qn) = (1,[],0,0,[]):=rfl;rw [ad] at main;rcases main with ⟨_,v⟩ | ⟨j,n,hb,v⟩
  · exact .inl ⟨_,_,_,v⟩
  · refine .inr ⟨?_,v⟩;have aj : j < xs.length:=by omega
    have h5 : 400 < (secB kind p q xs[j]).length:=by
      refine Nat.lt_of_not_le fun h=>hb fun t o=>?_;rw [List.getElem?_eq_getElem n,u j n] at o;cases o;exact h
    exact Nat.lt_of_lt_of_le h5 (m xs[j])
theorem qrk (l : List qn) (m : l.length≤400) (w : ∀ b∈l,vB b) : q87 l = some (if 400 < (mrgB 2 l []).length then ([],4) else (mrgB 2 l [],0)):=by
  unfold q87;have y:=q5s l;simp only [show idx [l] 0 = some l from rfl,qp,qxy l [] m qe,List.nil_append];rw [qw6 _ q6];simp only [qp];have t : zsOf l = zsOf l ++ zsOf []:=by simp [zsOf]
  obtain ⟨_,x,d⟩:=q2k (l:=zsOf l ++ zsOf []) (by rw [← t];omega);have d : (K3 (zsOf l ++ zsOf [])).length≤800:=by rw [← t] at d ⊢;omega
  have g : ∀ z,q2z (atB l z) = some (if 400 < (secB 2 l [] z).length then ([],4) else (secB 2 l [] z,0)):=fun z=>by
    have:=q5y l z;rw [qi8,mkR,qy q6,qs (qxa w z)];rfl
  rw [t]
  have:=qsu (kind:=2) (p:=l) (q:=[]) rfl (by simp;omega) (q3f (K3 (zsOf l ++ zsOf [])) l)
    (fun a b k s hs f r hb u=>by
      have h0 : k < (K3 (zsOf l ++ zsOf [])).length:=by omega
      have o : idx (K3 (zsOf l ++ zsOf [])) (w64 (((k + 1 : Nat) : Int) - 1)) = some a:=by rw [Qa q6,r];exact Ux q6 q6
      have v : idx (K3 (zsOf l ++ zsOf [])) ((k + 1 : Nat) : Int) = some b:=by rw [hb];exact K5 f
      have h:=g a;rw [qy q6] at h;simp only [q3f,dlt f,Q1,o,v,qp,show idx [l] 0 = some l from rfl,qed l m,h,show ((0 : Int) != 0) = false from rfl,Q2,qvy s a b (secB 2 l [] a) q6]
      rw [w64s f q6])
    (fun a k s f r u=>by
      have o : idx (K3 (zsOf l ++ zsOf [])) (w64 (((k + 1 : Nat) : Int) - 1)) = some a:=by rw [Qa q6,r];exact Ux q6 q6
      have h:=g a;rw [qs u] at h
      simp only [q3f,dlt f,Q1,o,K5 f,qp,show idx [l] 0 = some l from rfl,qed l m,h,show ((4 : Int) != 0) = true from rfl])
    (fun k s f=>by
      have : decide (((k + 1 : Nat) : Int) < ((K3 (zsOf l ++ zsOf [])).length : Int)) = false:=Qm q6
      simp only [q3f,this,Q2])
  rcases this with ⟨a,b,c,n⟩ | ⟨j,n⟩
  · rw [n];simp only [qp];by_cases j : 400 < (mrgB 2 l []).length
    · rw [Qe (by omega : ((mrgB 2 l []).length : Int) > 400),qs j];rfl
    · rw [Qm (by omega : ¬ ((mrgB 2 l []).length : Int) > 400),qy j];rfl
  · rw [n,qs j];rfl
theorem qmm (p q : List qn) (a : p.length≤1000000) : qa4 p q = some (decide (p = q)):=sameBox p q a
theorem qac (l : List qn) : q28 l = some (Ky l):=by
  unfold q28 Ky;by_cases d : 400 < l.length
  · rw [Qe (by omega : (l.length : Int) > 400),Q1,qs d]
  rw [Qm (by omega : ¬ (l.length : Int) > 400),Q2,qy d,qw0 l q6,qp];by_cases a : ∀ r∈l,vB r
  · rw [Qm (fun h=>h a),Q2,qrk l q6 a,qs a,qp];by_cases b : 400 < (mrgB 2 l []).length
    · have c : mrgB 2 l []≠l:=fun h=>by rw [h] at b;exact d b
      rw [qs b,qy c];rfl
    · rw [qy b];simp only [qmm (mrgB 2 l []) l q6];by_cases f : mrgB 2 l [] = l <;> simp [f]
  · rw [Qe a,Q1,qy a]
end Go.Sh
namespace Go.Sh
open Go Go.Am
end Go.Sh
