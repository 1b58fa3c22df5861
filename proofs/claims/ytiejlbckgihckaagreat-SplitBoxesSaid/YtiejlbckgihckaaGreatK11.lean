/- Pt1 Pt2 Pt3 Pt4 Pt5 Pt6 Pt7 Qa1 Qa2 Qa3 Rs1 -/
import Derived.Test.YtiejlbckgihckaaGreatK10
namespace Go.Sh
open Go Go.Am
theorem Us {α β : Type} {f : α→Option (α ⊕ β)} (st : Nat→α) (n : Nat) (b : β) (hs : ∀ k,k < n→f (st k) = some (.inl (st (k + 1)))) (hd : f (st n) = some (.inr b)) : ∀ {k : Nat},k≤n→loop f (st k) = some b:=by
  have key : ∀ m k,n - k = m→k≤n→loop f (st k) = some b:=by
    intro m
    induction m with
    | zero => intro k c a; obtain rfl : k = n := by omega
              exact Kg hd
    | succ m ih=>intro k c a;rw [Ke (hs k q0)];exact ih (k + 1) q0 q0
  intro k a;exact key _ k rfl a
theorem w64s {k : Nat} {n : Nat} (h : k < n) (a : n≤1000000) : w64 ((k : Int) + 1) = ((k + 1 : Nat) : Int):=by rw [Q5 q0];omega
theorem dlt {k n : Nat} (h : k < n) : decide ((k : Int) < (n : Int)) = true:=Q9 q0
theorem dnl {n : Nat} : decide ((n : Int) < (n : Int)) = false:=Qb q0
theorem q7c {α β γ : Type} (src : List α) (_ : src.length≤1000000) (h : α→List γ) (out : List γ) (fin : List γ→β) (f : Int × List γ→Option ((Int × List γ) ⊕ β))
    (hs : ∀ (k : Nat) (a : k < src.length) (o : List γ),o = out ++ (src.take k).flatMap h→f ((k : Int),o) = some (.inl (((k + 1 : Nat) : Int),o ++ h src[k])))
    (hd : ∀ o,f ((src.length : Int),o) = some (.inr (fin o))) : loop f (0,out) = some (fin (out ++ src.flatMap h)):=by
  have e : ∀ k (a : k < src.length),(src.take (k + 1)).flatMap h = (src.take k).flatMap h ++ h src[k]:=fun k a=>by
    rw [List.take_succ_eq_append_getElem a,List.flatMap_append,List.flatMap_cons,List.flatMap_nil,List.append_nil]
  have:=Us (f:=f) (fun k=>((k : Int),out ++ (src.take k).flatMap h)) src.length (fin (out ++ src.flatMap h)) (fun k a=>by
    rw [hs k a _ rfl,e k a,List.append_assoc]) (by simp only [List.take_length];exact hd _) (Nat.zero_le _)
  simpa using this
theorem qjq {α β γ : Type} (src : List α) (h : α→γ) (out : List γ) (fin : List γ→β) (f : Int × List γ→Option ((Int × List γ) ⊕ β))
    (hs : ∀ (k : Nat) (a : k < src.length) (o : List γ),o.length = out.length + k→f ((k : Int),o) = some (.inl (((k + 1 : Nat) : Int),o ++ [h src[k]])))
    (hd : ∀ o,f ((src.length : Int),o) = some (.inr (fin o))) : loop f (0,out) = some (fin (out ++ src.map h)):=by
  have e : ∀ k (a : k < src.length),(src.take (k + 1)).map h = (src.take k).map h ++ [h src[k]]:=fun k a=>by
    rw [List.take_succ_eq_append_getElem a,List.map_append,List.map_cons,List.map_nil]
  have:=Us (f:=f) (fun k=>((k : Int),out ++ (src.take k).map h)) src.length (fin (out ++ src.map h)) (fun k a=>by
    rw [hs k a _ (by simp;omega),e k a,List.append_assoc]) (by simp only [List.take_length];exact hd _) (Nat.zero_le _)
  simpa using this
theorem qi7 {γ : Type} (g : γ→γ) (a b : List γ) (l : (a ++ b).length≤1000000) (f : Int × List γ→Option ((Int × List γ) ⊕ (List γ)))
    (hs : ∀ (k : Nat) (o : List γ) (h : k < o.length),o.length = (a ++ b).length→f ((k : Int),o) = some (.inl (((k + 1 : Nat) : Int),o.set k (g o[k]))))
    (hd : ∀ o : List γ,f ((o.length : Int),o) = some (.inr o)) : loop f ((a.length : Int),a ++ b) = some (a ++ b.map g):=by
  have m : a.length + b.length≤1000000:=by simpa using l
  have key:=Us (f:=f) (fun k=>(((a.length + k : Nat) : Int),a ++ ((b.take k).map g ++ b.drop k))) b.length (a ++ b.map g) (fun k h=>by
    have c : (a ++ ((b.take k).map g ++ b.drop k)).length = (a ++ b).length:=by simp;omega
    have d : a.length + k < (a ++ ((b.take k).map g ++ b.drop k)).length:=by rw [c];simp;omega
    rw [hs (a.length + k) _ d c];have j : ((b.take k).map g).length = k:=by simp;omega
    have e : (a ++ ((b.take k).map g ++ b.drop k))[a.length + k]'d = b[k]:=by
      rw [List.getElem_append_right q0];rw [List.getElem_append_right (by rw [j];omega)];simp [List.length_take,Nat.min_eq_left (Nat.le_of_lt h)]
    rw [e];congr 4;rw [List.set_append,qx q0,List.set_append,qx (by rw [j];omega),j];have z : a.length + k - a.length - k = 0:=by omega
    rw [z,List.take_succ_eq_append_getElem h,List.drop_eq_getElem_cons h,List.set_cons_zero,List.map_append,List.map_cons,List.map_nil,List.append_assoc]
    rfl) (by
    simp only [List.take_length,List.drop_length,List.append_nil];have:=hd (a ++ b.map g)
    simpa using this) (Nat.zero_le _)
  simpa using key
theorem qat {α γ υ : Type} (l : List α) (c : α→Bool) (m : (k : Nat)→k < l.length→γ) (u : υ) (f : Int→Option (Int ⊕ (υ ⊕ γ)))
    (hs : ∀ (k : Nat) (h : k < l.length),f (k : Int) = some (if c l[k] = true then .inr (.inr (m k h)) else .inl ((k + 1 : Nat) : Int))) (hd : f (l.length : Int) = some (.inr (.inl u))) :
    ((∀ v∈l,c v = false)∧loop f 0 = some (.inl u))∨∃ k,∃ h : k < l.length,c l[k] = true∧(∀ j (d : j < k),c (l[j]'(q0)) = false)∧loop f 0 = some (.inr (m k h)):=by
  by_cases q : ∀ v∈l,c v = false
  · refine .inl ⟨q,?_⟩;exact Us (f:=f) (fun k=>(k : Int)) l.length _ (fun k b=>by rw [hs k b,q _ (Y5 b)];rfl) hd (Nat.zero_le _)
  · refine .inr ?_
    have : ∃ k,∃ h : k < l.length,c l[k] = true:=by
      refine Classical.byContradiction fun s=>q fun v r=>?_;obtain ⟨k,b,rfl⟩:=List.getElem_of_mem r;cases o : c l[k]
      · rfl
      · exact absurd ⟨k,b,o⟩ s
    have n : ∃ k,(∃ h : k < l.length,c l[k] = true)∧∀ j,j < k→¬ ∃ h : j < l.length,c l[j] = true:=by
      obtain ⟨k,b⟩:=this
      induction k using Nat.strongRecOn with
      | _ k ih=>
        by_cases d : ∃ j,j < k∧∃ h : j < l.length,c l[j] = true
        · obtain ⟨j,p,n⟩:=d;exact ih j p n
        · exact ⟨k,b,fun j p n=>d ⟨j,p,n⟩⟩
    obtain ⟨k,⟨b,o⟩,g⟩:=n
    have a : ∀ j (d : j < k),c (l[j]'(q0)) = false:=fun j d=>by
      cases h : c (l[j]'(q0))
      · rfl
      · exact absurd ⟨q0,h⟩ (g j d)
    refine ⟨k,b,o,a,?_⟩;exact Us (f:=f) (fun k=>(k : Int)) k _ (fun j d=>by rw [hs j q0,a j d];rfl) (by rw [hs k b,qs o]) (Nat.zero_le _)
theorem qmc : ∀ {l a b : List Int},Zc l a→Zc l b→a = b:=by
  have key : ∀ (a b : List Int),a.Pairwise (· < ·)→b.Pairwise (· < ·)→(∀ x,x∈a↔x∈b)→a = b:=by
    intro a
    induction a with
    | nil=>intro b _ _ h;cases b with
      | nil=>rfl
      | cons y b=>exact absurd ((h y).2 qe) qe
    | cons x a ih=>
      intro b d hb h
      cases b with
      | nil=>exact absurd ((h x).1 qe) qe
      | cons y b=>
        rw [List.pairwise_cons] at d hb
        have g : x = y:=by
          rcases List.mem_cons.1 ((h x).1 qe) with c | c
          · exact c
          · rcases List.mem_cons.1 ((h y).2 qe) with j | j
            · exact j.symm
            · have:=hb.1 _ c;have:=d.1 _ j;omega
        subst g;rw [ih b d.2 hb.2 fun z=>?_];constructor
        · intro f;rcases List.mem_cons.1 ((h z).1 (by simp [f])) with c | c
          · have:=d.1 _ f;omega
          · exact c
        · intro f;rcases List.mem_cons.1 ((h z).2 (by simp [f])) with c | c
          · have:=hb.1 _ f;omega
          · exact c
  intro l a b d hb;exact key a b d.1 hb.1 fun x=>(d.2 x).trans (hb.2 x).symm
def ltI (a b : Int) : Bool:=decide (a < b)
theorem swoI : Sort.SWO ltI where
  irrefl:=by intro x;simp [ltI]
  trans:=by intro x y z;simp only [ltI,decide_eq_true_eq];omega
  ntrans:=by intro x y z;simp only [ltI,decide_eq_false_iff_not];omega
theorem cmpI : Kz qO ltI (fun _=>True):=by
  intro x y _ _;refine ⟨sg x y,rfl,?_⟩;rw [J9];rfl
theorem qmb (l : List Int) (g : l.length≤1000000) : ∃ ys,U2 l = some ys∧ys.Perm l∧ys.Pairwise (·≤·):=by
  obtain ⟨ys,c,f,d⟩:=qma cmpI swoI l g (fun _ _=>trivial);refine ⟨ys,by rw [qxq];exact c,f,d.imp ?_⟩;intro a b h;simp only [ltI,decide_eq_false_iff_not] at h;omega
end Go.Sh
namespace Go.Sh
open Go Go.Am
structure CInv (p : List Int) (k k2 i : Nat) (a : List Int) : Prop where
  len : a.length = p.length
  hi : i≤k + k2 - 1
  same : ∀ j (h : j < p.length),k + k2 - 1≤j→a[j]? = some p[j]
  so : Zc (p.take (k + k2)) (a.take i)
theorem qp5 {p : List Int} (hp : p.Pairwise (·≤·)) (hl : p.length≤1000000) {k b i : Nat} {a : List Int} (hk : 0 < k) (h2 : 0 < b) (w : k + b < p.length) (h : CInv p k b i a) :
    ∃ (i' : Nat) (a' : List Int),q1n ((i : Int),(k,p.length - k),(b : Int),a) = some (.inl ((i' : Int),(k,p.length - k),((b + 1 : Nat) : Int),a'))∧CInv p k (b + 1) i' a':=by
  obtain ⟨h1,h3,o,h5,t⟩:=h;have hb : decide ((b : Int) < ((p.length - k : Nat) : Int)) = true:=dlt q0
  have z : idxW a (k,p.length - k) (b : Int) = some (p[k + b]):=by
    unfold idxW;rw [qs ⟨q0,q0⟩];simp only [Int.toNat_natCast];exact o (k + b) w q0
  have r2 : idxW a (k,p.length - k) (w64 ((b : Int) - 1)) = some (p[k + b - 1]):=by
    rw [Q5 q0];have e : (b : Int) - 1 = ((b - 1 : Nat) : Int):=by omega
    rw [e];unfold idxW;rw [qs ⟨q0,q0⟩];simp only [Int.toNat_natCast];have:=o (k + b - 1) q0 q0;rw [show k + (b - 1) = k + b - 1 by omega];exact this
  have ai : p[k + b - 1]≤p[k + b]:=List.pairwise_iff_getElem.1 hp _ _ q0 w q0
  have g : p[k + b - 1]∈p.take (k + b):=by
    rw [List.mem_take_iff_getElem];exact ⟨k + b - 1,q0,rfl⟩
  have f : p.take (k + (b + 1)) = p.take (k + b) ++ [p[k + b]]:=by rw [← Nat.add_assoc,List.take_succ_eq_append_getElem w]
  have hw : w64 ((b : Int) + 1) = ((b + 1 : Nat) : Int):=w64s (n:=p.length) q0 hl;by_cases s : p[k + b] = p[k + b - 1]
  · refine ⟨i,a,?_,h1,q0,fun j q u=>o j q q0,?_⟩
    · have c : (p[k + b] != p[k + b - 1]) = false:=by rw [s];simp
      simp only [q1n,hb,Q2,z,r2,qh,c,Q1,hw]
    · rw [f];refine ⟨h5,fun x=>?_⟩;rw [t x];constructor
      · intro d;exact List.mem_append.2 (.inl d)
      · intro d;rcases List.mem_append.1 d with h | h
        · exact h
        · simp only [List.mem_singleton] at h;rw [h,s];exact g
  · have c : (p[k + b] != p[k + b - 1]) = true:=by simpa using s
    have l : i < a.length:=by omega
    have r3 : idx a (i : Int) = some a[i]:=K5 l;have r : w64 ((i : Int) + 1) = ((i + 1 : Nat) : Int):=w64s (n:=p.length) q0 hl;refine ⟨i + 1,a.set i p[k + b],?_,by simpa using h1,q0,fun j q u=>?_,?_⟩
    · simp only [q1n,hb,Q2,z,r2,qh,c,r3,hw,r,Int.toNat_natCast]
    · rw [List.getElem?_set_ne q0];exact o j q q0
    · have e : (a.set i p[k + b]).take (i + 1) = a.take i ++ [p[k + b]]:=by
        rw [List.take_succ_eq_append_getElem (by simpa using l)];simp [List.take_set_of_le]
      rw [e,f];refine ⟨?_,fun x=>?_⟩
      · rw [List.pairwise_append];refine ⟨h5,qe,fun x d y hy=>?_⟩;simp only [List.mem_singleton] at hy;subst hy;have m:=(t x).1 d;rw [List.mem_take_iff_getElem] at m;obtain ⟨j,q,rfl⟩:=m
        have : p[j]≤p[k + b - 1]:=by
          by_cases v : j = k + b - 1
          · subst v;exact Int.le_refl _
          · exact List.pairwise_iff_getElem.1 hp _ _ q0 q0 q0
        omega
      · rw [List.mem_append,List.mem_append,t x]
theorem qp4 {p : List Int} (hp : p.Pairwise (·≤·)) (v : p.length≤1000000) {k : Nat} (x : 0 < k) (s : k < p.length) (m : Zc (p.take (k + 1)) (p.take k)) :
    ∃ i : Nat,∃ a : List Int,loop q1n ((k : Int),(k,p.length - k),1,p) = some ((i : Int),a)∧a.length = p.length∧i≤p.length∧Zc p (a.take i):=by
  have h:=Yg (f:=q1n) (mk:=fun d (c : Nat × List Int)=>((c.1 : Int),(k,p.length - k),((d : Nat) : Int),c.2)) (p.length - k) (fun d c=>0 < d∧CInv p k d c.1 c.2)
    (fun b=>∃ i : Nat,∃ a : List Int,b = ((i : Int),a)∧a.length = p.length∧i≤p.length∧Zc p (a.take i))
    (fun d c r g=>by
      obtain ⟨q,a',w,n⟩:=qp5 hp v x g.1 q0 g.2
      exact .inl ⟨(q,a'),w,q0,n⟩)
    (fun c g=>by
      obtain ⟨l,o,z,h4,t⟩:=g;refine ⟨((c.1 : Int),c.2),?_,c.1,c.2,rfl,o,q0,?_⟩
      · simp only [q1n,dnl,Q1]
      · rwa [List.take_of_length_le q0] at t)
    (k0:=1) (c0:=(k,p)) q0 ⟨q0,rfl,qe,fun j y _=>by simp [y],m⟩
  obtain ⟨b,hb,i,a,rfl,u⟩:=h;exact ⟨i,a,hb,u⟩
theorem qhg {p : List Int} (hp : p.Pairwise (·≤·)) (y : p.length≤1000000) :
    ∃ w a,Uv p = some ((0,w),a)∧a.length = p.length∧w≤p.length∧Zc p (a.take w):=by
  unfold Uv;by_cases hs : p.length < 2
  · rw [Q9 (by omega : (p.length : Int) < 2),Q2];refine ⟨p.length,p,rfl,rfl,Nat.le_refl _,?_⟩;rw [List.take_length];refine ⟨?_,fun x=>Iff.rfl⟩
    match p,hs with
    | [],_=>simp
    | [x],_=>simp
  rw [Qb (by omega : ¬ (p.length : Int) < 2),Q1]
  have b : ∀ k,k≤p.length→(∀ j (o : j < k),0 < j→∀ h : j < p.length,p[j]≠p[j - 1])→Zc (p.take k) (p.take k):=by
    intro k g q;refine ⟨?_,fun x=>Iff.rfl⟩;rw [List.pairwise_iff_getElem];intro i j hi o ac;simp only [List.length_take] at hi o;simp only [List.getElem_take];have n : p[j - 1]≤p[j]:=List.pairwise_iff_getElem.1 hp _ _ q0 q0 q0;have r:=q j q0 q0 q0
    have h3 : p[i]≤p[j - 1]:=by
      by_cases e : i = j - 1
      · subst e;exact Int.le_refl _
      · exact List.pairwise_iff_getElem.1 hp _ _ q0 q0 q0
    omega
  have c : ∀ k,0 < k→∀ h : k < p.length,p[k]≠p[k - 1]→Jl p (k : Int) = some (.inl ((k + 1 : Nat) : Int)):=by
    intro k m h q;have v : idx p (w64 ((k : Int) - 1)) = some (p[k - 1]):=by rw [Q5 q0];exact Zr q0 q0
    have hb : (p[k] == p[k - 1]) = false:=by simpa using q
    simp only [Jl,dlt h,Q2,K5 h,v,qh,hb,Q1,w64s h y]
  by_cases u : ∀ j,0 < j→∀ h : j < p.length,p[j]≠p[j - 1]
  · have n : loop (Jl p) 1 = some (.inl ()):=by
      exact Us (f:=Jl p) (fun k=>((k + 1 : Nat) : Int)) (p.length - 1) _ (fun k g=>by
        exact c (k + 1) q0 q0 (u (k + 1) q0 q0)) (by
        show Jl p (((p.length - 1) + 1 : Nat) : Int) = _;rw [show p.length - 1 + 1 = p.length by omega]
        simp only [Jl,dnl,Q1]) (Nat.zero_le _)
    rw [n];refine ⟨p.length,p,rfl,rfl,Nat.le_refl _,?_⟩;have:=b p.length (Nat.le_refl _) fun j _ m h=>u j m h;rw [List.take_length] at this ⊢;exact this
  · have r : ∃ k,(0 < k∧∃ h : k < p.length,p[k] = p[k - 1])∧∀ j,j < k→¬ (0 < j∧∃ h : j < p.length,p[j] = p[j - 1]):=by
      have : ∃ k,0 < k∧∃ h : k < p.length,p[k] = p[k - 1]:=by
        refine Classical.byContradiction fun hn=>u fun j m h l=>hn ⟨j,m,h,l⟩
      obtain ⟨k,g⟩:=this
      induction k using Nat.strongRecOn with
      | _ k ih=>
        by_cases o : ∃ j,j < k∧(0 < j∧∃ h : j < p.length,p[j] = p[j - 1])
        · obtain ⟨j,n,r⟩:=o;exact ih j n r
        · exact ⟨k,g,fun j n r=>o ⟨j,n,r⟩⟩
    obtain ⟨k,⟨m,g,l⟩,d⟩:=r;have t : Zc (p.take k) (p.take k):=b k q0 fun j o m h l=>d j o ⟨m,h,l⟩
    have s : Zc (p.take (k + 1)) (p.take k):=by
      refine ⟨t.1,fun x=>?_⟩;rw [List.take_succ_eq_append_getElem g,List.mem_append];refine ⟨.inl,fun h=>h.elim id fun h=>?_⟩;simp only [List.mem_singleton] at h;rw [h,l,List.mem_take_iff_getElem];exact ⟨k - 1,q0,rfl⟩
    obtain ⟨i,a,e1,e2,e3,z⟩:=qp4 hp y m g s;have s1 : sub2 p.length (k : Int) (p.length : Int) = some (k,p.length - k):=by unfold sub2;rw [qs ⟨q0,q0,q0⟩];simp
    have s2 : sub2 a.length (i : Int) (a.length : Int) = some (i,a.length - i):=by unfold sub2;rw [qs ⟨q0,q0,q0⟩];simp
    have s3 : sub2 a.length 0 (i : Int) = some (0,i):=by unfold sub2;rw [qs ⟨q0,q0,q0⟩];simp
    have v : idx p (w64 ((k : Int) - 1)) = some (p[k - 1]):=by rw [Q5 q0];exact Zr q0 q0
    have n : loop (Jl p) 1 = some (.inr ((0,i),clrw a (i,a.length - i) 0)):=by
      exact Us (f:=Jl p) (fun k=>((k + 1 : Nat) : Int)) (k - 1) _ (fun j o=>by
        exact c (j + 1) q0 q0 fun l=>d (j + 1) q0 ⟨q0,q0,l⟩) (by
        show Jl p (((k - 1) + 1 : Nat) : Int) = _;rw [show k - 1 + 1 = k by omega];have hb : (p[k] == p[k - 1]) = true:=by simpa using l
        simp only [Jl,dlt g,Q2,K5 g,v,qh,hb,s1,e1,s2,s3]) (Nat.zero_le _)
    rw [n];refine ⟨i,clrw a (i,a.length - i) 0,rfl,by rw [qh6 (by simp;omega)];exact e2,e3,?_⟩
    have : (clrw a (i,a.length - i) 0).take i = a.take i:=by
      unfold clrw splice;rw [List.append_assoc,List.take_append_of_le_length (by simp;omega)];simp [List.take_take]
    rw [this];exact z
end Go.Sh
namespace Go.Sh
open Go Go.Am
theorem qds {α : Type} [DecidableEq α] (e : α→α→Bool) (g : ∀ v w,e v w = decide (v = w)) (p q : List α) (s : p.length≤1000000) (f : Int→Option (Int ⊕ (Unit ⊕ Bool)))
    (l : ∀ k,f k = cond (decide (k < (p.length : Int))) ((idx p k).bind fun v=>(idx q k).bind fun w=>cond (!(e v w)) (some (.inr (.inr false))) (some (.inl (w64 (k + 1))))) (some (.inr (.inl ())))) :
    cond ((p.length : Int) != (q.length : Int)) (some false) ((loop f 0).bind fun m=>(match m with | .inl _=>some true | .inr x=>some x)) = some (decide (p = q)):=by
  by_cases a : p.length = q.length
  · have : ((p.length : Int) != (q.length : Int)) = false:=by rw [a];simp
    rw [this,Q1]
    let c : Nat→Bool:=fun k=>if h : k < p.length then !(e p[k] (q[k]'(q0))) else false
    have hs : ∀ (k : Nat) (h : k < (List.range p.length).length),f (k : Int) = some (if c (List.range p.length)[k] = true then .inr (.inr false) else .inl ((k + 1 : Nat) : Int)):=by
      intro k h;have h : k < p.length:=by simpa using h
      rw [l];simp only [dlt h,Q2,K5 h,K5 (xs:=q) (k:=k) q0,qh,List.getElem_range,c,dif_pos h,w64s h s];cases e p[k] (q[k]'(q0)) <;> simp
    have hd : f ((List.range p.length).length : Int) = some (.inr (.inl ())):=by rw [l];simp []
    rcases qat (List.range p.length) c (fun _ _=>false) () f hs hd with ⟨r,b⟩ | ⟨k,o,j,_,b⟩
    · rw [b]
      have : p = q:=by
        refine List.ext_getElem a fun k d t=>?_;have:=r k (by simpa using d);simp only [c,dif_pos d,g,Bool.not_eq_false',decide_eq_true_eq] at this;exact this
      simp [this]
    · rw [b];have n : k < p.length:=by simpa using o
      have : p≠q:=by
        intro h;simp only [List.getElem_range,c,g,h] at j;simp at j
      simp [this]
  · have : ((p.length : Int) != (q.length : Int)) = true:=by simpa using (fun h : (p.length : Int) = q.length=>a q0)
    rw [this,Q2];have : p≠q:=fun h=>a (by rw [h]);simp [this]
theorem qi0 (p q : List qi) (a : p.length≤1000000) : q8u p q = some (decide (p = q)):=
  qds (fun v w=>((v.Lo == w.Lo) && ((v.Hi == w.Hi) && true))) (fun v w=>by cases v;cases w;rw [Bool.eq_iff_iff];simp) p q a (qc0 p q) (fun _=>rfl)
theorem qdt (p q : List qk) (a : p.length≤1000000) : q5w p q = some (decide (p = q)):=
  qds (fun v w=>((v.X0 == w.X0) && ((v.Y0 == w.Y0) && ((v.X1 == w.X1) && ((v.Y1 == w.Y1) && true))))) (fun v w=>by cases v;cases w;rw [Bool.eq_iff_iff];simp) p q a (qby p q) (fun _=>rfl)
theorem sameBox (p q : List qw) (a : p.length≤1000000) : qbl p q = some (decide (p = q)):=
  qds (fun v w=>((v.Lo.X == w.Lo.X) && ((v.Lo.Y == w.Lo.Y) && ((v.Lo.Z == w.Lo.Z) && ((v.Hi.X == w.Hi.X) && ((v.Hi.Y == w.Hi.Y) && ((v.Hi.Z == w.Hi.Z) && true))))))) (fun v w=>by rcases v with ⟨⟨_,_,_⟩,⟨_,_,_⟩⟩;rcases w with ⟨⟨_,_,_⟩,⟨_,_,_⟩⟩;rw [Bool.eq_iff_iff];simp [and_assoc]) p q a (qbm p q) (fun _=>rfl)
structure Mg (σ β : Type) where
  done : List β
  sec : List σ
  lo : Int
  hi : Int
section
variable {σ β : Type} [DecidableEq σ] (put : Int→Int→σ→β)
def Mg.flat (s : Mg σ β) : List β:=s.done ++ s.sec.map (put s.lo s.hi)
def addM (s : Mg σ β) (a b : Int) (c : List σ) : Mg σ β:=if c≠[]∧c = s.sec∧s.hi = a then ⟨s.done,s.sec,s.lo,b⟩ else ⟨s.flat put,c,a,b⟩
def K6 : Mg σ β:=⟨[],[],0,0⟩
def K7 (s0 : Mg σ β) (steps : List (Int × Int × List σ)) : Mg σ β:=steps.foldl (fun s t=>addM put s t.1 t.2.1 t.2.2) s0
theorem qe2 {s0 : Mg σ β} {steps : List (Int × Int × List σ)} {i : Nat} (h : i < steps.length) : K7 put s0 (steps.take (i + 1)) = addM put (K7 put s0 (steps.take i)) steps[i].1 steps[i].2.1 steps[i].2.2:=by
  unfold K7;rw [List.take_succ_eq_append_getElem h,List.foldl_append];rfl
theorem qnd (s : Mg σ β) (a b : Int) (c : List σ) : ((addM put s a b c).flat put).length≤(s.flat put).length + c.length:=by
  unfold addM;split
  · simp [Mg.flat]
  · simp [Mg.flat];omega
theorem qe1 {s0 : Mg σ β} {M : Nat} : ∀ {steps : List (Int × Int × List σ)},(∀ t∈steps,t.2.2.length≤M)→((K7 put s0 steps).flat put).length≤(s0.flat put).length + steps.length * M:=by
  intro steps
  induction steps generalizing s0 with
  | nil=>intro _;simp [K7]
  | cons t r ih=>
    intro h;have c:=ih (s0:=addM put s0 t.1 t.2.1 t.2.2) fun u a=>h u (by simp [a]);have f:=qnd put s0 t.1 t.2.1 t.2.2;have d:=h t qe;have b : K7 put s0 (t::r) = K7 put (addM put s0 t.1 t.2.1 t.2.2) r:=rfl;rw [b];simp only [List.length_cons,Nat.succ_mul];omega
end
section
variable {σ : Type}
def Z5 (cuts : List Int) (sec : Int→List σ) : List (Int × Int × List σ):=(cuts.zip cuts.tail).map fun c=>(c.1,c.2,sec c.1)
theorem qcf (a : List Int) (sec : Int→List σ) : (Z5 a sec).length = a.length - 1:=by simp [Z5]
theorem qg0 {a : List Int} {sec : Int→List σ} {i : Nat} (h : i < (Z5 a sec).length) (b : i + 1 < a.length) : (Z5 a sec)[i] = (a[i],a[i + 1],sec a[i]):=by
  simp [Z5]
theorem q10w {a : List Int} {sec : Int→List σ} {M : Nat} (h : ∀ x,(sec x).length≤M) : ∀ t∈Z5 a sec,t.2.2.length≤M:=by
  intro t b;simp only [Z5,List.mem_map] at b;obtain ⟨c,_,rfl⟩:=b;exact h _
end
theorem q7d {σ β : Type} [DecidableEq σ] (put : Int→Int→σ→β) (s : Mg σ β) (a b : Int) (c : List σ) : (c≠[]∧c = s.sec∧s.hi = a∧addM put s a b c = ⟨s.done,s.sec,s.lo,b⟩)∨(¬ (c≠[]∧c = s.sec∧s.hi = a)∧addM put s a b c = ⟨s.flat put,c,a,b⟩):=by
  unfold addM;split
  · rename_i h;exact .inl ⟨h.1,h.2.1,h.2.2,rfl⟩
  · rename_i h;exact .inr ⟨h,rfl⟩
def putR (a b : Int) (t : qi) : qk:={X0:=a,Y0:=t.Lo,X1:=b,Y1:=t.Hi}
theorem qgt (s : Mg qi qk) (a b : Int) (c : List qi) (z : (s.flat putR).length + c.length≤1000000) :
    q5m (s.flat putR) s.sec (s.done.length : Int) s.hi a b c = some ((addM putR s a b c).sec,((addM putR s a b c).done.length : Int),(addM putR s a b c).hi,(addM putR s a b c).flat putR):=by
  have d : s.sec.length≤1000000:=by have : (s.flat putR).length = s.done.length + s.sec.length:=(by simp [Mg.flat]);omega
  unfold q5m;rcases q7d putR s a b c with ⟨q,r,t,m⟩ | ⟨q,m⟩
  · have hb : decide ((c.length : Int) > 0) = true:=Q9 (by have:=List.length_pos_iff.2 q;omega);have u : (s.hi == a) = true:=by simpa using t
    rw [r] at hb;rw [m,r];simp only [hb,Q2,u,qh,qi0 _ _ d,decide_true]
    have:=qi7 (fun v : qk=>({X0:=v.X0,Y0:=v.Y0,X1:=b,Y1:=v.Y1} : qk)) s.done (s.sec.map (putR s.lo s.hi)) (by have : (s.done ++ s.sec.map (putR s.lo s.hi)).length = (s.flat putR).length:=rfl;omega) (q5n b) (fun k o f x=>by
      have l : (s.done ++ s.sec.map (putR s.lo s.hi)).length = (s.flat putR).length:=rfl
      simp only [q5n,dlt f,Q2,K5 f,qh,w64s f q0,Int.toNat_natCast]) (fun o=>by simp only [q5n,dnl,Q1])
    rw [show s.flat putR = s.done ++ s.sec.map (putR s.lo s.hi) from rfl,this];simp only [qh,Mg.flat,List.map_map];rfl
  · rw [m]
    have w : ((cond (decide ((c.length : Int) > 0)) (some (s.hi == a)) (some false)).bind fun j=>(cond j ((q8u s.sec c).bind fun g=>some g) (some false))) = some false:=by
      by_cases l : c = []
      · subst l;simp
      · have hb : decide ((c.length : Int) > 0) = true:=Q9 (by have:=List.length_pos_iff.2 l;omega);simp only [hb,Q2,qh,qi0 _ _ d];by_cases p : s.hi = a
        · have y : s.sec≠c:=fun h=>q ⟨l,h.symm,p⟩;simp [p,y]
        · have : (s.hi == a) = false:=by simpa using p
          simp [this]
    have n:=qjq c (putR a b) (s.flat putR) (fun o=>(c,((s.flat putR).length : Int),b,o)) (q5o c a b (s.flat putR)) (fun k f o x=>by
      simp only [q5o,dlt f,Q2,K5 f,qh,w64s f q0];rw [Z7 (by simp;omega)]
      rfl) (fun o=>by simp only [q5o,dnl,Q1])
    rw [← Option.bind_assoc,w];simp only [qh,Q1,n];simp [Mg.flat]
end Go.Sh
namespace Go.Sh
open Go Go.Am
def vR (r : qk) : Prop:=r.X0 < r.X1∧r.Y0 < r.Y1∧-1000000≤r.X0∧r.X0≤1000000∧-1000000≤r.X1∧r.X1≤1000000∧-1000000≤r.Y0∧r.Y0≤1000000∧-1000000≤r.Y1∧r.Y1≤1000000
instance (r : qk) : Decidable (vR r):=by unfold vR;infer_instance
theorem qq3 (x : Int) : q2o x = some (decide (-1000000≤x∧x≤1000000)):=by
  unfold q2o;by_cases h : x ≥ -1000000 <;> by_cases a : x≤1000000 <;> simp [h,a] <;> omega
theorem qmy (r : qk) : q5r r = some (decide (vR r)):=by
  unfold q5r;simp only [qq3,qp6,qh,vR];by_cases a : r.X0 < r.X1 <;> by_cases g : r.Y0 < r.Y1 <;> by_cases d : -1000000≤r.X0∧r.X0≤1000000 <;> by_cases b : -1000000≤r.X1∧r.X1≤1000000 <;> by_cases f : -1000000≤r.Y0∧r.Y0≤1000000 <;> by_cases c : -1000000≤r.Y1∧r.Y1≤1000000 <;> simp [a,g,d,b,f,c] <;> omega
def covR (x : Int) (r : qk) : Bool:=decide (r.X0≤x) && decide (x < r.X1)
def ysp (r : qk) : qi:={Lo:=r.Y0,Hi:=r.Y1}
def covS (l : List qk) (x : Int) : List qi:=l.flatMap fun r=>if covR x r = true then [ysp r] else []
def hasR (l : List qk) (x y : Int) : Prop:=∃ r∈l,r.X0≤x∧x < r.X1∧r.Y0≤y∧y < r.Y1
theorem qev {l : List qk} {x : Int} {t : qi} : t∈covS l x↔∃ r∈l,covR x r = true∧t = ysp r:=by
  unfold covS;rw [List.mem_flatMap];constructor
  · rintro ⟨r,a,h⟩;split at h
    · rename_i b;simp only [List.mem_singleton] at h;exact ⟨r,a,b,h⟩
    · cases h
  · rintro ⟨r,a,b,rfl⟩;exact ⟨r,a,by simp [b]⟩
theorem q54 {l : List qk} {x y : Int} : has (covS l x) y↔hasR l x y:=by
  unfold has hasR;constructor
  · rintro ⟨t,g,a,d⟩;obtain ⟨r,b,c,rfl⟩:=qev.1 g;simp only [covR,Bool.and_eq_true,decide_eq_true_eq] at c;exact ⟨r,b,c.1,c.2,a,d⟩
  · rintro ⟨r,b,a,d,h,f⟩;exact ⟨ysp r,qev.2 ⟨r,b,by simp [covR,a,d],rfl⟩,h,f⟩
theorem q22 (l : List qk) (x : Int) : (covS l x).length≤l.length:=by
  unfold covS
  induction l with
  | nil=>simp
  | cons r l ih=>
    simp only [List.flatMap_cons,List.length_append,List.length_cons];have : (if covR x r = true then [ysp r] else []).length≤1:=by split <;> simp
    omega
theorem qhn {l : List qk} (h : ∀ r∈l,vR r) (x : Int) : ∀ t∈covS l x,vld t:=by
  intro t c;obtain ⟨r,a,_,rfl⟩:=qev.1 c;obtain ⟨_,f,_,_,_,_,d,_,_,b⟩:=h r a;exact ⟨f,d,b⟩
def xsOf (l : List qk) : List Int:=l.flatMap fun r=>[r.X0,r.X1]
theorem q1y (l : List qk) : (xsOf l).length = 2 * l.length:=by
  unfold xsOf;induction l with
  | nil=>rfl
  | cons r l ih=>simp only [List.flatMap_cons,List.length_append,List.length_cons,List.length_nil];omega
noncomputable def K2 (l : List Int) : List Int:=(q5f l).getD []
theorem q11 {l : List Int} (d : l.length≤1000000) : q5f l = some (K2 l)∧Zc l (K2 l)∧(K2 l).length≤l.length:=by
  obtain ⟨t,b,c,a⟩:=qmd l d;unfold K2;rw [b];exact ⟨rfl,c,a⟩
noncomputable def secJ (kind : Int) (p q : List qk) (x : Int) : List qi:=Jh kind (covS p x) (covS q x)
theorem qlj (kind : Int) {p q : List qk} (h : p.length + q.length≤100000) (x : Int) : (secJ kind p q x).length≤2 * (p.length + q.length):=by
  have a:=q22 p x;have b:=q22 q x;have:=(q80 kind (covS p x) (covS q x) q0 q0).2.len;unfold secJ;omega
noncomputable def mrg (kind : Int) (p q : List qk) : Mg qi qk:=K7 putR K6 (Z5 (K2 (xsOf p ++ xsOf q)) (secJ kind p q))
noncomputable def mrgR (kind : Int) (p q : List qk) : List qk:=(mrg kind p q).flat putR
theorem qhr {p q : List qk} (h : p.length + q.length≤490) : q5f (xsOf p ++ xsOf q) = some (K2 (xsOf p ++ xsOf q))∧Zc (xsOf p ++ xsOf q) (K2 (xsOf p ++ xsOf q))∧(K2 (xsOf p ++ xsOf q)).length≤2 * (p.length + q.length):=by
  have d:=q1y p;have f:=q1y q;obtain ⟨a,b,c⟩:=q11 (l:=xsOf p ++ xsOf q) (by simp;omega);exact ⟨a,b,by simp at c;omega⟩
theorem qrv (kind : Int) {p q : List qk} (h : p.length + q.length≤490) (i : Nat) :
    ((K7 putR K6 ((Z5 (K2 (xsOf p ++ xsOf q)) (secJ kind p q)).take i)).flat putR).length≤980 * 980:=by
  have c:=qe1 putR (s0:=K6) (M:=980) (steps:=(Z5 (K2 (xsOf p ++ xsOf q)) (secJ kind p q)).take i) (fun t a=>by
    have:=q10w (M:=2 * (p.length + q.length)) (fun x=>qlj kind q0 x) t (List.mem_of_mem_take a)
    omega)
  have b : ((Z5 (K2 (xsOf p ++ xsOf q)) (secJ kind p q)).take i).length≤980:=by
    have:=(qhr h).2.2;rw [List.length_take,qcf];omega
  have f : (K6.flat putR : List qk).length = 0:=rfl;have d : ((Z5 (K2 (xsOf p ++ xsOf q)) (secJ kind p q)).take i).length * 980≤980 * 980:=Nat.mul_le_mul_right _ b;omega
theorem qrk (l : List qk) (z : l.length≤400) :
    (((idx [l] 0).bind fun g=>(loop (J8 g) (0,[])).bind fun v=>some v).bind fun f=>(U2 f).bind fun c=>(Qu c.length f.length).bind fun _=>(Uv c).bind fun b=>(Qu b.2.length c.length).bind fun _=>(Ux b.2.length b.1).bind fun _=>some ((b.2.drop b.1.1).take b.1.2)) = some (K2 (xsOf l)):=by
  have p : idx [l] 0 = some l:=rfl
  have u : loop (J8 l) (0,[]) = some (xsOf l):=by
    have:=q7c l q0 (fun r=>[r.X0,r.X1]) [] (fun o=>o) (J8 l) (fun k h o n=>by
      have h8 : o.length = 2 * k:=by rw [n,List.nil_append];have:=q1y (l.take k);rw [List.length_take,Nat.min_eq_left q0] at this;exact this
      simp only [J8,dlt h,Q2,K5 h,qh,w64s h q0];rw [Z7 (by simp;omega)]
      rfl) (fun o=>by simp only [J8,dnl,Q1])
    rw [List.nil_append] at this;exact this
  have y:=q1y l;obtain ⟨ys,s,m,t⟩:=qmb (xsOf l) q0;have j : ys.length = (xsOf l).length:=m.length_eq;obtain ⟨w,a,c1,c2,c3,c4⟩:=qhg t q0;obtain ⟨_,q,_⟩:=q11 (l:=xsOf l) q0
  have d : a.take w = K2 (xsOf l):=by
    refine qmc (l:=xsOf l) ⟨c4.1,fun x=>?_⟩ q;rw [c4.2 x];exact m.mem_iff
  simp only [p,qh,u,s,Qu,j,if_true,c1,c2,Ux];rw [qs q0];simp only [qh,List.drop_zero,d]
theorem qeo (l : List qk) (g : l.length≤400) (x : Int) : loop (Ub l x) (0,[]) = some (covS l x):=by
  have:=q7c l q0 (fun r=>if covR x r = true then [ysp r] else []) [] (fun o=>o) (Ub l x) (fun k b o d=>by
    have f : o.length≤k:=by rw [d,List.nil_append];have:=q22 (l.take k) x;rw [List.length_take,Nat.min_eq_left q0] at this;exact this
    simp only [Ub,dlt b,Q2,K5 b,qh,w64s b q0];by_cases a : l[k].X0≤x
    · by_cases c : x < l[k].X1
      · simp only [a,c,decide_true,Q2,qh,covR,Bool.and_self,if_true];rw [Z7 (by simp;omega)];rfl
      · simp only [a,c,decide_true,decide_false,Q2,Q1,qh,covR,Bool.and_false,if_false,Bool.false_eq_true,List.append_nil]
    · simp only [a,decide_false,Q1,qh,covR,Bool.false_and,if_false,Bool.false_eq_true,List.append_nil]) (fun o=>by simp only [Ub,dnl,Q1])
  rw [List.nil_append] at this;exact this
theorem qjp (l : List qk) (v : l.length≤400) (x : ∀ r∈l,vR r) : q5q l = some (if 400 < (mrgR 2 l []).length then ([],4) else (mrgR 2 l [],0)):=by
  unfold q5q;rw [qrk l v];simp only [qh];have c : K2 (xsOf l ++ xsOf []) = K2 (xsOf l):=by simp [xsOf]
  obtain ⟨_,m,a⟩:=qhr (p:=l) (q:=[]) (by simp;omega);have g:=fun i=>qrv 2 (p:=l) (q:=[]) (by simp;omega) i;rw [c] at m a;have a : (K2 (xsOf l)).length≤2 * l.length:=by simpa using a
  have d : loop (q2p (K2 (xsOf l)) l) (1,[],0,0,[]) = some ((mrg 2 l []).sec,((mrg 2 l []).done.length : Int),(mrg 2 l []).hi,mrgR 2 l []):=by
    unfold mrgR mrg;rw [c] at g ⊢;generalize h : Z5 (K2 (xsOf l)) (secJ 2 l []) = steps at g ⊢;have z : steps.length = (K2 (xsOf l)).length - 1:=by rw [← h];exact qcf _ _
    have j : K7 putR K6 (steps.take steps.length) = K7 putR K6 steps:=by rw [List.take_length]
    have key:=Us (f:=q2p (K2 (xsOf l)) l) (fun k=>(((k + 1 : Nat) : Int),(K7 putR K6 (steps.take k)).sec,((K7 putR K6 (steps.take k)).done.length : Int),(K7 putR K6 (steps.take k)).hi,(K7 putR K6 (steps.take k)).flat putR))
      steps.length ((K7 putR K6 steps).sec,((K7 putR K6 steps).done.length : Int),(K7 putR K6 steps).hi,(K7 putR K6 steps).flat putR) (fun k t=>by
        have b : k + 1 < (K2 (xsOf l)).length:=by omega
        have w : steps[k] = ((K2 (xsOf l))[k],(K2 (xsOf l))[k + 1],secJ 2 l [] (K2 (xsOf l))[k]):=by
          subst h;exact qg0 t b
        have y : idx (K2 (xsOf l)) (w64 (((k + 1 : Nat) : Int) - 1)) = some (K2 (xsOf l))[k]:=by rw [Q5 q0];exact Zr q0 q0
        have aa:=q22 l (K2 (xsOf l))[k]
        have n : q71 (covS l (K2 (xsOf l))[k]) = some (secJ 2 l [] (K2 (xsOf l))[k],0):=by
          rw [qrl];unfold qep;rw [qx q0,qs (qhn x _)];rfl
        have o:=qlj 2 (p:=l) (q:=[]) (by simp;omega) (K2 (xsOf l))[k];have s:=g k;have hb:=qgt (K7 putR K6 (steps.take k)) (K2 (xsOf l))[k] (K2 (xsOf l))[k + 1] (secJ 2 l [] (K2 (xsOf l))[k]) (by simp at o;omega);rw [qe2 putR t,w];simp only [q2p,dlt b,Q2,y,K5 b,qh,show idx [l] 0 = some l from rfl,qeo l v,n,hb]
        rw [w64s b q0]) (by
        rw [j];by_cases h0 : (K2 (xsOf l)).length = 0
        · have : decide (((steps.length + 1 : Nat) : Int) < ((K2 (xsOf l)).length : Int)) = false:=Qb q0;simp only [q2p,this,Q1]
        · have : decide (((steps.length + 1 : Nat) : Int) < ((K2 (xsOf l)).length : Int)) = false:=Qb q0
          simp only [q2p,this,Q1]) (Nat.zero_le _)
    exact key
  rw [d];simp only [qh];by_cases u : 400 < (mrgR 2 l []).length
  · rw [Q9 (by omega : ((mrgR 2 l []).length : Int) > 400),qs u];rfl
  · rw [Qb (by omega : ¬ ((mrgR 2 l []).length : Int) > 400),qx u];rfl
end Go.Sh
namespace Go.Sh
open Go Go.Am
theorem qj5 {kind : Int} {a b : Prop} (h : Yd kind a b) : a∨b:=by
  rcases h with ⟨_,h,_⟩ | ⟨_,h⟩ | ⟨_,_,h,_⟩
  · exact .inl h
  · exact h
  · exact .inl h
end Go.Sh
namespace Go.Sh
open Go Go.Am
noncomputable def Yj (l : List qk) : Int:=if 400 < l.length then 4 else if ∀ r∈l,vR r then (if mrgR 2 l [] = l then 0 else 8) else 8
theorem qov {l : List qk} (h : Yj l = 0) : l.length≤400∧(∀ r∈l,vR r)∧mrgR 2 l [] = l:=by
  unfold Yj at h;split at h
  · omega
  · split at h
    · split at h
      · rename_i a b c;exact ⟨q0,b,c⟩
      · omega
    · omega
theorem que (l : List qk) (m : l.length≤1000000) : q8r l (fun a=>q2m a) = some (decide (¬ ∀ r∈l,vR r)):=by
  have hs : ∀ (k : Nat) (h : k < l.length),q43 l (fun a=>q2m a) (k : Int) = some (if (fun r=>!decide (vR r)) l[k] = true then .inr (.inr (k : Int)) else .inl ((k + 1 : Nat) : Int)):=by
    intro k h;simp only [q43,dlt h,Q2,K5 h,qh,w64s h m,q2m,qmy];by_cases g : vR l[k] <;> simp [g]
  have hd : q43 l (fun a=>q2m a) (l.length : Int) = some (.inr (.inl ())):=by simp only [q43,dnl,Q1]
  unfold q8r qc3;rcases qat l (fun r=>!decide (vR r)) (fun k _=>(k : Int)) () _ hs hd with ⟨c,b⟩ | ⟨k,d,j,_,b⟩
  · rw [b];have : ∀ r∈l,vR r:=fun r f=>by simpa using c r f
    simp [];omega
  · rw [b];have : ¬ ∀ r∈l,vR r:=fun h=>by simp [h _ (Y5 d)] at j
    simp only [qh];rw [Q9 this,Q9 q0]
theorem qu6 (l : List qk) : q5j l = some (Yj l):=by
  unfold q5j Yj;by_cases c : 400 < l.length
  · rw [Q9 (by omega : (l.length : Int) > 400),Q2,qs c]
  rw [Qb (by omega : ¬ (l.length : Int) > 400),Q1,qx c,que l q0,qh];by_cases a : ∀ r∈l,vR r
  · rw [Qb (fun h=>h a),Q1,qjp l q0 a,qs a,qh];by_cases b : 400 < (mrgR 2 l []).length
    · have d : mrgR 2 l []≠l:=fun h=>by rw [h] at b;exact c b
      rw [qs b,qx d];rfl
    · rw [qx b];simp only [qdt (mrgR 2 l []) l q0];by_cases f : mrgR 2 l [] = l <;> simp [f]
  · rw [Q9 a,Q2,qx a]
def putB (a b : Int) (r : qk) : qw:={Lo:={X:=r.X0,Y:=r.Y0,Z:=a},Hi:={X:=r.X1,Y:=r.Y1,Z:=b}}
def qic (z : Int) : Prop:=-1000000≤z∧z≤1000000
instance (z : Int) : Decidable (qic z):=by unfold qic;infer_instance
end Go.Sh
namespace Go.Sh
open Go Go.Am
def covB (z : Int) (b : qw) : Bool:=decide (b.Lo.Z≤z) && decide (z < b.Hi.Z)
def Jk (b : qw) : qk:={X0:=b.Lo.X,Y0:=b.Lo.Y,X1:=b.Hi.X,Y1:=b.Hi.Y}
def atB (l : List qw) (z : Int) : List qk:=l.flatMap fun b=>if covB z b = true then [Jk b] else []
theorem q4q (l : List qw) (x : Int) : (atB l x).length≤l.length:=by
  unfold atB
  induction l with
  | nil=>simp
  | cons r l ih=>
    simp only [List.flatMap_cons,List.length_append,List.length_cons];have : (if covB x r = true then [Jk r] else []).length≤1:=by split <;> simp
    omega
def zsOf (l : List qw) : List Int:=l.flatMap fun b=>[b.Lo.Z,b.Hi.Z]
theorem q33 (l : List qw) : (zsOf l).length = 2 * l.length:=by
  unfold zsOf;induction l with
  | nil=>rfl
  | cons r l ih=>simp only [List.flatMap_cons,List.length_append,List.length_cons,List.length_nil];omega
structure q11u (kind : Int) (p q : List qw) (z : Int) : Prop where
  n : (atB p z).length + (atB q z).length≤490
  m : (mrgR kind (atB p z) (atB q z)).length≤400
  mp : (mrgR 2 (atB p z) []).length≤400
  mq : (mrgR 2 (atB q z) []).length≤400
noncomputable def secB (kind : Int) (p q : List qw) (z : Int) : List qk:=mrgR kind (atB p z) (atB q z)
noncomputable def mrgB (kind : Int) (p q : List qw) : List qw:=(K7 putB K6 (Z5 (K2 (zsOf p ++ zsOf q)) (secB kind p q))).flat putB
section
variable {σ β : Type} (put : Int→Int→σ→β)
def Alike (s t : Mg σ β) : Prop:=s = t∨(s.flat put = t.flat put∧s.sec = []∧t.sec = [])
theorem Alike.flat {s t : Mg σ β} (h : Alike put s t) : s.flat put = t.flat put:=by
  rcases h with rfl | h
  · rfl
  · exact h.1
end
section
variable {σ β : Type} [DecidableEq σ] (put : Int→Int→σ→β)
def runM (sec : Int→List σ) : Mg σ β→List Int→Mg σ β
  | s,a::b::r=>runM sec (addM put s a b (sec a)) (b::r)
  | s,_=>s
theorem qig (sec : Int→List σ) : ∀ (c : List Int) (s : Mg σ β),K7 put s (Z5 c sec) = runM put sec s c
  | [],s=>rfl
  | [a],s=>rfl
  | a::b::r,s=>by
    have:=qig sec (b::r) (addM put s a b (sec a))
    simp only [runM,← this]
    rfl
theorem Alike.add {s t : Mg σ β} (h : Alike put s t) (a b : Int) (c : List σ) : Alike put (addM put s a b c) (addM put t a b c):=by
  rcases h with rfl | ⟨g,o,n⟩
  · exact .inl rfl
  · refine .inl ?_;rcases q7d put s a b c with ⟨m,l,_,_⟩ | ⟨_,j⟩
    · exact absurd (l.trans o) m
    · rcases q7d put t a b c with ⟨k,d,_,_⟩ | ⟨_,f⟩
      · exact absurd (d.trans n) k
      · rw [j,f,g]
end
end Go.Sh
namespace Go.Sh
open Go Go.Am
structure Grp (σ : Type) where
  lo : Int
  hi : Int
  sec : List σ
section
variable {σ β : Type}
def CanG (gs : List (Grp σ)) : Prop:=(∀ g∈gs,g.lo < g.hi∧g.sec≠[])∧gs.Pairwise (fun g h=>g.hi≤h.lo∧(g.hi = h.lo→g.sec≠h.sec))
def secG : List (Grp σ)→Int→List σ
  | [],_=>[]
  | g::r,x=>if g.lo≤x∧x < g.hi then g.sec else secG r x
def Y7 (put : Int→Int→σ→β) (gs : List (Grp σ)) : List β:=gs.flatMap fun g=>g.sec.map (put g.lo g.hi)
theorem qq4 (put : Int→Int→σ→β) (a b : List (Grp σ)) : Y7 put (a ++ b) = Y7 put a ++ Y7 put b:=by simp [Y7]
theorem q2r {y x : Int} : ∀ {r : List (Grp σ)},(∀ h∈r,y≤h.lo)→x < y→secG r x = []
  | [],_,_=>rfl
  | g::r,h,hx=>by
    have:=h g qe
    rw [secG,qx q0]
    exact q2r (fun k a=>h k (by simp [a])) hx
theorem q5u {y x : Int} : ∀ {r : List (Grp σ)},(∀ h∈r,h.hi≤y)→y≤x→secG r x = []
  | [],_,_=>rfl
  | g::r,h,hx=>by
    have:=h g qe
    rw [secG,qx q0]
    exact q5u (fun k a=>h k (by simp [a])) hx
theorem q8l {x : Int} : ∀ {a b : List (Grp σ)},secG a x = []→(∀ g∈a,g.sec≠[])→secG (a ++ b) x = secG b x
  | [],_,_,_=>rfl
  | g::a,b,h,hne=>by
    rw [secG] at h
    split at h
    · exact absurd h (hne g qe)
    · rename_i c
      rw [List.cons_append,secG,qx c]
      exact q8l h fun k d=>hne k (by simp [d])
theorem qfq {y x : Int} {a b : List (Grp σ)} (hb : ∀ h∈b,y≤h.lo) (c : x < y) : secG (a ++ b) x = secG a x:=by
  induction a with
  | nil=>exact q2r hb c
  | cons g a ih=>simp only [List.cons_append,secG,ih]
theorem CanG.tail {g : Grp σ} {r : List (Grp σ)} (h : CanG (g::r)) : CanG r:=⟨fun k a=>h.1 k (by simp [a]),(List.pairwise_cons.1 h.2).2⟩
theorem CanG.nxt {g : Grp σ} {r : List (Grp σ)} (h : CanG (g::r)) : ∀ k∈r,g.hi≤k.lo∧(g.hi = k.lo→g.sec≠k.sec):=(List.pairwise_cons.1 h.2).1
theorem q2q {g : Grp σ} {r : List (Grp σ)} {x : Int} (a : g.lo≤x) (b : x < g.hi) : secG (g::r) x = g.sec:=by rw [secG,qs ⟨a,b⟩]
theorem qw7 {g : Grp σ} {r : List (Grp σ)} (h : CanG (g::r)) : secG (g::r) g.hi≠g.sec:=by
  rw [secG,qx q0]
  cases r with
  | nil=>exact fun e=>(h.1 g qe).2 e.symm
  | cons k r=>
    have a:=h.nxt k qe;have b:=h.tail.1 k qe;by_cases c : g.hi = k.lo
    · rw [q2q q0 q0];exact fun e=>a.2 c e.symm
    · rw [secG,qx q0,q2r (y:=k.hi) (fun m d=>(h.tail.nxt m d).1) q0];exact fun e=>(h.1 g qe).2 e.symm
theorem qd8 : ∀ {a b : List (Grp σ)},CanG a→CanG b→(∀ x,secG a x = secG b x)→a = b
  | [],[],_,_,_=>rfl
  | [],g::r,_,hb,h=>by
    have:=h g.lo
    rw [q2q (Int.le_refl _) (hb.1 g qe).1] at this
    exact absurd this.symm (hb.1 g qe).2
  | g::r,[],c,_,h=>by
    have:=h g.lo
    rw [q2q (Int.le_refl _) (c.1 g qe).1] at this
    exact absurd this (c.1 g qe).2
  | g::r,k::s,c,hb,h=>by
    have q:=c.1 g qe
    have t:=hb.1 k qe
    have low : ∀ {g k : Grp σ} {r s : List (Grp σ)},CanG (g::r)→CanG (k::s)→(∀ x,secG (g::r) x = secG (k::s) x)→k.lo≤g.lo:=by
      intro g k r s c hb h;refine Int.not_lt.1 fun j=>?_;have d:=h g.lo;rw [q2q (Int.le_refl _) (c.1 g qe).1,q2r (y:=k.lo) (fun m f=>?_) j] at d
      · exact (c.1 g qe).2 d
      · rcases List.mem_cons.1 f with rfl | f
        · exact Int.le_refl _
        · have:=(hb.nxt m f).1;have:=(hb.1 k qe).1;omega
    have n : g.lo = k.lo:=Int.le_antisymm (low hb c fun x=>(h x).symm) (low c hb h)
    have l : g.sec = k.sec:=by
      have d:=h g.lo
      rwa [q2q (Int.le_refl _) q.1,q2q q0 q0] at d
    have hi : ∀ {g k : Grp σ} {r s : List (Grp σ)},CanG (g::r)→CanG (k::s)→(∀ x,secG (g::r) x = secG (k::s) x)→g.lo = k.lo→g.sec = k.sec→k.hi≤g.hi:=by
      intro g k r s c hb h n l;refine Int.not_lt.1 fun j=>?_;have d:=h g.hi;have:=(c.1 g qe).1;rw [q2q (g:=k) q0 j,← l] at d;exact qw7 c d
    have p : g.hi = k.hi:=Int.le_antisymm (hi hb c (fun x=>(h x).symm) n.symm l.symm) (hi c hb h n l)
    have e : g = k:=by cases g;cases k;simp at n l p;simp [n,l,p]
    subst e
    have : r = s:=qd8 c.tail hb.tail fun x=>by
      by_cases o : x < g.hi
      · rw [q2r (y:=g.hi) (fun m f=>(c.nxt m f).1) o,q2r (y:=g.hi) (fun m f=>(hb.nxt m f).1) o]
      · have d:=h x
        rwa [secG,secG,qx q0,qx q0] at d
    rw [this]
def curG (s : Mg σ β) : List (Grp σ):=if s.sec = [] then [] else [⟨s.lo,s.hi,s.sec⟩]
def secC (sec : Int→List σ) : List Int→Int→List σ
  | a::b::r,x=>if a≤x∧x < b then sec a else secC sec (b::r) x
  | _,_=>[]
theorem qie (put : Int→Int→σ→β) (s : Mg σ β) (a : List (Grp σ)) (h : s.done = Y7 put a) : s.flat put = Y7 put (a ++ curG s):=by
  rw [qq4,Mg.flat,h];unfold curG;split
  · rename_i b;simp [b,Y7]
  · simp [Y7]
theorem qb9 {s : Mg σ β} {g : Grp σ} (h : g∈curG s) : s.sec≠[]∧g = ⟨s.lo,s.hi,s.sec⟩:=by
  unfold curG at h;split at h
  · cases h
  · rename_i a;exact ⟨a,by simpa using h⟩
theorem qbt (sec : Int→List σ) {x : Int} : ∀ {d : List Int},d.Pairwise (· < ·)→
    (∀ a∈d,a≤x→(∀ c∈d,c≤a∨x < c)→sec a = sec x)→((∀ c∈d,x < c)→sec x = [])→((∀ c∈d,c≤x)→sec x = [])→secC sec d x = sec x
  | [],_,_,h2,_=>(h2 qe).symm
  | [a],_,_,h2,h3=>by
    rw [secC]
    · by_cases k : x < a
      · exact (h2 (by simpa using k)).symm
      · exact (h3 (by simpa using k)).symm
    · intro a b r h;simp at h
  | a::b::r,hp,h1,h2,h3=>by
    have p : a < b:=(List.pairwise_cons.1 hp).1 b qe
    have n:=(List.pairwise_cons.1 (List.pairwise_cons.1 hp).2).1
    rw [secC]
    split
    · rename_i k
      refine h1 a qe k.1 fun c g=>?_
      rcases List.mem_cons.1 g with rfl | g
      · exact .inl (Int.le_refl _)
      · rcases List.mem_cons.1 g with rfl | g
        · exact .inr k.2
        · have:=n c g;exact .inr q0
    · rename_i k
      by_cases m : x < a
      · have e : sec x = []:=h2 fun c g=>by
          rcases List.mem_cons.1 g with rfl | g
          · exact m
          · have:=(List.pairwise_cons.1 hp).1 c g;omega
        have:=qbt sec (x:=x) (List.pairwise_cons.1 hp).2 (fun a' j l _=>by
          exfalso;have:=(List.pairwise_cons.1 hp).1 a' j;omega) (fun _=>e) (fun _=>e)
        exact this
      · have o : b≤x:=by omega
        exact qbt sec (List.pairwise_cons.1 hp).2 (fun a' j l f=>h1 a' (by simp [j]) l fun c g=>by
          rcases List.mem_cons.1 g with rfl | g
          · have:=(List.pairwise_cons.1 hp).1 a' j;exact .inl q0
          · exact f c g) (fun f=>by have:=f b qe;omega) (fun f=>h3 fun c g=>by
          rcases List.mem_cons.1 g with rfl | g
          · omega
          · exact f c g)
variable [DecidableEq σ] (put : Int→Int→σ→β)
structure InvG (s : Mg σ β) (gs : List (Grp σ)) (c : Int) : Prop where
  done : s.done = Y7 put gs
  can : CanG (gs ++ curG s)
  le : ∀ g∈gs ++ curG s,g.hi≤c
  gap : s.sec = []→∀ g∈gs,g.hi = c→False
theorem qr2 {s : Mg σ β} {j : List (Grp σ)} {a b : Int} {c : List σ} (ad : a < b) (hi : InvG put s j a) :
    ∃ r,InvG put (addM put s a b c) r b∧∀ x,secG (r ++ curG (addM put s a b c)) x = if a≤x∧x < b then c else secG (j ++ curG s) x:=by
  rcases q7d put s a b c with ⟨h1,h2,h3,z⟩ | ⟨h1,z⟩
  · rw [z];have hs : s.sec≠[]:=h2 ▸ h1;have c1 : curG s = [⟨s.lo,s.hi,s.sec⟩]:=by unfold curG;rw [qx hs]
    have c2 : curG (⟨s.done,s.sec,s.lo,b⟩ : Mg σ β) = [⟨s.lo,b,s.sec⟩]:=by unfold curG;rw [qx hs]
    have f:=hi.can;rw [c1] at f;have ai : s.lo < s.hi:=(f.1 ⟨s.lo,s.hi,s.sec⟩ qe).1;refine ⟨j,⟨hi.done,?_,?_,fun h=>absurd h hs⟩,?_⟩
    · rw [c2];refine ⟨fun g d=>?_,?_⟩
      · rcases List.mem_append.1 d with d | d
        · exact f.1 g (by simp [d])
        · obtain rfl:=List.mem_singleton.1 d;exact ⟨by simp only;omega,hs⟩
      · have:=List.pairwise_append.1 f.2;refine List.pairwise_append.2 ⟨this.1,qe,fun g d k w=>?_⟩;obtain rfl:=List.mem_singleton.1 w;exact this.2.2 g d ⟨s.lo,s.hi,s.sec⟩ qe
    · rw [c2];intro g d;rcases List.mem_append.1 d with d | d
      · have:=hi.le g (by simp [d]);omega
      · obtain rfl:=List.mem_singleton.1 d;exact Int.le_refl _
    · intro x;rw [c1,c2];have ab : ∀ g∈j,g.hi≤s.lo:=fun g d=>((List.pairwise_append.1 f.2).2.2 g d ⟨s.lo,s.hi,s.sec⟩ qe).1;have q : ∀ g∈j,g.sec≠[]:=fun g d=>(f.1 g (by simp [d])).2;by_cases n : x < s.lo
      · rw [qx q0,qfq (y:=s.lo) qe n,qfq (y:=s.lo) qe n]
      · have e : secG j x = []:=q5u ab q0;rw [q8l e q,q8l e q];simp only [secG];by_cases aa : x < s.hi
        · rw [qs ⟨q0,q0⟩,qx q0,qs ⟨q0,aa⟩]
        · by_cases o : x < b
          · rw [qs ⟨q0,o⟩,qs ⟨q0,o⟩,h2]
          · rw [qx q0,qx q0,qx q0]
  · rw [z];have hd : s.flat put = Y7 put (j ++ curG s):=qie put s j hi.done;refine ⟨j ++ curG s,⟨hd,?_,?_,?_⟩,?_⟩
    · by_cases m : c = []
      · have : curG (⟨s.flat put,c,a,b⟩ : Mg σ β) = []:=by unfold curG;rw [qs m]
        rw [this,List.append_nil];exact hi.can
      · have : curG (⟨s.flat put,c,a,b⟩ : Mg σ β) = [⟨a,b,c⟩]:=by unfold curG;rw [qx m]
        rw [this];refine ⟨fun g d=>?_,List.pairwise_append.2 ⟨hi.can.2,qe,fun g d k w=>?_⟩⟩
        · rcases List.mem_append.1 d with d | d
          · exact hi.can.1 g d
          · obtain rfl:=List.mem_singleton.1 d;exact ⟨ad,m⟩
        · obtain rfl:=List.mem_singleton.1 w;refine ⟨hi.le g d,fun t p=>?_⟩;rcases List.mem_append.1 d with l | l
          · by_cases hs : s.sec = []
            · exact hi.gap hs g l t
            · have v : (⟨s.lo,s.hi,s.sec⟩ : Grp σ)∈curG s:=by unfold curG;rw [qx hs];simp
              have h6:=((List.pairwise_append.1 hi.can.2).2.2 g l _ v).1;have h7:=(hi.can.1 _ (List.mem_append.2 (.inr v))).1;have h8:=hi.le _ (List.mem_append.2 (.inr v));simp only at t h6 h7 h8;omega
          · obtain ⟨hs,rfl⟩:=qb9 l;exact h1 ⟨m,p.symm,t⟩
    · intro g d;rcases List.mem_append.1 d with d | d
      · have:=hi.le g d;omega
      · obtain ⟨_,rfl⟩:=qb9 d;exact Int.le_refl _
    · intro m g d t;have:=hi.le g d;omega
    · intro x;by_cases n : a≤x∧x < b
      · rw [qs n,q8l (q5u hi.le n.1) fun g d=>(hi.can.1 g d).2];unfold curG;split
        · rename_i m;simp only at m;rw [m];rfl
        · simp only [secG];rw [qs n]
      · rw [qx n];by_cases u : x < a
        · exact qfq (y:=a) (fun g d=>by obtain ⟨_,rfl⟩:=qb9 d;exact Int.le_refl _) u
        · have e:=q5u (x:=x) hi.le q0;rw [q8l e fun g d=>(hi.can.1 g d).2,e];exact q5u (y:=b) (fun g d=>by obtain ⟨_,rfl⟩:=qb9 d;exact Int.le_refl _) q0
theorem qle (sec : Int→List σ) : ∀ (d : List Int) (c : Int) (s : Mg σ β) (h : List (Grp σ)),(c::d).Pairwise (· < ·)→InvG put s h c→
    ∃ f,(runM put sec s (c::d)).flat put = Y7 put f∧CanG f∧∀ x,secG f x = if x < c then secG (h ++ curG s) x else secC sec (c::d) x
  | [],c,s,h,_,hi=>by
    refine ⟨h ++ curG s,qie put s h hi.done,hi.can,fun x=>?_⟩
    by_cases k : x < c
    · rw [qs k]
    · rw [qx k];exact q5u hi.le q0
  | b::d,a,s,h,hp,hi=>by
    have n : a < b:=(List.pairwise_cons.1 hp).1 b qe
    obtain ⟨f,l,j⟩:=qr2 (b:=b) (c:=sec a) put n hi
    obtain ⟨m,p,o,q⟩:=qle sec d b _ f (List.pairwise_cons.1 hp).2 l
    refine ⟨m,p,o,fun x=>?_⟩
    rw [q x]
    by_cases k : x < a
    · rw [qs q0,qs k,j,qx q0]
    · rw [qx k]
      simp only [secC]
      by_cases g : x < b
      · rw [qs g,j,qs ⟨q0,g⟩,qs ⟨q0,g⟩]
      · rw [qx g,qx q0]
theorem qjy (sec : Int→List σ) {a : List Int} (g : a.Pairwise (· < ·)) :
    ∃ d,(K7 put K6 (Z5 a sec)).flat put = Y7 put d∧CanG d∧∀ x,secG d x = secC sec a x:=by
  rw [qig]
  cases a with
  | nil=>exact ⟨[],rfl,⟨qe,qe⟩,fun x=>rfl⟩
  | cons c a=>
    obtain ⟨d,j,h,k⟩:=qle put sec a c (K6 : Mg σ β) [] g ⟨rfl,⟨by simp [curG,K6],by simp [curG,K6]⟩,by simp [curG,K6],qe⟩;refine ⟨d,j,h,fun x=>?_⟩;rw [k x];split
    · rename_i f
      have : ∀ (a : List Int) (c : Int),(c::a).Pairwise (· < ·)→x < c→secC sec (c::a) x = []:=by
        intro a
        induction a with
        | nil=>intros;rfl
        | cons b r ih=>
          intro c hp f;rw [secC,qx q0];exact ih b (List.pairwise_cons.1 hp).2 (by have:=(List.pairwise_cons.1 hp).1 b qe;omega)
      rw [this a c g f];rfl
    · rfl
end
end Go.Sh
namespace Go.Sh
open Go Go.Am
section
variable {σ : Type}
theorem qfs {x : Int} : ∀ (b : List (Grp σ)),secG b x = []∨∃ g∈b,g.lo≤x∧x < g.hi∧secG b x = g.sec
  | []=>.inl rfl
  | g::r=>by
    by_cases a : g.lo≤x∧x < g.hi
    · exact .inr ⟨g,qe,a.1,a.2,by rw [secG,qs a]⟩
    · rw [secG,qx a]
      rcases qfs r with h | ⟨k,c,h⟩
      · exact .inl h
      · exact .inr ⟨k,by simp [c],h⟩
theorem qfr : ∀ {b : List (Grp σ)},CanG b→∀ g∈b,∀ x,g.lo≤x→x < g.hi→secG b x = g.sec
  | k::r,h,g,a,x,h1,h2=>by
    rcases List.mem_cons.1 a with rfl | a
    · exact q2q h1 h2
    · have:=(h.nxt g a).1
      rw [secG,qx q0]
      exact qfr h.tail g a x h1 h2
end
theorem qjd (kind : Int) : Jh kind [] [] = []:=by
  have a:=(q80 kind [] [] qe qe).2;refine q7h a.can ⟨qe,qe⟩ fun x=>?_;rw [a.pts];have:=q1g x;unfold Yd;simp [this]
theorem qpe (a b : List qk) (x : Int) : covS (a ++ b) x = covS a x ++ covS b x:=by simp [covS]
theorem qpf (s : List qi) (lo hi x : Int) : covS (s.map (putR lo hi)) x = if lo≤x∧x < hi then s else []:=by
  induction s with
  | nil=>simp [covS]
  | cons t s ih=>
    have e : covS (List.map (putR lo hi) (t::s)) x = (if covR x (putR lo hi t) = true then [t] else []) ++ covS (s.map (putR lo hi)) x:=rfl;rw [e,ih];have : covR x (putR lo hi t) = (decide (lo≤x) && decide (x < hi)):=rfl;rw [this];by_cases a : lo≤x <;> by_cases b : x < hi <;> simp [a,b]
theorem q7l : ∀ {b : List (Grp qi)},CanG b→∀ x,covS (Y7 putR b) x = secG b x
  | [],_,x=>rfl
  | g::r,h,x=>by
    have e : Y7 putR (g::r) = g.sec.map (putR g.lo g.hi) ++ Y7 putR r:=rfl
    rw [e,qpe,qpf,q7l h.tail x]
    by_cases a : g.lo≤x∧x < g.hi
    · rw [qs a,secG,qs a,q2r (y:=g.hi) (fun m c=>(h.nxt m c).1) a.2,List.append_nil]
    · rw [qx a,secG,qx a,List.nil_append]
theorem qhl {l : List qk} {a x : Int} (h : ∀ r∈l,covR a r = covR x r) : covS l a = covS l x:=by
  induction l with
  | nil=>rfl
  | cons r l ih=>
    have e : ∀ y,covS (r::l) y = (if covR y r = true then [ysp r] else []) ++ covS l y:=fun _=>rfl;rw [e,e,h r qe,ih fun k b=>h k (by simp [b])]
theorem qan {l : List qk} {x : Int} (h : ∀ r∈l,covR x r = false) : covS l x = []:=by
  induction l with
  | nil=>rfl
  | cons r l ih=>
    have e : covS (r::l) x = (if covR x r = true then [ysp r] else []) ++ covS l x:=rfl;rw [e,h r qe,ih fun k a=>h k (by simp [a])];rfl
theorem q4u {x : Int} {r : qk} : covR x r = true↔r.X0≤x∧x < r.X1:=by simp [covR]
theorem qjw {p q : List qk} {r : qk} (h : r∈p∨r∈q) : r.X0∈xsOf p ++ xsOf q∧r.X1∈xsOf p ++ xsOf q:=by
  unfold xsOf;simp only [List.mem_append,List.mem_flatMap];rcases h with h | h
  · exact ⟨.inl ⟨r,h,qe⟩,.inl ⟨r,h,qe⟩⟩
  · exact ⟨.inr ⟨r,h,qe⟩,.inr ⟨r,h,qe⟩⟩
theorem qk0 (kind : Int) {p q : List qk} (h : p.length + q.length≤100000) :
    ∃ f,mrgR kind p q = Y7 putR f∧CanG f∧∀ x,secG f x = secJ kind p q x:=by
  have u:=q1y p;have s:=q1y q;have hs:=(q11 (l:=xsOf p ++ xsOf q) (by simp;omega)).2.1;obtain ⟨f,o,k,n⟩:=qjy putR (secJ kind p q) hs.1;refine ⟨f,o,k,fun x=>?_⟩;rw [n]
  have g : ∀ r,(r∈p∨r∈q)→r.X0∈K2 (xsOf p ++ xsOf q)∧r.X1∈K2 (xsOf p ++ xsOf q):=fun r b=>
    ⟨(hs.2 _).2 (qjw b).1,(hs.2 _).2 (qjw b).2⟩
  refine qbt _ hs.1 (fun a _ m c=>?_) (fun c=>?_) (fun c=>?_)
  · have d : ∀ r,(r∈p∨r∈q)→covR a r = covR x r:=fun r b=>by
      have j:=c _ (g r b).1;have t:=c _ (g r b).2;rw [Bool.eq_iff_iff,q4u,q4u];omega
    unfold secJ;rw [qhl fun r b=>d r (.inl b),qhl fun r b=>d r (.inr b)]
  · have d : ∀ r,(r∈p∨r∈q)→covR x r = false:=fun r b=>by
      have j:=c _ (g r b).1;rw [← Bool.not_eq_true,q4u];omega
    unfold secJ;rw [qan fun r b=>d r (.inl b),qan fun r b=>d r (.inr b),qjd]
  · have d : ∀ r,(r∈p∨r∈q)→covR x r = false:=fun r b=>by
      have j:=c _ (g r b).2;rw [← Bool.not_eq_true,q4u];omega
    unfold secJ;rw [qan fun r b=>d r (.inl b),qan fun r b=>d r (.inr b),qjd]
def CanR (l : List qk) : Prop:=∃ gs : List (Grp qi),l = Y7 putR gs∧CanG gs∧∀ g∈gs,Can g.sec
theorem qo4 : Can []:=⟨qe,qe⟩
theorem CanR.nil : CanR []:=⟨[],rfl,⟨qe,qe⟩,qe⟩
theorem CanR.cov {l : List qk} (h : CanR l) (x : Int) : Can (covS l x):=by
  obtain ⟨c,rfl,b,d⟩:=h;rw [q7l b];rcases qfs (x:=x) c with e | ⟨g,a,_,_,e⟩
  · rw [e];exact qo4
  · rw [e];exact d g a
theorem qd9 {a b : List qk} (d : CanR a) (hb : CanR b) (h : ∀ x y,hasR a x y↔hasR b x y) : a = b:=by
  have g : ∀ x,covS a x = covS b x:=fun x=>q7h (d.cov x) (hb.cov x) fun y=>by rw [q54,q54];exact h x y
  obtain ⟨k,rfl,c,_⟩:=d;obtain ⟨j,rfl,f,_⟩:=hb;rw [qd8 c f fun x=>by rw [← q7l c,← q7l f];exact g x]
theorem qlk (kind : Int) {p q : List qk} (h : p.length + q.length≤100000) (x : Int) : qcu kind (covS p x) (covS q x) (secJ kind p q x):=by
  have a:=q22 p x;have b:=q22 q x;exact (q80 kind (covS p x) (covS q x) q0 q0).2
theorem qbd (kind : Int) {p q : List qk} (h : p.length + q.length≤100000) : CanR (mrgR kind p q):=by
  obtain ⟨c,d,a,f⟩:=qk0 kind h;refine ⟨c,d,a,fun g b=>?_⟩;have:=f g.lo;rw [qfr a g b _ (Int.le_refl _) (a.1 g b).1] at this;rw [this];exact (qlk kind h _).can
theorem qhm (kind : Int) {p q : List qk} (h : p.length + q.length≤100000) (x : Int) : covS (mrgR kind p q) x = secJ kind p q x:=by
  obtain ⟨d,b,a,c⟩:=qk0 kind h;rw [b,q7l a,c]
theorem qb2 (kind : Int) {p q : List qk} (h : p.length + q.length≤100000) (x y : Int) : hasR (mrgR kind p q) x y↔Yd kind (hasR p x y) (hasR q x y):=by
  rw [← q54,qhm kind h,(qlk kind h x).pts,q54,q54]
theorem qe9 (x y : Int) : ¬ hasR [] x y:=by rintro ⟨r,h,_⟩;cases h
theorem qec {a b : Prop} : Yd 2 a b↔a∨b:=by unfold Yd;simp
theorem qqt {a b : Prop} : Yd 1 a b↔a∧b:=by unfold Yd;simp
theorem qqq {l : List qk} (h : l.length≤100000) (x y : Int) : hasR (mrgR 2 l []) x y↔hasR l x y:=by
  rw [qb2 2 (by simpa using h),qec];simp [qe9]
theorem qk2 {l : List qk} (a : l.length≤100000) (h : CanR l) : mrgR 2 l [] = l:=
  qd9 (qbd 2 (by simpa using a)) h fun x y=>qqq a x y
theorem qju {σ β : Type} {put : Int→Int→σ→β} {a : List (Grp σ)} {r : β} : r∈Y7 put a↔∃ g∈a,∃ t∈g.sec,r = put g.lo g.hi t:=by
  unfold Y7;simp only [List.mem_flatMap,List.mem_map];exact ⟨fun ⟨g,hg,t,ht,e⟩=>⟨g,hg,t,ht,e.symm⟩,fun ⟨g,hg,t,ht,e⟩=>⟨g,hg,t,ht,e.symm⟩⟩
theorem CanR.lt {l : List qk} (h : CanR l) : ∀ r∈l,r.X0 < r.X1∧r.Y0 < r.Y1:=by
  obtain ⟨j,rfl,b,f⟩:=h;intro r c;obtain ⟨g,a,t,d,rfl⟩:=qju.1 c;exact ⟨(b.1 g a).1,(f g a).1 t d⟩
def InR (l : List qk) : Prop:=∀ x y,hasR l x y→(-1000000≤x∧x < 1000000)∧(-1000000≤y∧y < 1000000)
theorem CanR.vR {l : List qk} (h : CanR l) (hi : InR l) : ∀ r∈l,vR r:=by
  intro r a;have b:=h.lt r a;have d:=hi r.X0 r.Y0 ⟨r,a,q0⟩;have c:=hi (r.X1 - 1) (r.Y1 - 1) ⟨r,a,q0⟩;unfold Go.Sh.vR;omega
theorem InR.mrg {kind : Int} {p q : List qk} (h : p.length + q.length≤100000) (hp : InR p) (b : InR q) : InR (mrgR kind p q):=fun x y c=>by
  rcases qj5 ((qb2 kind h x y).1 c) with a | a
  · exact hp x y a
  · exact b x y a
theorem InR.nil : InR []:=fun x y h=>absurd h (qe9 x y)
theorem q7i {l : List qk} : Yj l = 0↔l.length≤400∧(∀ r∈l,vR r)∧CanR l:=by
  constructor
  · intro h;obtain ⟨c,b,a⟩:=qov h;exact ⟨c,b,a ▸ qbd 2 (by simp;omega)⟩
  · rintro ⟨c,b,a⟩;unfold Yj;rw [qx q0,qs b,qs (qk2 q0 a)]
end Go.Sh
namespace Go.Sh
open Go Go.Am
def hasB (l : List qw) (x y z : Int) : Prop:=∃ b∈l,(b.Lo.X≤x∧x < b.Hi.X)∧(b.Lo.Y≤y∧y < b.Hi.Y)∧(b.Lo.Z≤z∧z < b.Hi.Z)
theorem q21 {z : Int} {b : qw} : covB z b = true↔b.Lo.Z≤z∧z < b.Hi.Z:=by simp [covB]
theorem qeu {l : List qw} {z : Int} {r : qk} : r∈atB l z↔∃ b∈l,(b.Lo.Z≤z∧z < b.Hi.Z)∧r = Jk b:=by
  unfold atB;rw [List.mem_flatMap];constructor
  · rintro ⟨b,hb,h⟩;split at h
    · rename_i a;exact ⟨b,hb,q21.1 a,by simpa using h⟩
    · cases h
  · rintro ⟨b,hb,a,rfl⟩;exact ⟨b,hb,by rw [qs (q21.2 a)];simp⟩
theorem q3m {l : List qw} {x y z : Int} : hasR (atB l z) x y↔hasB l x y z:=by
  constructor
  · rintro ⟨r,h,c,g,f,d⟩;obtain ⟨b,hb,a,rfl⟩:=qeu.1 h;exact ⟨b,hb,⟨c,g⟩,⟨f,d⟩,a⟩
  · rintro ⟨b,hb,⟨c,g⟩,⟨f,d⟩,a⟩;exact ⟨Jk b,qeu.2 ⟨b,hb,a,rfl⟩,c,g,f,d⟩
theorem q3l (x y z : Int) : ¬ hasB [] x y z:=by rintro ⟨r,h,_⟩;cases h
theorem qno (a b : List qw) (z : Int) : atB (a ++ b) z = atB a z ++ atB b z:=by simp [atB]
theorem qnp (s : List qk) (lo hi z : Int) : atB (s.map (putB lo hi)) z = if lo≤z∧z < hi then s else []:=by
  induction s with
  | nil=>simp [atB]
  | cons t s ih=>
    have e : atB (List.map (putB lo hi) (t::s)) z = (if covB z (putB lo hi t) = true then [t] else []) ++ atB (s.map (putB lo hi)) z:=rfl;rw [e,ih];have : covB z (putB lo hi t) = (decide (lo≤z) && decide (z < hi)):=rfl;rw [this];by_cases a : lo≤z <;> by_cases b : z < hi <;> simp [a,b]
theorem q7f : ∀ {b : List (Grp qk)},CanG b→∀ z,atB (Y7 putB b) z = secG b z
  | [],_,z=>rfl
  | g::r,h,z=>by
    have e : Y7 putB (g::r) = g.sec.map (putB g.lo g.hi) ++ Y7 putB r:=rfl
    rw [e,qno,qnp,q7f h.tail z]
    by_cases a : g.lo≤z∧z < g.hi
    · rw [qs a,secG,qs a,q2r (y:=g.hi) (fun m c=>(h.nxt m c).1) a.2,List.append_nil]
    · rw [qx a,secG,qx a,List.nil_append]
theorem qgp {l : List qw} {a x : Int} (h : ∀ r∈l,covB a r = covB x r) : atB l a = atB l x:=by
  induction l with
  | nil=>rfl
  | cons r l ih=>
    have e : ∀ y,atB (r::l) y = (if covB y r = true then [Jk r] else []) ++ atB l y:=fun _=>rfl;rw [e,e,h r qe,ih fun k b=>h k (by simp [b])]
theorem qah {l : List qw} {x : Int} (h : ∀ r∈l,covB x r = false) : atB l x = []:=by
  induction l with
  | nil=>rfl
  | cons r l ih=>
    have e : atB (r::l) x = (if covB x r = true then [Jk r] else []) ++ atB l x:=rfl;rw [e,h r qe,ih fun k a=>h k (by simp [a])];rfl
theorem qjx {p q : List qw} {r : qw} (h : r∈p∨r∈q) : r.Lo.Z∈zsOf p ++ zsOf q∧r.Hi.Z∈zsOf p ++ zsOf q:=by
  unfold zsOf;simp only [List.mem_append,List.mem_flatMap];rcases h with h | h
  · exact ⟨.inl ⟨r,h,qe⟩,.inl ⟨r,h,qe⟩⟩
  · exact ⟨.inr ⟨r,h,qe⟩,.inr ⟨r,h,qe⟩⟩
theorem qk1 (kind : Int) : mrgR kind [] [] = []:=by
  refine qd9 (qbd kind qe) .nil fun x y=>?_;rw [qb2 kind qe];have:=qe9 x y;unfold Yd;simp [this]
theorem qjz (kind : Int) {p q : List qw} (h : p.length + q.length≤100000) :
    ∃ f,mrgB kind p q = Y7 putB f∧CanG f∧∀ z,secG f z = secB kind p q z:=by
  have u:=q33 p;have s:=q33 q;have hs:=(q11 (l:=zsOf p ++ zsOf q) (by simp;omega)).2.1;obtain ⟨f,k,m,n⟩:=qjy putB (secB kind p q) hs.1;refine ⟨f,k,m,fun x=>?_⟩;rw [n]
  have g : ∀ r,(r∈p∨r∈q)→r.Lo.Z∈K2 (zsOf p ++ zsOf q)∧r.Hi.Z∈K2 (zsOf p ++ zsOf q):=fun r b=>
    ⟨(hs.2 _).2 (qjx b).1,(hs.2 _).2 (qjx b).2⟩
  refine qbt _ hs.1 (fun a _ o c=>?_) (fun c=>?_) (fun c=>?_)
  · have d : ∀ r,(r∈p∨r∈q)→covB a r = covB x r:=fun r b=>by
      have j:=c _ (g r b).1;have t:=c _ (g r b).2;rw [Bool.eq_iff_iff,q21,q21];omega
    unfold secB;rw [qgp fun r b=>d r (.inl b),qgp fun r b=>d r (.inr b)]
  · have d : ∀ r,(r∈p∨r∈q)→covB x r = false:=fun r b=>by
      have j:=c _ (g r b).1;rw [← Bool.not_eq_true,q21];omega
    unfold secB;rw [qah fun r b=>d r (.inl b),qah fun r b=>d r (.inr b),qk1]
  · have d : ∀ r,(r∈p∨r∈q)→covB x r = false:=fun r b=>by
      have j:=c _ (g r b).2;rw [← Bool.not_eq_true,q21];omega
    unfold secB;rw [qah fun r b=>d r (.inl b),qah fun r b=>d r (.inr b),qk1]
def CanB (l : List qw) : Prop:=∃ gs : List (Grp qk),l = Y7 putB gs∧CanG gs∧∀ g∈gs,CanR g.sec
theorem CanB.nil : CanB []:=⟨[],rfl,⟨qe,qe⟩,qe⟩
theorem CanB.at {l : List qw} (h : CanB l) (z : Int) : CanR (atB l z):=by
  obtain ⟨c,rfl,b,d⟩:=h;rw [q7f b];rcases qfs (x:=z) c with e | ⟨g,a,_,_,e⟩
  · rw [e];exact .nil
  · rw [e];exact d g a
theorem qgw {a b : List qw} (d : CanB a) (hb : CanB b) (h : ∀ x y z,hasB a x y z↔hasB b x y z) : a = b:=by
  have g : ∀ z,atB a z = atB b z:=fun z=>qd9 (d.at z) (hb.at z) fun x y=>by rw [q3m,q3m];exact h x y z
  obtain ⟨k,rfl,c,_⟩:=d;obtain ⟨j,rfl,f,_⟩:=hb;rw [qd8 c f fun x=>by rw [← q7f c,← q7f f];exact g x]
theorem qgr {p q : List qw} (h : p.length + q.length≤100000) (z : Int) : (atB p z).length + (atB q z).length≤100000:=by
  have:=q4q p z;have:=q4q q z;omega
theorem qf0 (kind : Int) {p q : List qw} (h : p.length + q.length≤100000) : CanB (mrgB kind p q):=by
  obtain ⟨c,d,a,f⟩:=qjz kind h;refine ⟨c,d,a,fun g b=>?_⟩;have:=f g.lo;rw [qfr a g b _ (Int.le_refl _) (a.1 g b).1] at this;rw [this];exact qbd kind (qgr h _)
theorem qgq (kind : Int) {p q : List qw} (h : p.length + q.length≤100000) (z : Int) : atB (mrgB kind p q) z = secB kind p q z:=by
  obtain ⟨d,b,a,c⟩:=qjz kind h;rw [b,q7f a,c]
theorem qe8 (kind : Int) {p q : List qw} (h : p.length + q.length≤100000) (x y z : Int) : hasB (mrgB kind p q) x y z↔Yd kind (hasB p x y z) (hasB q x y z):=by
  rw [← q3m,qgq kind h,secB,qb2 kind (qgr h z),q3m,q3m]
theorem qqp {l : List qw} (h : l.length≤100000) (x y z : Int) : hasB (mrgB 2 l []) x y z↔hasB l x y z:=by
  rw [qe8 2 (by simpa using h),qec];simp [q3l]
theorem qru {l : List qw} (a : l.length≤100000) (h : CanB l) : mrgB 2 l [] = l:=
  qgw (qf0 2 (by simpa using a)) h fun x y z=>qqp a x y z
theorem CanB.lt {l : List qw} (h : CanB l) : ∀ b∈l,b.Lo.X < b.Hi.X∧b.Lo.Y < b.Hi.Y∧b.Lo.Z < b.Hi.Z:=by
  obtain ⟨k,rfl,c,j⟩:=h;intro r d;obtain ⟨g,a,t,f,rfl⟩:=qju.1 d;have:=(j g a).lt t f;exact ⟨this.1,this.2,(c.1 g a).1⟩
def vB (b : qw) : Prop:=(b.Lo.X < b.Hi.X∧b.Lo.Y < b.Hi.Y∧b.Lo.Z < b.Hi.Z)∧(-1000000≤b.Lo.X∧-1000000≤b.Lo.Y∧-1000000≤b.Lo.Z)∧b.Hi.X≤1000000∧b.Hi.Y≤1000000∧b.Hi.Z≤1000000
instance (b : qw) : Decidable (vB b):=by unfold vB;infer_instance
def InB (l : List qw) : Prop:=∀ x y z,hasB l x y z→(-1000000≤x∧x < 1000000)∧(-1000000≤y∧y < 1000000)∧(-1000000≤z∧z < 1000000)
theorem CanB.vB {l : List qw} (h : CanB l) (hi : InB l) : ∀ r∈l,vB r:=by
  intro r a;have b:=h.lt r a;have d:=hi r.Lo.X r.Lo.Y r.Lo.Z ⟨r,a,q0⟩;have c:=hi (r.Hi.X - 1) (r.Hi.Y - 1) (r.Hi.Z - 1) ⟨r,a,q0⟩;unfold Go.Sh.vB;omega
theorem InB.mrg {kind : Int} {p q : List qw} (h : p.length + q.length≤100000) (hp : InB p) (b : InB q) : InB (mrgB kind p q):=fun x y z c=>by
  rcases qj5 ((qe8 kind h x y z).1 c) with a | a
  · exact hp x y z a
  · exact b x y z a
theorem InB.nil : InB []:=fun x y z h=>absurd h (q3l x y z)
theorem qmx {l : List qw} (h : ∀ b∈l,vB b) (z : Int) : ∀ r∈atB l z,vR r:=by
  intro r a;obtain ⟨b,hb,_,rfl⟩:=qeu.1 a;have:=h b hb;unfold vB at this;unfold vR Jk;simp only;omega
theorem InB.at {l : List qw} (h : InB l) (z : Int) : InR (atB l z):=fun x y a=>by
  have:=h x y z (q3m.1 a);exact ⟨this.1,this.2.1⟩
noncomputable def Yf (l : List qw) : Int:=if 400 < l.length then 4 else if ∀ b∈l,vB b then (if mrgB 2 l [] = l then 0 else 8) else 8
theorem q3c {l : List qw} : Yf l = 0↔l.length≤400∧(∀ b∈l,vB b)∧CanB l:=by
  unfold Yf;constructor
  · intro h;split at h
    · exact absurd h qn
    · rename_i d;split at h
      · rename_i c;split at h
        · rename_i a;exact ⟨q0,c,a ▸ qf0 2 (by simp;omega)⟩
        · exact absurd h qn
      · exact absurd h qn
  · rintro ⟨d,c,a⟩;rw [qx q0,qs c,qs (qru q0 a)]
theorem qw6 (kind : Int) {p q : List qw} (h : p.length + q.length≤100000) (z : Int) : (secB kind p q z).length≤(mrgB kind p q).length:=by
  rw [← qgq kind h];exact q4q _ _
theorem qw8 (kind : Int) {p q : List qk} (h : p.length + q.length≤100000) (x : Int) : (secJ kind p q x).length≤(mrgR kind p q).length:=by
  rw [← qhm kind h];exact q22 _ _
noncomputable def mkB (l : List qw) : List qw × Int:=if 400 < l.length then ([],4) else if ∀ b∈l,vB b then (if 400 < (mrgB 2 l []).length then ([],4) else (mrgB 2 l [],0)) else ([],8)
noncomputable def jB (kind : Int) (p q : List qw) : List qw × Int:=
  if Yf p≠0 then ([],Yf p) else if Yf q≠0 then ([],Yf q) else if 400 < (mrgB kind p q).length then ([],4) else (mrgB kind p q,0)
noncomputable def mkR (l : List qk) : List qk × Int:=if 400 < l.length then ([],4) else if ∀ b∈l,vR b then (if 400 < (mrgR 2 l []).length then ([],4) else (mrgR 2 l [],0)) else ([],8)
noncomputable def jR (kind : Int) (p q : List qk) : List qk × Int:=
  if Yj p≠0 then ([],Yj p) else if Yj q≠0 then ([],Yj q) else if 400 < (mrgR kind p q).length then ([],4) else (mrgR kind p q,0)
end Go.Sh
namespace Go.Sh
open Go Go.Am
theorem qjo {α β : Type} {f : α→Option (α ⊕ β)} (st : Nat→α) (n : Nat) (ok : Nat→Prop) (b e : β)
    (step : ∀ k,k < n→(∀ j,j≤k→ok j)→f (st k) = some (.inl (st (k + 1))))
    (bad : ∀ k,k < n→(∀ j,j < k→ok j)→¬ ok k→f (st k) = some (.inr e))
    (done : (∀ j,j < n→ok j)→f (st n) = some (.inr b)) :
    ((∀ j,j < n→ok j)∧loop f (st 0) = some b)∨(∃ j,j < n∧¬ ok j∧loop f (st 0) = some e):=by
  by_cases h : ∀ j,j < n→ok j
  · exact .inl ⟨h,Us st n b (fun k c=>step k c fun j d=>h j q0) (done h) (Nat.zero_le _)⟩
  · refine .inr ?_
    have l : ∃ k,(k < n∧¬ ok k)∧∀ j,j < k→ok j:=by
      have : ∃ k,k < n∧¬ ok k:=by
        refine Classical.byContradiction fun o=>h fun k c=>?_;exact Classical.byContradiction fun h=>o ⟨k,c,h⟩
      obtain ⟨k,c⟩:=this
      induction k using Nat.strongRecOn with
      | _ k ih=>
        by_cases d : ∃ j,j < k∧(j < n∧¬ ok j)
        · obtain ⟨j,g,l⟩:=d;exact ih j g l
        · exact ⟨k,c,fun j g=>Classical.byContradiction fun h=>d ⟨j,g,q0,h⟩⟩
    obtain ⟨K,⟨m,hb⟩,a⟩:=l;exact ⟨K,m,hb,Us st K e (fun k c=>step k q0 fun j d=>a j q0) (bad K m a hb) (Nat.zero_le _)⟩
theorem qfy (xs : List Int) (h : xs.length≤1000000) :
    ((U2 xs).bind fun c=>(Qu c.length xs.length).bind fun _=>(Uv c).bind fun b=>(Qu b.2.length c.length).bind fun _=>(Ux b.2.length b.1).bind fun _=>some ((b.2.drop b.1.1).take b.1.2)) = some (K2 xs):=by
  obtain ⟨ys,k,g,m⟩:=qmb xs h;have f : ys.length = xs.length:=g.length_eq;obtain ⟨w,a,c1,c2,c3,c4⟩:=qhg m q0;obtain ⟨_,j,_⟩:=q11 h
  have d : a.take w = K2 xs:=by
    refine qmc (l:=xs) ⟨c4.1,fun x=>?_⟩ j;rw [c4.2 x];exact g.mem_iff
  simp only [qh,k,Qu,f,if_true,c1,c2,Ux];rw [qs q0];simp only [qh,List.drop_zero,d]
theorem qn5 (l : List qk) (o : List Int) (g : l.length≤400) (f : o.length≤10000) : loop (J8 l) (0,o) = some (o ++ xsOf l):=
  q7c l q0 (fun r=>[r.X0,r.X1]) o (fun o=>o) (J8 l) (fun k b c a=>by
    have d : c.length = o.length + 2 * k:=by
      rw [a,List.length_append];have:=q1y (l.take k);rw [List.length_take,Nat.min_eq_left q0] at this;unfold xsOf at this;omega
    simp only [J8,dlt b,Q2,K5 b,qh,w64s b q0]
    rw [Z7 (by simp;omega)]
    rfl) (fun o=>by simp only [J8,dnl,Q1])
theorem quf (l : List qk) (m : l.length≤1000000) : q8q l (fun a=>q2n a) = some (decide (¬ ∀ r∈l,vR r)):=by
  have hs : ∀ (k : Nat) (h : k < l.length),q42 l (fun a=>q2n a) (k : Int) = some (if (fun r=>!decide (vR r)) l[k] = true then .inr (.inr (k : Int)) else .inl ((k + 1 : Nat) : Int)):=by
    intro k h;simp only [q42,dlt h,Q2,K5 h,qh,w64s h m,q2n,qmy];by_cases g : vR l[k] <;> simp [g]
  have hd : q42 l (fun a=>q2n a) (l.length : Int) = some (.inr (.inl ())):=by simp only [q42,dnl,Q1]
  unfold q8q qc2;rcases qat l (fun r=>!decide (vR r)) (fun k _=>(k : Int)) () _ hs hd with ⟨c,b⟩ | ⟨k,d,j,_,b⟩
  · rw [b];have : ∀ r∈l,vR r:=fun r f=>by simpa using c r f
    simp [];omega
  · rw [b];have : ¬ ∀ r∈l,vR r:=fun h=>by simp [h _ (Y5 d)] at j
    simp only [qh];rw [Q9 this,Q9 q0]
theorem ql0 (l : List qk) : q1k l = some (mkR l):=by
  unfold q1k mkR;by_cases b : 400 < l.length
  · rw [Q9 (by omega : (l.length : Int) > 400),Q2,qs b]
  rw [Qb (by omega : ¬ (l.length : Int) > 400),Q1,qx b,quf l q0,qh];by_cases a : ∀ r∈l,vR r
  · rw [Qb (fun h=>h a),Q1,qjp l q0 a,qs a];rfl
  · rw [Q9 a,Q2,qx a]
theorem quc (p q : List qk) : q8j p q = some (if Yj p≠0 then Yj p else Yj q):=by
  unfold q8j;simp only [qu6,qh];by_cases h : Yj p = 0
  · simp [h]
  · have : (Yj p != 0) = true:=by simpa using h
    simp [h,this]
theorem rj1 : qbo = J8:=rfl
theorem rj2 : qbp = J8:=rfl
theorem rj4 : qbq = Ub:=rfl
theorem rj5 : qbr = Ub:=rfl
theorem qh1 {p : List qk} (h : Yj p = 0) (x : Int) : Yt (covS p x) = 0∧Good (covS p x):=by
  obtain ⟨d,c,b⟩:=q7i.1 h;have a : Good (covS p x):=⟨qhn c x,(b.cov x).2⟩
  have:=q22 p x;refine ⟨?_,a⟩;unfold Yt;rw [qx q0,qs a]
theorem qkd (kind : Int) {p q : List qk} (hp : Yj p = 0) (a : Yj q = 0) (x : Int) : opS kind (covS p x) (covS q x) = if 400 < (secJ kind p q x).length then ([],4) else (secJ kind p q x,0):=by
  unfold opS;rw [qx (by simp [(qh1 hp x).1]),qx (by simp [(qh1 a x).1])];rfl
theorem ql2 (kind : Int) (f : List qi→List qi→Option (List qi × Int)) (hf : ∀ a b,f a b = some (opS kind a b)) (p q : List qk) : q5p p q f = some (jR kind p q):=by
  unfold q5p jR;rw [quc,qh];by_cases hp : ¬ Yj p = 0
  · rw [qs hp,qs hp];have : (Yj p != 0) = true:=by simpa using hp
    rw [this,Q2]
  replace hp:=Classical.not_not.1 hp;by_cases o : ¬ Yj q = 0
  · rw [qx (by simp [hp]),qx (by simp [hp]),qs o];have : (Yj q != 0) = true:=by simpa using o
    rw [this,Q2]
  replace o:=Classical.not_not.1 o;rw [qx (by simp [hp]),qx (by simp [hp]),qx (by simp [o]),o];obtain ⟨lp,vp,cp⟩:=q7i.1 hp;obtain ⟨lq,vq,cq⟩:=q7i.1 o;have am:=q1y p;have au:=q1y q;rw [show ((0 : Int) != 0) = false from rfl,Q1];simp only [show idx [p,q] 0 = some p from rfl,show idx [p,q] 1 = some q from rfl,qh,rj1,rj2,qn5 p [] lp qe,List.nil_append,qn5 q (xsOf p) lq q0];rw [qfy _ (by simp;omega)];simp only [qh];obtain ⟨_,ac,g⟩:=q11 (l:=xsOf p ++ xsOf q) (by simp;omega);have g : (K2 (xsOf p ++ xsOf q)).length≤1600:=by simp at g;omega
  have n : ∀ x,(secJ kind p q x).length≤(mrgR kind p q).length:=fun x=>qw8 kind q0 x;have ae : mrgR kind p q = (K7 putR K6 (Z5 (K2 (xsOf p ++ xsOf q)) (secJ kind p q))).flat putR:=rfl;rw [ae] at n ⊢;generalize K2 (xsOf p ++ xsOf q) = xs at ac g n ⊢;generalize y : Z5 xs (secJ kind p q) = steps at n ⊢;have ar : steps.length = xs.length - 1:=by rw [← y];exact qcf _ _
  have w : ∀ k (m : k < steps.length),steps[k] = (xs[k]'(q0),xs[k + 1]'(q0),secJ kind p q (xs[k]'(q0))):=fun k m=>by subst y;exact qg0 m q0
  have ai : ∀ k,k≤steps.length→(∀ j,j < k→∀ t,steps[j]? = some t→t.2.2.length≤400)→((K7 putR K6 (steps.take k)).flat putR).length≤1600 * 400:=fun k m u=>by
    have h1:=qe1 putR (s0:=K6) (M:=400) (steps:=steps.take k) (fun t v=>by
      obtain ⟨i,hi,rfl⟩:=List.getElem_of_mem v;rw [List.length_take] at hi;rw [List.getElem_take]
      exact u i q0 _ (List.getElem?_eq_getElem q0))
    have z : (steps.take k).length≤1600:=by rw [List.length_take];omega
    have h3 : (K6.flat putR : List qk).length = 0:=rfl;have h4 : (steps.take k).length * 400≤1600 * 400:=Nat.mul_le_mul_right _ z;omega
  have s : ∀ x,loop (Ub p x) (0,[]) = some (covS p x):=fun x=>qeo p lp x;have r : ∀ x,loop (Ub q x) (0,[]) = some (covS q x):=fun x=>qeo q lq x
  have main:=qjo (f:=q3x xs p q f) (fun k=>(((k + 1 : Nat) : Int),(K7 putR K6 (steps.take k)).sec,((K7 putR K6 (steps.take k)).done.length : Int),(K7 putR K6 (steps.take k)).hi,(K7 putR K6 (steps.take k)).flat putR))
    steps.length (fun j=>∀ t,steps[j]? = some t→t.2.2.length≤400) (.inl ((K7 putR K6 steps).sec,((K7 putR K6 steps).done.length : Int),(K7 putR K6 steps).hi,(K7 putR K6 steps).flat putR)) (.inr ([],4))
    (fun k m u=>by
      have c : k + 1 < xs.length:=by omega
      have ab : k < xs.length:=by omega
      have i1 : idx xs (w64 (((k + 1 : Nat) : Int) - 1)) = some xs[k]:=by rw [Q5 q0];exact Zr q0 q0
      have hc:=u k (Nat.le_refl _) _ (List.getElem?_eq_getElem m);have hm:=ai k q0 fun j ap=>u j q0;rw [qe2 putR m,w k m] at *;simp only at hc;have hb:=qgt (K7 putR K6 (steps.take k)) xs[k] xs[k + 1] (secJ kind p q xs[k]) q0;have ho : f (covS p xs[k]) (covS q xs[k]) = some (secJ kind p q xs[k],0):=by rw [hf,qkd kind hp o,qx q0]
      simp only [q3x,dlt c,Q2,i1,K5 c,qh,show idx [p,q] 0 = some p from rfl,show idx [p,q] 1 = some q from rfl,rj4,rj5,s,r,ho,show ((0 : Int) != 0) = false from rfl,Q1,hb]
      rw [w64s c q0])
    (fun k m u d=>by
      have c : k + 1 < xs.length:=by omega
      have ab : k < xs.length:=by omega
      have i1 : idx xs (w64 (((k + 1 : Nat) : Int) - 1)) = some xs[k]:=by rw [Q5 q0];exact Zr q0 q0
      have hc : 400 < (secJ kind p q xs[k]).length:=by
        refine Nat.lt_of_not_le fun h=>d fun t v=>?_;rw [List.getElem?_eq_getElem m,w k m] at v;cases v;exact h
      have ho : f (covS p xs[k]) (covS q xs[k]) = some ([],4):=by rw [hf,qkd kind hp o,qs hc]
      simp only [q3x,dlt c,Q2,i1,K5 c,qh,show idx [p,q] 0 = some p from rfl,show idx [p,q] 1 = some q from rfl,rj4,rj5,s,r,ho,show ((4 : Int) != 0) = true from rfl,Q2])
    (fun _=>by
      have : decide (((steps.length + 1 : Nat) : Int) < (xs.length : Int)) = false:=Qb q0
      simp only [List.take_length,q3x,this,Q1])
  have ag : ((((0 + 1 : Nat) : Int),(K7 putR K6 (steps.take 0)).sec,((K7 putR K6 (steps.take 0)).done.length : Int),(K7 putR K6 (steps.take 0)).hi,(K7 putR K6 (steps.take 0)).flat putR) : Int × List qi × Int × Int × List qk) = (1,[],0,0,[]):=rfl;rw [ag] at main;rcases main with ⟨_,z⟩ | ⟨j,u,d,z⟩
  · rw [z];simp only [qh];by_cases h4 : 400 < ((K7 putR K6 steps).flat putR).length
    · rw [Q9 (by omega : (((K7 putR K6 steps).flat putR).length : Int) > 400),qs h4];rfl
    · rw [Qb (by omega : ¬ (((K7 putR K6 steps).flat putR).length : Int) > 400),qx h4];rfl
  · rw [z];have an : j < xs.length:=by omega
    have h5 : 400 < (secJ kind p q xs[j]).length:=by
      refine Nat.lt_of_not_le fun h=>d fun t v=>?_;rw [List.getElem?_eq_getElem u,w j u] at v;cases v;exact h
    have h6:=n xs[j];have h4 : 400 < ((K7 putR K6 steps).flat putR).length:=Nat.lt_of_lt_of_le h5 h6;rw [qs h4];rfl
theorem qua (p q : List qk) : q5l p q = some (jR 2 p q):=by
  unfold q5l;rw [ql2 2 _ (fun a b=>q11d a b)];rfl
theorem qu8 (p q : List qk) : q5k p q = some (jR 1 p q):=by
  unfold q5k;rw [ql2 1 _ (fun a b=>qrq a b)];rfl
end Go.Sh
