/- Pt1 Pt2 Pt3 Pt4 Pt5 Pt6 Pt7 Qa1 Qa2 Qa3 Rs1 -/
import Derived.Test.YtbknppciefodiaaGreatK10
namespace Go.Sh
open Go Go.Am
theorem J1 {α β : Type} {f : α→Option (α ⊕ β)} (st : Nat→α) (n : Nat) (b : β) (hs : ∀ k,k < n→f (st k) = some (.inl (st (k + 1)))) (hd : f (st n) = some (.inr b)) : ∀ {k : Nat},k≤n→loop f (st k) = some b:=by
  have key : ∀ m k,n - k = m→k≤n→loop f (st k) = some b:=by
    intro m
    induction m with
    | zero => intro k c a; obtain rfl : k = n := by omega
              exact Kh hd
    | succ m ih=>intro k c a;rw [Kx (hs k q0)];exact ih (k + 1) q0 q0
  intro k a;exact key _ k rfl a
theorem w64s {k : Nat} {n : Nat} (h : k < n) (a : n≤1000000) : w64 ((k : Int) + 1) = ((k + 1 : Nat) : Int):=by rw [Qe q0];omega
theorem dlt {k n : Nat} (h : k < n) : decide ((k : Int) < (n : Int)) = true:=Q9 q0
theorem dnl {n : Nat} : decide ((n : Int) < (n : Int)) = false:=Qh q0
theorem q6z {α β γ : Type} (src : List α) (b : src.length≤1000000) (h : α→List γ) (out : List γ) (fin : List γ→β) (f : Int × List γ→Option ((Int × List γ) ⊕ β))
    (hs : ∀ (k : Nat) (a : k < src.length) (o : List γ),o = out ++ (src.take k).flatMap h→f ((k : Int),o) = some (.inl (((k + 1 : Nat) : Int),o ++ h src[k])))
    (hd : ∀ o,f ((src.length : Int),o) = some (.inr (fin o))) : loop f (0,out) = some (fin (out ++ src.flatMap h)):=by
  have e : ∀ k (a : k < src.length),(src.take (k + 1)).flatMap h = (src.take k).flatMap h ++ h src[k]:=fun k a=>by
    rw [List.take_succ_eq_append_getElem a,List.flatMap_append,List.flatMap_cons,List.flatMap_nil,List.append_nil]
  have:=J1 (f:=f) (fun k=>((k : Int),out ++ (src.take k).flatMap h)) src.length (fin (out ++ src.flatMap h)) (fun k a=>by
    rw [hs k a _ rfl,e k a,List.append_assoc]) (by simp only [List.take_length];exact hd _) (Nat.zero_le _)
  simpa using this
theorem qj3 {α β γ : Type} (src : List α) (h : α→γ) (out : List γ) (fin : List γ→β) (f : Int × List γ→Option ((Int × List γ) ⊕ β))
    (hs : ∀ (k : Nat) (a : k < src.length) (o : List γ),o.length = out.length + k→f ((k : Int),o) = some (.inl (((k + 1 : Nat) : Int),o ++ [h src[k]])))
    (hd : ∀ o,f ((src.length : Int),o) = some (.inr (fin o))) : loop f (0,out) = some (fin (out ++ src.map h)):=by
  have e : ∀ k (a : k < src.length),(src.take (k + 1)).map h = (src.take k).map h ++ [h src[k]]:=fun k a=>by
    rw [List.take_succ_eq_append_getElem a,List.map_append,List.map_cons,List.map_nil]
  have:=J1 (f:=f) (fun k=>((k : Int),out ++ (src.take k).map h)) src.length (fin (out ++ src.map h)) (fun k a=>by
    rw [hs k a _ (by simp;omega),e k a,List.append_assoc]) (by simp only [List.take_length];exact hd _) (Nat.zero_le _)
  simpa using this
theorem qhk {γ : Type} (g : γ→γ) (a b : List γ) (l : (a ++ b).length≤1000000) (f : Int × List γ→Option ((Int × List γ) ⊕ (List γ)))
    (hs : ∀ (k : Nat) (o : List γ) (h : k < o.length),o.length = (a ++ b).length→f ((k : Int),o) = some (.inl (((k + 1 : Nat) : Int),o.set k (g o[k]))))
    (hd : ∀ o : List γ,f ((o.length : Int),o) = some (.inr o)) : loop f ((a.length : Int),a ++ b) = some (a ++ b.map g):=by
  have m : a.length + b.length≤1000000:=by simpa using l
  have key:=J1 (f:=f) (fun k=>(((a.length + k : Nat) : Int),a ++ ((b.take k).map g ++ b.drop k))) b.length (a ++ b.map g) (fun k h=>by
    have c : (a ++ ((b.take k).map g ++ b.drop k)).length = (a ++ b).length:=by simp;omega
    have d : a.length + k < (a ++ ((b.take k).map g ++ b.drop k)).length:=by rw [c];simp;omega
    rw [hs (a.length + k) _ d c];have j : ((b.take k).map g).length = k:=by simp;omega
    have e : (a ++ ((b.take k).map g ++ b.drop k))[a.length + k]'d = b[k]:=by
      rw [List.getElem_append_right q0];rw [List.getElem_append_right (by rw [j];omega)];simp [List.length_take,Nat.min_eq_left (Nat.le_of_lt h)]
    rw [e];congr 4;rw [List.set_append,ql q0,List.set_append,ql (by rw [j];omega),j];have z : a.length + k - a.length - k = 0:=by omega
    rw [z,List.take_succ_eq_append_getElem h,List.drop_eq_getElem_cons h,List.set_cons_zero,List.map_append,List.map_cons,List.map_nil,List.append_assoc]
    rfl) (by
    simp only [List.take_length,List.drop_length,List.append_nil];have:=hd (a ++ b.map g)
    simpa using this) (Nat.zero_le _)
  simpa using key
theorem Uh {α γ υ : Type} (l : List α) (c : α→Bool) (n : (k : Nat)→k < l.length→γ) (u : υ) (f : Int→Option (Int ⊕ (υ ⊕ γ)))
    (hs : ∀ (k : Nat) (h : k < l.length),f (k : Int) = some (if c l[k] = true then .inr (.inr (n k h)) else .inl ((k + 1 : Nat) : Int))) (hd : f (l.length : Int) = some (.inr (.inl u))) :
    ((∀ v∈l,c v = false)∧loop f 0 = some (.inl u))∨∃ k,∃ h : k < l.length,c l[k] = true∧(∀ j (d : j < k),c (l[j]'(q0)) = false)∧loop f 0 = some (.inr (n k h)):=by
  by_cases p : ∀ v∈l,c v = false
  · refine .inl ⟨p,?_⟩;exact J1 (f:=f) (fun k=>(k : Int)) l.length _ (fun k b=>by rw [hs k b,p _ (Y6 b)];rfl) hd (Nat.zero_le _)
  · refine .inr ?_
    have : ∃ k,∃ h : k < l.length,c l[k] = true:=by
      refine Classical.byContradiction fun r=>p fun v s=>?_;obtain ⟨k,b,rfl⟩:=List.getElem_of_mem s;cases o : c l[k]
      · rfl
      · exact absurd ⟨k,b,o⟩ r
    have g : ∃ k,(∃ h : k < l.length,c l[k] = true)∧∀ j,j < k→¬ ∃ h : j < l.length,c l[j] = true:=by
      obtain ⟨k,b⟩:=this
      induction k using Nat.strongRecOn with
      | _ k ih=>
        by_cases d : ∃ j,j < k∧∃ h : j < l.length,c l[j] = true
        · obtain ⟨j,q,g⟩:=d;exact ih j q g
        · exact ⟨k,b,fun j q g=>d ⟨j,q,g⟩⟩
    obtain ⟨k,⟨b,o⟩,m⟩:=g
    have a : ∀ j (d : j < k),c (l[j]'(q0)) = false:=fun j d=>by
      cases h : c (l[j]'(q0))
      · rfl
      · exact absurd ⟨q0,h⟩ (m j d)
    refine ⟨k,b,o,a,?_⟩;exact J1 (f:=f) (fun k=>(k : Int)) k _ (fun j d=>by rw [hs j q0,a j d];rfl) (by rw [hs k b,qm o]) (Nat.zero_le _)
theorem qlo : ∀ {l a b : List Int},Z7 l a→Z7 l b→a = b:=by
  have key : ∀ (a b : List Int),a.Pairwise (· < ·)→b.Pairwise (· < ·)→(∀ x,x∈a↔x∈b)→a = b:=by
    intro a
    induction a with
    | nil=>intro b _ _ h;cases b with
      | nil=>rfl
      | cons y b=>exact absurd ((h y).2 qe) qe
    | cons x a ih=>
      intro b d hb h
      cases b with
      | nil=>exact absurd ((h x).1 qe) qe
      | cons y b=>
        rw [List.pairwise_cons] at d hb
        have j : x = y:=by
          rcases List.mem_cons.1 ((h x).1 qe) with c | c
          · exact c
          · rcases List.mem_cons.1 ((h y).2 qe) with g | g
            · exact g.symm
            · have:=hb.1 _ c;have:=d.1 _ g;omega
        subst j;rw [ih b d.2 hb.2 fun z=>?_];constructor
        · intro f;rcases List.mem_cons.1 ((h z).1 (by simp [f])) with c | c
          · have:=d.1 _ f;omega
          · exact c
        · intro f;rcases List.mem_cons.1 ((h z).2 (by simp [f])) with c | c
          · have:=hb.1 _ f;omega
          · exact c
  intro l a b d hb;exact key a b d.1 hb.1 fun x=>(d.2 x).trans (hb.2 x).symm
def ltI (a b : Int) : Bool:=decide (a < b)
theorem swoI : Sort.SWO ltI where
  irrefl:=by intro x;simp [ltI]
  trans:=by intro x y z;simp only [ltI,decide_eq_true_eq];omega
  ntrans:=by intro x y z;simp only [ltI,decide_eq_false_iff_not];omega
theorem cmpI : Ku qO ltI (fun _=>True):=by
  intro x y _ _;refine ⟨sg x y,rfl,?_⟩;rw [J4];rfl
theorem qln (l : List Int) (d : l.length≤1000000) : ∃ ys,U0 l = some ys∧ys.Perm l∧ys.Pairwise (·≤·):=by
  obtain ⟨ys,g,f,c⟩:=qlm cmpI swoI l d (fun _ _=>trivial);refine ⟨ys,by rw [qwj];exact g,f,c.imp ?_⟩;intro a b h;simp only [ltI,decide_eq_false_iff_not] at h;omega
end Go.Sh
namespace Go.Sh
open Go Go.Am
structure CInv (p : List Int) (k k2 i : Nat) (a : List Int) : Prop where
  len : a.length = p.length
  hi : i≤k + k2 - 1
  same : ∀ j (h : j < p.length),k + k2 - 1≤j→a[j]? = some p[j]
  so : Z7 (p.take (k + k2)) (a.take i)
theorem qoo {p : List Int} (hp : p.Pairwise (·≤·)) (z : p.length≤1000000) {k b i : Nat} {a : List Int} (hk : 0 < k) (h2 : 0 < b) (v : k + b < p.length) (h : CInv p k b i a) :
    ∃ (i' : Nat) (a' : List Int),q1q ((i : Int),(k,p.length - k),(b : Int),a) = some (.inl ((i' : Int),(k,p.length - k),((b + 1 : Nat) : Int),a'))∧CInv p k (b + 1) i' a':=by
  obtain ⟨h1,h3,o,h5,u⟩:=h;have hb : decide ((b : Int) < ((p.length - k : Nat) : Int)) = true:=dlt q0
  have r1 : idxW a (k,p.length - k) (b : Int) = some (p[k + b]):=by
    unfold idxW;rw [qm ⟨q0,q0⟩];simp only [Int.toNat_natCast];exact o (k + b) v q0
  have r2 : idxW a (k,p.length - k) (w64 ((b : Int) - 1)) = some (p[k + b - 1]):=by
    rw [Qe q0];have e : (b : Int) - 1 = ((b - 1 : Nat) : Int):=by omega
    rw [e];unfold idxW;rw [qm ⟨q0,q0⟩];simp only [Int.toNat_natCast];have:=o (k + b - 1) q0 q0;rw [show k + (b - 1) = k + b - 1 by omega];exact this
  have ai : p[k + b - 1]≤p[k + b]:=List.pairwise_iff_getElem.1 hp _ _ q0 v q0
  have d : p[k + b - 1]∈p.take (k + b):=by
    rw [List.mem_take_iff_getElem];exact ⟨k + b - 1,q0,rfl⟩
  have l : p.take (k + (b + 1)) = p.take (k + b) ++ [p[k + b]]:=by rw [← Nat.add_assoc,List.take_succ_eq_append_getElem v]
  have hw : w64 ((b : Int) + 1) = ((b + 1 : Nat) : Int):=w64s (n:=p.length) q0 z;by_cases w : p[k + b] = p[k + b - 1]
  · refine ⟨i,a,?_,h1,q0,fun j q s=>o j q q0,?_⟩
    · have c : (p[k + b] != p[k + b - 1]) = false:=by rw [w];simp
      simp only [q1q,hb,Q2,r1,r2,qn,c,Q3,hw]
    · rw [l];refine ⟨h5,fun x=>?_⟩;rw [u x];constructor
      · intro f;exact List.mem_append.2 (.inl f)
      · intro f;rcases List.mem_append.1 f with h | h
        · exact h
        · simp only [List.mem_singleton] at h;rw [h,w];exact d
  · have c : (p[k + b] != p[k + b - 1]) = true:=by simpa using w
    have g : i < a.length:=by omega
    have r3 : idx a (i : Int) = some a[i]:=K5 g;have t : w64 ((i : Int) + 1) = ((i + 1 : Nat) : Int):=w64s (n:=p.length) q0 z;refine ⟨i + 1,a.set i p[k + b],?_,by simpa using h1,q0,fun j q s=>?_,?_⟩
    · simp only [q1q,hb,Q2,r1,r2,qn,c,r3,hw,t,Int.toNat_natCast]
    · rw [List.getElem?_set_ne q0];exact o j q q0
    · have e : (a.set i p[k + b]).take (i + 1) = a.take i ++ [p[k + b]]:=by
        rw [List.take_succ_eq_append_getElem (by simpa using g)];simp [List.take_set_of_le]
      rw [e,l];refine ⟨?_,fun x=>?_⟩
      · rw [List.pairwise_append];refine ⟨h5,qe,fun x f y hy=>?_⟩;simp only [List.mem_singleton] at hy;subst hy;have m:=(u x).1 f;rw [List.mem_take_iff_getElem] at m;obtain ⟨j,q,rfl⟩:=m
        have : p[j]≤p[k + b - 1]:=by
          by_cases r : j = k + b - 1
          · subst r;exact Int.le_refl _
          · exact List.pairwise_iff_getElem.1 hp _ _ q0 q0 q0
        omega
      · rw [List.mem_append,List.mem_append,u x]
theorem qon {p : List Int} (hp : p.Pairwise (·≤·)) (n : p.length≤1000000) {k : Nat} (s : 0 < k) (r : k < p.length) (v : Z7 (p.take (k + 1)) (p.take k)) :
    ∃ i : Nat,∃ a : List Int,loop q1q ((k : Int),(k,p.length - k),1,p) = some ((i : Int),a)∧a.length = p.length∧i≤p.length∧Z7 p (a.take i):=by
  have h:=J2 (f:=q1q) (mk:=fun d (c : Nat × List Int)=>((c.1 : Int),(k,p.length - k),((d : Nat) : Int),c.2)) (p.length - k) (fun d c=>0 < d∧CInv p k d c.1 c.2)
    (fun b=>∃ i : Nat,∃ a : List Int,b = ((i : Int),a)∧a.length = p.length∧i≤p.length∧Z7 p (a.take i))
    (fun d c w g=>by
      obtain ⟨u,a',m,o⟩:=qoo hp n s g.1 q0 g.2
      exact .inl ⟨(u,a'),m,q0,o⟩)
    (fun c g=>by
      obtain ⟨l,y,h3,z,t⟩:=g;refine ⟨((c.1 : Int),c.2),?_,c.1,c.2,rfl,y,q0,?_⟩
      · simp only [q1q,dnl,Q3]
      · rwa [List.take_of_length_le q0] at t)
    (k0:=1) (c0:=(k,p)) q0 ⟨q0,rfl,qe,fun j x _=>by simp [x],v⟩
  obtain ⟨b,hb,i,a,rfl,q⟩:=h;exact ⟨i,a,hb,q⟩
theorem qgy {p : List Int} (hp : p.Pairwise (·≤·)) (y : p.length≤1000000) :
    ∃ w a,Uv p = some ((0,w),a)∧a.length = p.length∧w≤p.length∧Z7 p (a.take w):=by
  unfold Uv;by_cases hs : p.length < 2
  · rw [Q9 (by omega : (p.length : Int) < 2),Q2];refine ⟨p.length,p,rfl,rfl,Nat.le_refl _,?_⟩;rw [List.take_length];refine ⟨?_,fun x=>Iff.rfl⟩
    match p,hs with
    | [],_=>simp
    | [x],_=>simp
  rw [Qh (by omega : ¬ (p.length : Int) < 2),Q3]
  have b : ∀ k,k≤p.length→(∀ j (n : j < k),0 < j→∀ h : j < p.length,p[j]≠p[j - 1])→Z7 (p.take k) (p.take k):=by
    intro k d q;refine ⟨?_,fun x=>Iff.rfl⟩;rw [List.pairwise_iff_getElem];intro i j hi n ab;simp only [List.length_take] at hi n;simp only [List.getElem_take];have o : p[j - 1]≤p[j]:=List.pairwise_iff_getElem.1 hp _ _ q0 q0 q0;have r:=q j q0 q0 q0
    have h3 : p[i]≤p[j - 1]:=by
      by_cases e : i = j - 1
      · subst e;exact Int.le_refl _
      · exact List.pairwise_iff_getElem.1 hp _ _ q0 q0 q0
    omega
  have c : ∀ k,0 < k→∀ h : k < p.length,p[k]≠p[k - 1]→Jf p (k : Int) = some (.inl ((k + 1 : Nat) : Int)):=by
    intro k l h q;have u : idx p (w64 ((k : Int) - 1)) = some (p[k - 1]):=by rw [Qe q0];exact Zz q0 q0
    have hb : (p[k] == p[k - 1]) = false:=by simpa using q
    simp only [Jf,dlt h,Q2,K5 h,u,qn,hb,Q3,w64s h y]
  by_cases t : ∀ j,0 < j→∀ h : j < p.length,p[j]≠p[j - 1]
  · have o : loop (Jf p) 1 = some (.inl ()):=by
      exact J1 (f:=Jf p) (fun k=>((k + 1 : Nat) : Int)) (p.length - 1) _ (fun k d=>by
        exact c (k + 1) q0 q0 (t (k + 1) q0 q0)) (by
        show Jf p (((p.length - 1) + 1 : Nat) : Int) = _;rw [show p.length - 1 + 1 = p.length by omega]
        simp only [Jf,dnl,Q3]) (Nat.zero_le _)
    rw [o];refine ⟨p.length,p,rfl,rfl,Nat.le_refl _,?_⟩;have:=b p.length (Nat.le_refl _) fun j _ l h=>t j l h;rw [List.take_length] at this ⊢;exact this
  · have r : ∃ k,(0 < k∧∃ h : k < p.length,p[k] = p[k - 1])∧∀ j,j < k→¬ (0 < j∧∃ h : j < p.length,p[j] = p[j - 1]):=by
      have : ∃ k,0 < k∧∃ h : k < p.length,p[k] = p[k - 1]:=by
        refine Classical.byContradiction fun hn=>t fun j l h m=>hn ⟨j,l,h,m⟩
      obtain ⟨k,d⟩:=this
      induction k using Nat.strongRecOn with
      | _ k ih=>
        by_cases n : ∃ j,j < k∧(0 < j∧∃ h : j < p.length,p[j] = p[j - 1])
        · obtain ⟨j,o,r⟩:=n;exact ih j o r
        · exact ⟨k,d,fun j o r=>n ⟨j,o,r⟩⟩
    obtain ⟨k,⟨l,d,m⟩,g⟩:=r;have v : Z7 (p.take k) (p.take k):=b k q0 fun j n l h m=>g j n ⟨l,h,m⟩
    have s : Z7 (p.take (k + 1)) (p.take k):=by
      refine ⟨v.1,fun x=>?_⟩;rw [List.take_succ_eq_append_getElem d,List.mem_append];refine ⟨.inl,fun h=>h.elim id fun h=>?_⟩;simp only [List.mem_singleton] at h;rw [h,m,List.mem_take_iff_getElem];exact ⟨k - 1,q0,rfl⟩
    obtain ⟨i,a,z,e2,e3,e4⟩:=qon hp y l d s;have s1 : sub2 p.length (k : Int) (p.length : Int) = some (k,p.length - k):=by unfold sub2;rw [qm ⟨q0,q0,q0⟩];simp
    have s2 : sub2 a.length (i : Int) (a.length : Int) = some (i,a.length - i):=by unfold sub2;rw [qm ⟨q0,q0,q0⟩];simp
    have s3 : sub2 a.length 0 (i : Int) = some (0,i):=by unfold sub2;rw [qm ⟨q0,q0,q0⟩];simp
    have u : idx p (w64 ((k : Int) - 1)) = some (p[k - 1]):=by rw [Qe q0];exact Zz q0 q0
    have o : loop (Jf p) 1 = some (.inr ((0,i),clrw a (i,a.length - i) 0)):=by
      exact J1 (f:=Jf p) (fun k=>((k + 1 : Nat) : Int)) (k - 1) _ (fun j n=>by
        exact c (j + 1) q0 q0 fun m=>g (j + 1) q0 ⟨q0,q0,m⟩) (by
        show Jf p (((k - 1) + 1 : Nat) : Int) = _;rw [show k - 1 + 1 = k by omega];have hb : (p[k] == p[k - 1]) = true:=by simpa using m
        simp only [Jf,dlt d,Q2,K5 d,u,qn,hb,s1,z,s2,s3]) (Nat.zero_le _)
    rw [o];refine ⟨i,clrw a (i,a.length - i) 0,rfl,by rw [qgp (by simp;omega)];exact e2,e3,?_⟩
    have : (clrw a (i,a.length - i) 0).take i = a.take i:=by
      unfold clrw splice;rw [List.append_assoc,List.take_append_of_le_length (by simp;omega)];simp [List.take_take]
    rw [this];exact e4
end Go.Sh
namespace Go.Sh
open Go Go.Am
theorem qd9 {α : Type} [DecidableEq α] (e : α→α→Bool) (l : ∀ v w,e v w = decide (v = w)) (p q : List α) (o : p.length≤1000000) (f : Int→Option (Int ⊕ (Unit ⊕ Bool)))
    (d : ∀ k,f k = cond (decide (k < (p.length : Int))) ((idx p k).bind fun v=>(idx q k).bind fun w=>cond (!(e v w)) (some (.inr (.inr false))) (some (.inl (w64 (k + 1))))) (some (.inr (.inl ())))) :
    cond ((p.length : Int) != (q.length : Int)) (some false) ((loop f 0).bind fun m=>(match m with | .inl _=>some true | .inr x=>some x)) = some (decide (p = q)):=by
  by_cases a : p.length = q.length
  · have : ((p.length : Int) != (q.length : Int)) = false:=by rw [a];simp
    rw [this,Q3]
    let c : Nat→Bool:=fun k=>if h : k < p.length then !(e p[k] (q[k]'(q0))) else false
    have hs : ∀ (k : Nat) (h : k < (List.range p.length).length),f (k : Int) = some (if c (List.range p.length)[k] = true then .inr (.inr false) else .inl ((k + 1 : Nat) : Int)):=by
      intro k h;have h : k < p.length:=by simpa using h
      rw [d];simp only [dlt h,Q2,K5 h,K5 (xs:=q) (k:=k) q0,qn,List.getElem_range,c,dif_pos h,w64s h o];cases e p[k] (q[k]'(q0)) <;> simp
    have hd : f ((List.range p.length).length : Int) = some (.inr (.inl ())):=by rw [d];simp []
    rcases Uh (List.range p.length) c (fun _ _=>false) () f hs hd with ⟨s,b⟩ | ⟨k,r,j,_,b⟩
    · rw [b]
      have : p = q:=by
        refine List.ext_getElem a fun k g t=>?_;have:=s k (by simpa using g);simp only [c,dif_pos g,l,Bool.not_eq_false',decide_eq_true_eq] at this;exact this
      simp [this]
    · rw [b];have n : k < p.length:=by simpa using r
      have : p≠q:=by
        intro h;simp only [List.getElem_range,c,l,h] at j;simp at j
      simp [this]
  · have : ((p.length : Int) != (q.length : Int)) = true:=by simpa using (fun h : (p.length : Int) = q.length=>a q0)
    rw [this,Q2];have : p≠q:=fun h=>a (by rw [h]);simp [this]
theorem qhd (p q : List qj) (a : p.length≤1000000) : q8d p q = some (decide (p = q)):=
  qd9 (fun v w=>((v.Lo == w.Lo) && ((v.Hi == w.Hi) && true))) (fun v w=>by cases v;cases w;rw [Bool.eq_iff_iff];simp) p q a (qbg p q) (fun _=>rfl)
theorem qda (p q : List qk) (a : p.length≤1000000) : q5e p q = some (decide (p = q)):=
  qd9 (fun v w=>((v.X0 == w.X0) && ((v.Y0 == w.Y0) && ((v.X1 == w.X1) && ((v.Y1 == w.Y1) && true))))) (fun v w=>by cases v;cases w;rw [Bool.eq_iff_iff];simp) p q a (qbe p q) (fun _=>rfl)
theorem sameBox (p q : List qg) (a : p.length≤1000000) : q81 p q = some (decide (p = q)):=
  qd9 (fun v w=>((v.Lo.X == w.Lo.X) && ((v.Lo.Y == w.Lo.Y) && ((v.Lo.Z == w.Lo.Z) && ((v.Hi.X == w.Hi.X) && ((v.Hi.Y == w.Hi.Y) && ((v.Hi.Z == w.Hi.Z) && true))))))) (fun v w=>by rcases v with ⟨⟨_,_,_⟩,⟨_,_,_⟩⟩;rcases w with ⟨⟨_,_,_⟩,⟨_,_,_⟩⟩;rw [Bool.eq_iff_iff];simp [and_assoc]) p q a (qb2 p q) (fun _=>rfl)
structure Mg (σ β : Type) where
  done : List β
  sec : List σ
  lo : Int
  hi : Int
section
variable {σ β : Type} [DecidableEq σ] (put : Int→Int→σ→β)
def Mg.flat (s : Mg σ β) : List β:=s.done ++ s.sec.map (put s.lo s.hi)
def addM (s : Mg σ β) (a b : Int) (c : List σ) : Mg σ β:=if c≠[]∧c = s.sec∧s.hi = a then ⟨s.done,s.sec,s.lo,b⟩ else ⟨s.flat put,c,a,b⟩
def K4 : Mg σ β:=⟨[],[],0,0⟩
def K6 (s0 : Mg σ β) (steps : List (Int × Int × List σ)) : Mg σ β:=steps.foldl (fun s t=>addM put s t.1 t.2.1 t.2.2) s0
theorem qdj {s0 : Mg σ β} {steps : List (Int × Int × List σ)} {i : Nat} (h : i < steps.length) : K6 put s0 (steps.take (i + 1)) = addM put (K6 put s0 (steps.take i)) steps[i].1 steps[i].2.1 steps[i].2.2:=by
  unfold K6;rw [List.take_succ_eq_append_getElem h,List.foldl_append];rfl
theorem qmz (s : Mg σ β) (a b : Int) (c : List σ) : ((addM put s a b c).flat put).length≤(s.flat put).length + c.length:=by
  unfold addM;split
  · simp [Mg.flat]
  · simp [Mg.flat];omega
theorem qdi {s0 : Mg σ β} {M : Nat} : ∀ {steps : List (Int × Int × List σ)},(∀ t∈steps,t.2.2.length≤M)→((K6 put s0 steps).flat put).length≤(s0.flat put).length + steps.length * M:=by
  intro steps
  induction steps generalizing s0 with
  | nil=>intro _;simp [K6]
  | cons t r ih=>
    intro h;have f:=ih (s0:=addM put s0 t.1 t.2.1 t.2.2) fun u a=>h u (by simp [a]);have c:=qmz put s0 t.1 t.2.1 t.2.2;have d:=h t qe;have b : K6 put s0 (t::r) = K6 put (addM put s0 t.1 t.2.1 t.2.2) r:=rfl;rw [b];simp only [List.length_cons,Nat.succ_mul];omega
end
section
variable {σ : Type}
def Yx (cuts : List Int) (sec : Int→List σ) : List (Int × Int × List σ):=(cuts.zip cuts.tail).map fun c=>(c.1,c.2,sec c.1)
theorem qbx (a : List Int) (sec : Int→List σ) : (Yx a sec).length = a.length - 1:=by simp [Yx]
theorem qfb {a : List Int} {sec : Int→List σ} {i : Nat} (h : i < (Yx a sec).length) (b : i + 1 < a.length) : (Yx a sec)[i] = (a[i],a[i + 1],sec a[i]):=by
  simp [Yx]
theorem qzd {a : List Int} {sec : Int→List σ} {M : Nat} (h : ∀ x,(sec x).length≤M) : ∀ t∈Yx a sec,t.2.2.length≤M:=by
  intro t b;simp only [Yx,List.mem_map] at b;obtain ⟨c,_,rfl⟩:=b;exact h _
end
theorem q70 {σ β : Type} [DecidableEq σ] (put : Int→Int→σ→β) (s : Mg σ β) (a b : Int) (c : List σ) : (c≠[]∧c = s.sec∧s.hi = a∧addM put s a b c = ⟨s.done,s.sec,s.lo,b⟩)∨(¬ (c≠[]∧c = s.sec∧s.hi = a)∧addM put s a b c = ⟨s.flat put,c,a,b⟩):=by
  unfold addM;split
  · rename_i h;exact .inl ⟨h.1,h.2.1,h.2.2,rfl⟩
  · rename_i h;exact .inr ⟨h,rfl⟩
def putR (a b : Int) (t : qj) : qk:={X0:=a,Y0:=t.Lo,X1:=b,Y1:=t.Hi}
theorem qgb (s : Mg qj qk) (a b : Int) (c : List qj) (z : (s.flat putR).length + c.length≤1000000) :
    q53 (s.flat putR) s.sec (s.done.length : Int) s.hi a b c = some ((addM putR s a b c).sec,((addM putR s a b c).done.length : Int),(addM putR s a b c).hi,(addM putR s a b c).flat putR):=by
  have d : s.sec.length≤1000000:=by have : (s.flat putR).length = s.done.length + s.sec.length:=(by simp [Mg.flat]);omega
  unfold q53;rcases q70 putR s a b c with ⟨q,r,w,m⟩ | ⟨q,m⟩
  · have hb : decide ((c.length : Int) > 0) = true:=Q9 (by have:=List.length_pos_iff.2 q;omega);have y : (s.hi == a) = true:=by simpa using w
    rw [r] at hb;rw [m,r];simp only [hb,Q2,y,qn,qhd _ _ d,decide_true]
    have:=qhk (fun v : qk=>({X0:=v.X0,Y0:=v.Y0,X1:=b,Y1:=v.Y1} : qk)) s.done (s.sec.map (putR s.lo s.hi)) (by have : (s.done ++ s.sec.map (putR s.lo s.hi)).length = (s.flat putR).length:=rfl;omega) (q54 b) (fun k o f t=>by
      have l : (s.done ++ s.sec.map (putR s.lo s.hi)).length = (s.flat putR).length:=rfl
      simp only [q54,dlt f,Q2,K5 f,qn,w64s f q0,Int.toNat_natCast]) (fun o=>by simp only [q54,dnl,Q3])
    rw [show s.flat putR = s.done ++ s.sec.map (putR s.lo s.hi) from rfl,this];simp only [qn,Mg.flat,List.map_map];rfl
  · rw [m]
    have x : ((cond (decide ((c.length : Int) > 0)) (some (s.hi == a)) (some false)).bind fun g=>(cond g ((q8d s.sec c).bind fun j=>some j) (some false))) = some false:=by
      by_cases l : c = []
      · subst l;simp
      · have hb : decide ((c.length : Int) > 0) = true:=Q9 (by have:=List.length_pos_iff.2 l;omega);simp only [hb,Q2,qn,qhd _ _ d];by_cases p : s.hi = a
        · have u : s.sec≠c:=fun h=>q ⟨l,h.symm,p⟩;simp [p,u]
        · have : (s.hi == a) = false:=by simpa using p
          simp [this]
    have n:=qj3 c (putR a b) (s.flat putR) (fun o=>(c,((s.flat putR).length : Int),b,o)) (q55 c a b (s.flat putR)) (fun k f o t=>by
      simp only [q55,dlt f,Q2,K5 f,qn,w64s f q0];rw [Zf (by simp;omega)]
      rfl) (fun o=>by simp only [q55,dnl,Q3])
    rw [← Option.bind_assoc,x];simp only [qn,Q3,n];simp [Mg.flat]
end Go.Sh
namespace Go.Sh
open Go Go.Am
def vR (r : qk) : Prop:=r.X0 < r.X1∧r.Y0 < r.Y1∧-1000000≤r.X0∧r.X0≤1000000∧-1000000≤r.X1∧r.X1≤1000000∧-1000000≤r.Y0∧r.Y0≤1000000∧-1000000≤r.Y1∧r.Y1≤1000000
instance (r : qk) : Decidable (vR r):=by unfold vR;infer_instance
theorem qph (x : Int) : q2v x = some (decide (-1000000≤x∧x≤1000000)):=by
  unfold q2v;by_cases h : x ≥ -1000000 <;> by_cases a : x≤1000000 <;> simp [h,a] <;> omega
theorem qmp (r : qk) : q57 r = some (decide (vR r)):=by
  unfold q57;simp only [qph,qop,qn,vR];by_cases d : r.X0 < r.X1 <;> by_cases b : r.Y0 < r.Y1 <;> by_cases a : -1000000≤r.X0∧r.X0≤1000000 <;> by_cases c : -1000000≤r.X1∧r.X1≤1000000 <;> by_cases g : -1000000≤r.Y0∧r.Y0≤1000000 <;> by_cases f : -1000000≤r.Y1∧r.Y1≤1000000 <;> simp [d,b,a,c,g,f] <;> omega
def covR (x : Int) (r : qk) : Bool:=decide (r.X0≤x) && decide (x < r.X1)
def ysp (r : qk) : qj:={Lo:=r.Y0,Hi:=r.Y1}
def covS (l : List qk) (x : Int) : List qj:=l.flatMap fun r=>if covR x r = true then [ysp r] else []
def hasR (l : List qk) (x y : Int) : Prop:=∃ r∈l,r.X0≤x∧x < r.X1∧r.Y0≤y∧y < r.Y1
theorem qe7 {l : List qk} {x : Int} {t : qj} : t∈covS l x↔∃ r∈l,covR x r = true∧t = ysp r:=by
  unfold covS;rw [List.mem_flatMap];constructor
  · rintro ⟨r,a,h⟩;split at h
    · rename_i b;simp only [List.mem_singleton] at h;exact ⟨r,a,b,h⟩
    · cases h
  · rintro ⟨r,a,b,rfl⟩;exact ⟨r,a,by simp [b]⟩
theorem q4n {l : List qk} {x y : Int} : has (covS l x) y↔hasR l x y:=by
  unfold has hasR;constructor
  · rintro ⟨t,h,d,a⟩;obtain ⟨r,b,c,rfl⟩:=qe7.1 h;simp only [covR,Bool.and_eq_true,decide_eq_true_eq] at c;exact ⟨r,b,c.1,c.2,d,a⟩
  · rintro ⟨r,b,d,a,f,g⟩;exact ⟨ysp r,qe7.2 ⟨r,b,by simp [covR,d,a],rfl⟩,f,g⟩
theorem q2a (l : List qk) (x : Int) : (covS l x).length≤l.length:=by
  unfold covS
  induction l with
  | nil=>simp
  | cons r l ih=>
    simp only [List.flatMap_cons,List.length_append,List.length_cons];have : (if covR x r = true then [ysp r] else []).length≤1:=by split <;> simp
    omega
theorem qh3 {l : List qk} (h : ∀ r∈l,vR r) (x : Int) : ∀ t∈covS l x,vld t:=by
  intro t d;obtain ⟨r,f,_,rfl⟩:=qe7.1 d;obtain ⟨_,b,_,_,_,_,a,_,_,c⟩:=h r f;exact ⟨b,a,c⟩
def xsOf (l : List qk) : List Int:=l.flatMap fun r=>[r.X0,r.X1]
theorem q23 (l : List qk) : (xsOf l).length = 2 * l.length:=by
  unfold xsOf;induction l with
  | nil=>rfl
  | cons r l ih=>simp only [List.flatMap_cons,List.length_append,List.length_cons,List.length_nil];omega
noncomputable def K1 (l : List Int) : List Int:=(q4y l).getD []
theorem q14 {l : List Int} (b : l.length≤1000000) : q4y l = some (K1 l)∧Z7 l (K1 l)∧(K1 l).length≤l.length:=by
  obtain ⟨t,c,d,a⟩:=qlp l b;unfold K1;rw [c];exact ⟨rfl,d,a⟩
noncomputable def secJ (kind : Int) (p q : List qk) (x : Int) : List qj:=Jb kind (covS p x) (covS q x)
theorem qkw (kind : Int) {p q : List qk} (h : p.length + q.length≤100000) (x : Int) : (secJ kind p q x).length≤2 * (p.length + q.length):=by
  have a:=q2a p x;have b:=q2a q x;have:=(q7n kind (covS p x) (covS q x) q0 q0).2.len;unfold secJ;omega
noncomputable def mrg (kind : Int) (p q : List qk) : Mg qj qk:=K6 putR K4 (Yx (K1 (xsOf p ++ xsOf q)) (secJ kind p q))
noncomputable def mrgR (kind : Int) (p q : List qk) : List qk:=(mrg kind p q).flat putR
theorem qh4 {p q : List qk} (h : p.length + q.length≤490) : q4y (xsOf p ++ xsOf q) = some (K1 (xsOf p ++ xsOf q))∧Z7 (xsOf p ++ xsOf q) (K1 (xsOf p ++ xsOf q))∧(K1 (xsOf p ++ xsOf q)).length≤2 * (p.length + q.length):=by
  have f:=q23 p;have d:=q23 q;obtain ⟨a,b,c⟩:=q14 (l:=xsOf p ++ xsOf q) (by simp;omega);exact ⟨a,b,by simp at c;omega⟩
theorem qr8 (kind : Int) {p q : List qk} (h : p.length + q.length≤490) (i : Nat) :
    ((K6 putR K4 ((Yx (K1 (xsOf p ++ xsOf q)) (secJ kind p q)).take i)).flat putR).length≤980 * 980:=by
  have f:=qdi putR (s0:=K4) (M:=980) (steps:=(Yx (K1 (xsOf p ++ xsOf q)) (secJ kind p q)).take i) (fun t b=>by
    have:=qzd (M:=2 * (p.length + q.length)) (fun x=>qkw kind q0 x) t (List.mem_of_mem_take b)
    omega)
  have a : ((Yx (K1 (xsOf p ++ xsOf q)) (secJ kind p q)).take i).length≤980:=by
    have:=(qh4 h).2.2;rw [List.length_take,qbx];omega
  have c : (K4.flat putR : List qk).length = 0:=rfl;have d : ((Yx (K1 (xsOf p ++ xsOf q)) (secJ kind p q)).take i).length * 980≤980 * 980:=Nat.mul_le_mul_right _ a;omega
theorem qqv (l : List qk) (hl : l.length≤400) :
    (((idx [l] 0).bind fun j=>(loop (J3 j) (0,[])).bind fun x0=>some x0).bind fun f=>(U0 f).bind fun c=>(Qy c.length f.length).bind fun q=>(Uv c).bind fun b=>(Qy b.2.length c.length).bind fun p=>(q12 b.2.length b.1).bind fun n=>some ((b.2.drop b.1.1).take b.1.2)) = some (K1 (xsOf l)):=by
  have y : idx [l] 0 = some l:=rfl
  have u : loop (J3 l) (0,[]) = some (xsOf l):=by
    have:=q6z l q0 (fun r=>[r.X0,r.X1]) [] (fun o=>o) (J3 l) (fun k h o t=>by
      have h8 : o.length = 2 * k:=by rw [t,List.nil_append];have:=q23 (l.take k);rw [List.length_take,Nat.min_eq_left q0] at this;exact this
      simp only [J3,dlt h,Q2,K5 h,qn,w64s h q0];rw [Zf (by simp;omega)]
      rfl) (fun o=>by simp only [J3,dnl,Q3])
    rw [List.nil_append] at this;exact this
  have hx:=q23 l;obtain ⟨ys,v,m,s⟩:=qln (xsOf l) q0;have g : ys.length = (xsOf l).length:=m.length_eq;obtain ⟨w,a,c1,c2,c3,c4⟩:=qgy s q0;obtain ⟨_,z,_⟩:=q14 (l:=xsOf l) q0
  have d : a.take w = K1 (xsOf l):=by
    refine qlo (l:=xsOf l) ⟨c4.1,fun x=>?_⟩ z;rw [c4.2 x];exact m.mem_iff
  simp only [y,qn,u,v,Qy,g,if_true,c1,c2,q12];rw [qm q0];simp only [qn,List.drop_zero,d]
theorem qe1 (l : List qk) (f : l.length≤400) (x : Int) : loop (Ud l x) (0,[]) = some (covS l x):=by
  have:=q6z l q0 (fun r=>if covR x r = true then [ysp r] else []) [] (fun o=>o) (Ud l x) (fun k a o d=>by
    have g : o.length≤k:=by rw [d,List.nil_append];have:=q2a (l.take k) x;rw [List.length_take,Nat.min_eq_left q0] at this;exact this
    simp only [Ud,dlt a,Q2,K5 a,qn,w64s a q0];by_cases b : l[k].X0≤x
    · by_cases c : x < l[k].X1
      · simp only [b,c,decide_true,Q2,qn,covR,Bool.and_self,if_true];rw [Zf (by simp;omega)];rfl
      · simp only [b,c,decide_true,decide_false,Q2,Q3,qn,covR,Bool.and_false,if_false,Bool.false_eq_true,List.append_nil]
    · simp only [b,decide_false,Q3,qn,covR,Bool.false_and,if_false,Bool.false_eq_true,List.append_nil]) (fun o=>by simp only [Ud,dnl,Q3])
  rw [List.nil_append] at this;exact this
theorem qj2 (l : List qk) (s : l.length≤400) (w : ∀ r∈l,vR r) : q56 l = some (if 400 < (mrgR 2 l []).length then ([],4) else (mrgR 2 l [],0)):=by
  unfold q56;rw [qqv l s];simp only [qn];have c : K1 (xsOf l ++ xsOf []) = K1 (xsOf l):=by simp [xsOf]
  obtain ⟨_,o,a⟩:=qh4 (p:=l) (q:=[]) (by simp;omega);have d:=fun i=>qr8 2 (p:=l) (q:=[]) (by simp;omega) i;rw [c] at o a;have a : (K1 (xsOf l)).length≤2 * l.length:=by simpa using a
  have g : loop (q2w (K1 (xsOf l)) l) (1,[],0,0,[]) = some ((mrg 2 l []).sec,((mrg 2 l []).done.length : Int),(mrg 2 l []).hi,mrgR 2 l []):=by
    unfold mrgR mrg;rw [c] at d ⊢;generalize h : Yx (K1 (xsOf l)) (secJ 2 l []) = steps at d ⊢;have z : steps.length = (K1 (xsOf l)).length - 1:=by rw [← h];exact qbx _ _
    have j : K6 putR K4 (steps.take steps.length) = K6 putR K4 steps:=by rw [List.take_length]
    have key:=J1 (f:=q2w (K1 (xsOf l)) l) (fun k=>(((k + 1 : Nat) : Int),(K6 putR K4 (steps.take k)).sec,((K6 putR K4 (steps.take k)).done.length : Int),(K6 putR K4 (steps.take k)).hi,(K6 putR K4 (steps.take k)).flat putR))
      steps.length ((K6 putR K4 steps).sec,((K6 putR K4 steps).done.length : Int),(K6 putR K4 steps).hi,(K6 putR K4 steps).flat putR) (fun k u=>by
        have b : k + 1 < (K1 (xsOf l)).length:=by omega
        have y : steps[k] = ((K1 (xsOf l))[k],(K1 (xsOf l))[k + 1],secJ 2 l [] (K1 (xsOf l))[k]):=by
          subst h;exact qfb u b
        have x : idx (K1 (xsOf l)) (w64 (((k + 1 : Nat) : Int) - 1)) = some (K1 (xsOf l))[k]:=by rw [Qe q0];exact Zz q0 q0
        have aa:=q2a l (K1 (xsOf l))[k]
        have n : q6k (covS l (K1 (xsOf l))[k]) = some (secJ 2 l [] (K1 (xsOf l))[k],0):=by
          rw [qqw];unfold qe2;rw [ql q0,qm (qh3 w _)];rfl
        have m:=qkw 2 (p:=l) (q:=[]) (by simp;omega) (K1 (xsOf l))[k];have t:=d k;have hb:=qgb (K6 putR K4 (steps.take k)) (K1 (xsOf l))[k] (K1 (xsOf l))[k + 1] (secJ 2 l [] (K1 (xsOf l))[k]) (by simp at m;omega);rw [qdj putR u,y];simp only [q2w,dlt b,Q2,x,K5 b,qn,show idx [l] 0 = some l from rfl,qe1 l s,n,hb,Bool.not_true,Q3]
        rw [w64s b q0]) (by
        rw [j];by_cases h0 : (K1 (xsOf l)).length = 0
        · have : decide (((steps.length + 1 : Nat) : Int) < ((K1 (xsOf l)).length : Int)) = false:=Qh q0;simp only [q2w,this,Q3]
        · have : decide (((steps.length + 1 : Nat) : Int) < ((K1 (xsOf l)).length : Int)) = false:=Qh q0
          simp only [q2w,this,Q3]) (Nat.zero_le _)
    exact key
  rw [g];simp only [qn];by_cases v : 400 < (mrgR 2 l []).length
  · rw [Q9 (by omega : ((mrgR 2 l []).length : Int) > 400),qm v];rfl
  · rw [Qh (by omega : ¬ ((mrgR 2 l []).length : Int) > 400),ql v];rfl
end Go.Sh
namespace Go.Sh
open Go Go.Am
theorem qig {kind : Int} {a b : Prop} (h : Yc kind a b) : a∨b:=by
  rcases h with ⟨_,h,_⟩ | ⟨_,h⟩ | ⟨_,_,h,_⟩
  · exact .inl h
  · exact h
  · exact .inl h
end Go.Sh
namespace Go.Sh
open Go Go.Am
noncomputable def Yi (l : List qk) : Int:=if 400 < l.length then 4 else if ∀ r∈l,vR r then (if mrgR 2 l [] = l then 0 else 8) else 8
theorem qoe {l : List qk} (h : Yi l = 0) : l.length≤400∧(∀ r∈l,vR r)∧mrgR 2 l [] = l:=by
  unfold Yi at h;split at h
  · omega
  · split at h
    · split at h
      · rename_i a b c;exact ⟨q0,b,c⟩
      · omega
    · omega
theorem qtk (l : List qk) (c : l.length≤1000000) : q8b l (fun a=>q2t a) = some (decide (¬ ∀ r∈l,vR r)):=by
  have hs : ∀ (k : Nat) (h : k < l.length),q3q l (fun a=>q2t a) (k : Int) = some (if (fun r=>!decide (vR r)) l[k] = true then .inr (.inr (k : Int)) else .inl ((k + 1 : Nat) : Int)):=by
    intro k h;simp only [q3q,dlt h,Q2,K5 h,qn,w64s h c,q2t,qmp];by_cases m : vR l[k] <;> simp [m]
  have hd : q3q l (fun a=>q2t a) (l.length : Int) = some (.inr (.inl ())):=by simp only [q3q,dnl,Q3]
  unfold q8b qbl;rcases Uh l (fun r=>!decide (vR r)) (fun k _=>(k : Int)) () _ hs hd with ⟨j,b⟩ | ⟨k,g,f,_,b⟩
  · rw [b];have : ∀ r∈l,vR r:=fun r d=>by simpa using j r d
    simp [];omega
  · rw [b];have : ¬ ∀ r∈l,vR r:=fun h=>by simp [h _ (Y6 g)] at f
    simp only [qn];rw [Q9 this,Q9 q0]
theorem qte (l : List qk) : q51 l = some (Yi l):=by
  unfold q51 Yi;by_cases c : 400 < l.length
  · rw [Q9 (by omega : (l.length : Int) > 400),Q2,qm c]
  rw [Qh (by omega : ¬ (l.length : Int) > 400),Q3,ql c,qtk l q0,qn];by_cases a : ∀ r∈l,vR r
  · rw [Qh (fun h=>h a),Q3,qj2 l q0 a,qm a,qn];by_cases b : 400 < (mrgR 2 l []).length
    · have d : mrgR 2 l []≠l:=fun h=>by rw [h] at b;exact c b
      rw [qm b,ql d];rfl
    · rw [ql b];simp only [qda (mrgR 2 l []) l q0];by_cases f : mrgR 2 l [] = l <;> simp [f]
  · rw [Q9 a,Q2,ql a]
def putB (a b : Int) (r : qk) : qg:={Lo:={X:=r.X0,Y:=r.Y0,Z:=a},Hi:={X:=r.X1,Y:=r.Y1,Z:=b}}
def qhn (z : Int) : Prop:=-1000000≤z∧z≤1000000
instance (z : Int) : Decidable (qhn z):=by unfold qhn;infer_instance
end Go.Sh
namespace Go.Sh
open Go Go.Am
def covB (z : Int) (b : qg) : Bool:=decide (b.Lo.Z≤z) && decide (z < b.Hi.Z)
def Jz (b : qg) : qk:={X0:=b.Lo.X,Y0:=b.Lo.Y,X1:=b.Hi.X,Y1:=b.Hi.Y}
def atB (l : List qg) (z : Int) : List qk:=l.flatMap fun b=>if covB z b = true then [Jz b] else []
theorem q4d (l : List qg) (x : Int) : (atB l x).length≤l.length:=by
  unfold atB
  induction l with
  | nil=>simp
  | cons r l ih=>
    simp only [List.flatMap_cons,List.length_append,List.length_cons];have : (if covB x r = true then [Jz r] else []).length≤1:=by split <;> simp
    omega
def zsOf (l : List qg) : List Int:=l.flatMap fun b=>[b.Lo.Z,b.Hi.Z]
theorem q38 (l : List qg) : (zsOf l).length = 2 * l.length:=by
  unfold zsOf;induction l with
  | nil=>rfl
  | cons r l ih=>simp only [List.flatMap_cons,List.length_append,List.length_cons,List.length_nil];omega
structure q10t (kind : Int) (p q : List qg) (z : Int) : Prop where
  n : (atB p z).length + (atB q z).length≤490
  m : (mrgR kind (atB p z) (atB q z)).length≤400
  mp : (mrgR 2 (atB p z) []).length≤400
  mq : (mrgR 2 (atB q z) []).length≤400
noncomputable def secB (kind : Int) (p q : List qg) (z : Int) : List qk:=mrgR kind (atB p z) (atB q z)
noncomputable def mrgB (kind : Int) (p q : List qg) : List qg:=(K6 putB K4 (Yx (K1 (zsOf p ++ zsOf q)) (secB kind p q))).flat putB
section
variable {σ β : Type} (put : Int→Int→σ→β)
def Alike (s t : Mg σ β) : Prop:=s = t∨(s.flat put = t.flat put∧s.sec = []∧t.sec = [])
theorem Alike.flat {s t : Mg σ β} (h : Alike put s t) : s.flat put = t.flat put:=by
  rcases h with rfl | h
  · rfl
  · exact h.1
end
section
variable {σ β : Type} [DecidableEq σ] (put : Int→Int→σ→β)
def runM (sec : Int→List σ) : Mg σ β→List Int→Mg σ β
  | s,a::b::r=>runM sec (addM put s a b (sec a)) (b::r)
  | s,_=>s
theorem qhr (sec : Int→List σ) : ∀ (c : List Int) (s : Mg σ β),K6 put s (Yx c sec) = runM put sec s c
  | [],s=>rfl
  | [a],s=>rfl
  | a::b::r,s=>by
    have:=qhr sec (b::r) (addM put s a b (sec a))
    simp only [runM,← this]
    rfl
theorem Alike.add {s t : Mg σ β} (h : Alike put s t) (a b : Int) (c : List σ) : Alike put (addM put s a b c) (addM put t a b c):=by
  rcases h with rfl | ⟨m,j,d⟩
  · exact .inl rfl
  · refine .inl ?_;rcases q70 put s a b c with ⟨n,o,_,_⟩ | ⟨_,f⟩
    · exact absurd (o.trans j) n
    · rcases q70 put t a b c with ⟨g,k,_,_⟩ | ⟨_,l⟩
      · exact absurd (k.trans d) g
      · rw [f,l,m]
end
end Go.Sh
namespace Go.Sh
open Go Go.Am
structure Grp (σ : Type) where
  lo : Int
  hi : Int
  sec : List σ
section
variable {σ β : Type}
def CanG (gs : List (Grp σ)) : Prop:=(∀ g∈gs,g.lo < g.hi∧g.sec≠[])∧gs.Pairwise (fun g h=>g.hi≤h.lo∧(g.hi = h.lo→g.sec≠h.sec))
def secG : List (Grp σ)→Int→List σ
  | [],_=>[]
  | g::r,x=>if g.lo≤x∧x < g.hi then g.sec else secG r x
def Y2 (put : Int→Int→σ→β) (gs : List (Grp σ)) : List β:=gs.flatMap fun g=>g.sec.map (put g.lo g.hi)
theorem qpi (put : Int→Int→σ→β) (a b : List (Grp σ)) : Y2 put (a ++ b) = Y2 put a ++ Y2 put b:=by simp [Y2]
theorem q2y {y x : Int} : ∀ {r : List (Grp σ)},(∀ h∈r,y≤h.lo)→x < y→secG r x = []
  | [],_,_=>rfl
  | g::r,h,hx=>by
    have:=h g qe
    rw [secG,ql q0]
    exact q2y (fun k a=>h k (by simp [a])) hx
theorem q5c {y x : Int} : ∀ {r : List (Grp σ)},(∀ h∈r,h.hi≤y)→y≤x→secG r x = []
  | [],_,_=>rfl
  | g::r,h,hx=>by
    have:=h g qe
    rw [secG,ql q0]
    exact q5c (fun k a=>h k (by simp [a])) hx
theorem q86 {x : Int} : ∀ {a b : List (Grp σ)},secG a x = []→(∀ g∈a,g.sec≠[])→secG (a ++ b) x = secG b x
  | [],_,_,_=>rfl
  | g::a,b,h,hne=>by
    rw [secG] at h
    split at h
    · exact absurd h (hne g qe)
    · rename_i d
      rw [List.cons_append,secG,ql d]
      exact q86 h fun k c=>hne k (by simp [c])
theorem qf0 {y x : Int} {a b : List (Grp σ)} (hb : ∀ h∈b,y≤h.lo) (c : x < y) : secG (a ++ b) x = secG a x:=by
  induction a with
  | nil=>exact q2y hb c
  | cons g a ih=>simp only [List.cons_append,secG,ih]
theorem CanG.tail {g : Grp σ} {r : List (Grp σ)} (h : CanG (g::r)) : CanG r:=⟨fun k a=>h.1 k (by simp [a]),(List.pairwise_cons.1 h.2).2⟩
theorem CanG.nxt {g : Grp σ} {r : List (Grp σ)} (h : CanG (g::r)) : ∀ k∈r,g.hi≤k.lo∧(g.hi = k.lo→g.sec≠k.sec):=(List.pairwise_cons.1 h.2).1
theorem q2x {g : Grp σ} {r : List (Grp σ)} {x : Int} (a : g.lo≤x) (b : x < g.hi) : secG (g::r) x = g.sec:=by rw [secG,qm ⟨a,b⟩]
theorem qvc {g : Grp σ} {r : List (Grp σ)} (h : CanG (g::r)) : secG (g::r) g.hi≠g.sec:=by
  rw [secG,ql q0]
  cases r with
  | nil=>exact fun e=>(h.1 g qe).2 e.symm
  | cons k r=>
    have c:=h.nxt k qe;have a:=h.tail.1 k qe;by_cases d : g.hi = k.lo
    · rw [q2x q0 q0];exact fun e=>c.2 d e.symm
    · rw [secG,ql q0,q2y (y:=k.hi) (fun m b=>(h.tail.nxt m b).1) q0];exact fun e=>(h.1 g qe).2 e.symm
theorem qcr : ∀ {a b : List (Grp σ)},CanG a→CanG b→(∀ x,secG a x = secG b x)→a = b
  | [],[],_,_,_=>rfl
  | [],g::r,_,hb,h=>by
    have:=h g.lo
    rw [q2x (Int.le_refl _) (hb.1 g qe).1] at this
    exact absurd this.symm (hb.1 g qe).2
  | g::r,[],c,_,h=>by
    have:=h g.lo
    rw [q2x (Int.le_refl _) (c.1 g qe).1] at this
    exact absurd this (c.1 g qe).2
  | g::r,k::s,c,hb,h=>by
    have q:=c.1 g qe
    have t:=hb.1 k qe
    have low : ∀ {g k : Grp σ} {r s : List (Grp σ)},CanG (g::r)→CanG (k::s)→(∀ x,secG (g::r) x = secG (k::s) x)→k.lo≤g.lo:=by
      intro g k r s c hb h;refine Int.not_lt.1 fun f=>?_;have d:=h g.lo;rw [q2x (Int.le_refl _) (c.1 g qe).1,q2y (y:=k.lo) (fun m j=>?_) f] at d
      · exact (c.1 g qe).2 d
      · rcases List.mem_cons.1 j with rfl | j
        · exact Int.le_refl _
        · have:=(hb.nxt m j).1;have:=(hb.1 k qe).1;omega
    have n : g.lo = k.lo:=Int.le_antisymm (low hb c fun x=>(h x).symm) (low c hb h)
    have l : g.sec = k.sec:=by
      have d:=h g.lo
      rwa [q2x (Int.le_refl _) q.1,q2x q0 q0] at d
    have hi : ∀ {g k : Grp σ} {r s : List (Grp σ)},CanG (g::r)→CanG (k::s)→(∀ x,secG (g::r) x = secG (k::s) x)→g.lo = k.lo→g.sec = k.sec→k.hi≤g.hi:=by
      intro g k r s c hb h n l;refine Int.not_lt.1 fun f=>?_;have d:=h g.hi;have:=(c.1 g qe).1;rw [q2x (g:=k) q0 f,← l] at d;exact qvc c d
    have p : g.hi = k.hi:=Int.le_antisymm (hi hb c (fun x=>(h x).symm) n.symm l.symm) (hi c hb h n l)
    have e : g = k:=by cases g;cases k;simp at n l p;simp [n,l,p]
    subst e
    have : r = s:=qcr c.tail hb.tail fun x=>by
      by_cases o : x < g.hi
      · rw [q2y (y:=g.hi) (fun m j=>(c.nxt m j).1) o,q2y (y:=g.hi) (fun m j=>(hb.nxt m j).1) o]
      · have d:=h x
        rwa [secG,secG,ql q0,ql q0] at d
    rw [this]
def curG (s : Mg σ β) : List (Grp σ):=if s.sec = [] then [] else [⟨s.lo,s.hi,s.sec⟩]
def secC (sec : Int→List σ) : List Int→Int→List σ
  | a::b::r,x=>if a≤x∧x < b then sec a else secC sec (b::r) x
  | _,_=>[]
theorem qho (put : Int→Int→σ→β) (s : Mg σ β) (a : List (Grp σ)) (h : s.done = Y2 put a) : s.flat put = Y2 put (a ++ curG s):=by
  rw [qpi,Mg.flat,h];unfold curG;split
  · rename_i b;simp [b,Y2]
  · simp [Y2]
theorem qar {s : Mg σ β} {g : Grp σ} (h : g∈curG s) : s.sec≠[]∧g = ⟨s.lo,s.hi,s.sec⟩:=by
  unfold curG at h;split at h
  · cases h
  · rename_i a;exact ⟨a,by simpa using h⟩
theorem qb9 (sec : Int→List σ) {x : Int} : ∀ {d : List Int},d.Pairwise (· < ·)→
    (∀ a∈d,a≤x→(∀ c∈d,c≤a∨x < c)→sec a = sec x)→((∀ c∈d,x < c)→sec x = [])→((∀ c∈d,c≤x)→sec x = [])→secC sec d x = sec x
  | [],_,_,h2,_=>(h2 qe).symm
  | [a],_,_,h2,h3=>by
    rw [secC]
    · by_cases k : x < a
      · exact (h2 (by simpa using k)).symm
      · exact (h3 (by simpa using k)).symm
    · intro a b r h;simp at h
  | a::b::r,hp,h1,h2,h3=>by
    have o : a < b:=(List.pairwise_cons.1 hp).1 b qe
    have m:=(List.pairwise_cons.1 (List.pairwise_cons.1 hp).2).1
    rw [secC]
    split
    · rename_i k
      refine h1 a qe k.1 fun c g=>?_
      rcases List.mem_cons.1 g with rfl | g
      · exact .inl (Int.le_refl _)
      · rcases List.mem_cons.1 g with rfl | g
        · exact .inr k.2
        · have:=m c g;exact .inr q0
    · rename_i k
      by_cases n : x < a
      · have e : sec x = []:=h2 fun c g=>by
          rcases List.mem_cons.1 g with rfl | g
          · exact n
          · have:=(List.pairwise_cons.1 hp).1 c g;omega
        have:=qb9 sec (x:=x) (List.pairwise_cons.1 hp).2 (fun a' j l _=>by
          exfalso;have:=(List.pairwise_cons.1 hp).1 a' j;omega) (fun _=>e) (fun _=>e)
        exact this
      · have p : b≤x:=by omega
        exact qb9 sec (List.pairwise_cons.1 hp).2 (fun a' j l f=>h1 a' (by simp [j]) l fun c g=>by
          rcases List.mem_cons.1 g with rfl | g
          · have:=(List.pairwise_cons.1 hp).1 a' j;exact .inl q0
          · exact f c g) (fun f=>by have:=f b qe;omega) (fun f=>h3 fun c g=>by
          rcases List.mem_cons.1 g with rfl | g
          · omega
          · exact f c g)
variable [DecidableEq σ] (put : Int→Int→σ→β)
structure InvG (s : Mg σ β) (gs : List (Grp σ)) (c : Int) : Prop where
  done : s.done = Y2 put gs
  can : CanG (gs ++ curG s)
  le : ∀ g∈gs ++ curG s,g.hi≤c
  gap : s.sec = []→∀ g∈gs,g.hi = c→False
theorem qqb {s : Mg σ β} {j : List (Grp σ)} {a b : Int} {c : List σ} (w : a < b) (hi : InvG put s j a) :
    ∃ o,InvG put (addM put s a b c) o b∧∀ x,secG (o ++ curG (addM put s a b c)) x = if a≤x∧x < b then c else secG (j ++ curG s) x:=by
  rcases q70 put s a b c with ⟨h1,h2,h3,h4⟩ | ⟨h1,h4⟩
  · rw [h4];have hs : s.sec≠[]:=h2 ▸ h1;have c1 : curG s = [⟨s.lo,s.hi,s.sec⟩]:=by unfold curG;rw [ql hs]
    have c2 : curG (⟨s.done,s.sec,s.lo,b⟩ : Mg σ β) = [⟨s.lo,b,s.sec⟩]:=by unfold curG;rw [ql hs]
    have f:=hi.can;rw [c1] at f;have af : s.lo < s.hi:=(f.1 ⟨s.lo,s.hi,s.sec⟩ qe).1;refine ⟨j,⟨hi.done,?_,?_,fun h=>absurd h hs⟩,?_⟩
    · rw [c2];refine ⟨fun g d=>?_,?_⟩
      · rcases List.mem_append.1 d with d | d
        · exact f.1 g (by simp [d])
        · obtain rfl:=List.mem_singleton.1 d;exact ⟨by simp only;omega,hs⟩
      · have:=List.pairwise_append.1 f.2;refine List.pairwise_append.2 ⟨this.1,qe,fun g d k u=>?_⟩;obtain rfl:=List.mem_singleton.1 u;exact this.2.2 g d ⟨s.lo,s.hi,s.sec⟩ qe
    · rw [c2];intro g d;rcases List.mem_append.1 d with d | d
      · have:=hi.le g (by simp [d]);omega
      · obtain rfl:=List.mem_singleton.1 d;exact Int.le_refl _
    · intro x;rw [c1,c2];have v : ∀ g∈j,g.hi≤s.lo:=fun g d=>((List.pairwise_append.1 f.2).2.2 g d ⟨s.lo,s.hi,s.sec⟩ qe).1;have q : ∀ g∈j,g.sec≠[]:=fun g d=>(f.1 g (by simp [d])).2;by_cases n : x < s.lo
      · rw [ql q0,qf0 (y:=s.lo) qe n,qf0 (y:=s.lo) qe n]
      · have e : secG j x = []:=q5c v q0;rw [q86 e q,q86 e q];simp only [secG];by_cases z : x < s.hi
        · rw [qm ⟨q0,q0⟩,ql q0,qm ⟨q0,z⟩]
        · by_cases p : x < b
          · rw [qm ⟨q0,p⟩,qm ⟨q0,p⟩,h2]
          · rw [ql q0,ql q0,ql q0]
  · rw [h4];have hd : s.flat put = Y2 put (j ++ curG s):=qho put s j hi.done;refine ⟨j ++ curG s,⟨hd,?_,?_,?_⟩,?_⟩
    · by_cases m : c = []
      · have : curG (⟨s.flat put,c,a,b⟩ : Mg σ β) = []:=by unfold curG;rw [qm m]
        rw [this,List.append_nil];exact hi.can
      · have : curG (⟨s.flat put,c,a,b⟩ : Mg σ β) = [⟨a,b,c⟩]:=by unfold curG;rw [ql m]
        rw [this];refine ⟨fun g d=>?_,List.pairwise_append.2 ⟨hi.can.2,qe,fun g d k u=>?_⟩⟩
        · rcases List.mem_append.1 d with d | d
          · exact hi.can.1 g d
          · obtain rfl:=List.mem_singleton.1 d;exact ⟨w,m⟩
        · obtain rfl:=List.mem_singleton.1 u;refine ⟨hi.le g d,fun t r=>?_⟩;rcases List.mem_append.1 d with l | l
          · by_cases hs : s.sec = []
            · exact hi.gap hs g l t
            · have h5 : (⟨s.lo,s.hi,s.sec⟩ : Grp σ)∈curG s:=by unfold curG;rw [ql hs];simp
              have h6:=((List.pairwise_append.1 hi.can.2).2.2 g l _ h5).1;have h7:=(hi.can.1 _ (List.mem_append.2 (.inr h5))).1;have h8:=hi.le _ (List.mem_append.2 (.inr h5));simp only at t h6 h7 h8;omega
          · obtain ⟨hs,rfl⟩:=qar l;exact h1 ⟨m,r.symm,t⟩
    · intro g d;rcases List.mem_append.1 d with d | d
      · have:=hi.le g d;omega
      · obtain ⟨_,rfl⟩:=qar d;exact Int.le_refl _
    · intro m g d t;have:=hi.le g d;omega
    · intro x;by_cases n : a≤x∧x < b
      · rw [qm n,q86 (q5c hi.le n.1) fun g d=>(hi.can.1 g d).2];unfold curG;split
        · rename_i m;simp only at m;rw [m];rfl
        · simp only [secG];rw [qm n]
      · rw [ql n];by_cases ab : x < a
        · exact qf0 (y:=a) (fun g d=>by obtain ⟨_,rfl⟩:=qar d;exact Int.le_refl _) ab
        · have e:=q5c (x:=x) hi.le q0;rw [q86 e fun g d=>(hi.can.1 g d).2,e];exact q5c (y:=b) (fun g d=>by obtain ⟨_,rfl⟩:=qar d;exact Int.le_refl _) q0
theorem qkq (sec : Int→List σ) : ∀ (d : List Int) (c : Int) (s : Mg σ β) (h : List (Grp σ)),(c::d).Pairwise (· < ·)→InvG put s h c→
    ∃ f,(runM put sec s (c::d)).flat put = Y2 put f∧CanG f∧∀ x,secG f x = if x < c then secG (h ++ curG s) x else secC sec (c::d) x
  | [],c,s,h,_,hi=>by
    refine ⟨h ++ curG s,qho put s h hi.done,hi.can,fun x=>?_⟩
    by_cases k : x < c
    · rw [qm k]
    · rw [ql k];exact q5c hi.le q0
  | b::d,a,s,h,hp,hi=>by
    have n : a < b:=(List.pairwise_cons.1 hp).1 b qe
    obtain ⟨f,m,j⟩:=qqb (b:=b) (c:=sec a) put n hi
    obtain ⟨l,p,q,o⟩:=qkq sec d b _ f (List.pairwise_cons.1 hp).2 m
    refine ⟨l,p,q,fun x=>?_⟩
    rw [o x]
    by_cases k : x < a
    · rw [qm q0,qm k,j,ql q0]
    · rw [ql k]
      simp only [secC]
      by_cases g : x < b
      · rw [qm g,j,qm ⟨q0,g⟩,qm ⟨q0,g⟩]
      · rw [ql g,ql q0]
theorem qjb (sec : Int→List σ) {a : List Int} (f : a.Pairwise (· < ·)) :
    ∃ d,(K6 put K4 (Yx a sec)).flat put = Y2 put d∧CanG d∧∀ x,secG d x = secC sec a x:=by
  rw [qhr]
  cases a with
  | nil=>exact ⟨[],rfl,⟨qe,qe⟩,fun x=>rfl⟩
  | cons c a=>
    obtain ⟨d,h,k,j⟩:=qkq put sec a c (K4 : Mg σ β) [] f ⟨rfl,⟨by simp [curG,K4],by simp [curG,K4]⟩,by simp [curG,K4],qe⟩;refine ⟨d,h,k,fun x=>?_⟩;rw [j x];split
    · rename_i g
      have : ∀ (a : List Int) (c : Int),(c::a).Pairwise (· < ·)→x < c→secC sec (c::a) x = []:=by
        intro a
        induction a with
        | nil=>intros;rfl
        | cons b r ih=>
          intro c hp g;rw [secC,ql q0];exact ih b (List.pairwise_cons.1 hp).2 (by have:=(List.pairwise_cons.1 hp).1 b qe;omega)
      rw [this a c f g];rfl
    · rfl
end
end Go.Sh
namespace Go.Sh
open Go Go.Am
section
variable {σ : Type}
theorem qf2 {x : Int} : ∀ (b : List (Grp σ)),secG b x = []∨∃ g∈b,g.lo≤x∧x < g.hi∧secG b x = g.sec
  | []=>.inl rfl
  | g::r=>by
    by_cases a : g.lo≤x∧x < g.hi
    · exact .inr ⟨g,qe,a.1,a.2,by rw [secG,qm a]⟩
    · rw [secG,ql a]
      rcases qf2 r with h | ⟨k,c,h⟩
      · exact .inl h
      · exact .inr ⟨k,by simp [c],h⟩
theorem qf1 : ∀ {b : List (Grp σ)},CanG b→∀ g∈b,∀ x,g.lo≤x→x < g.hi→secG b x = g.sec
  | k::r,h,g,a,x,h1,h2=>by
    rcases List.mem_cons.1 a with rfl | a
    · exact q2x h1 h2
    · have:=(h.nxt g a).1
      rw [secG,ql q0]
      exact qf1 h.tail g a x h1 h2
end
theorem qio (kind : Int) : Jb kind [] [] = []:=by
  have a:=(q7n kind [] [] qe qe).2;refine q76 a.can ⟨qe,qe⟩ fun x=>?_;rw [a.pts];have:=q1i x;unfold Yc;simp [this]
theorem qot (a b : List qk) (x : Int) : covS (a ++ b) x = covS a x ++ covS b x:=by simp [covS]
theorem qou (s : List qj) (lo hi x : Int) : covS (s.map (putR lo hi)) x = if lo≤x∧x < hi then s else []:=by
  induction s with
  | nil=>simp [covS]
  | cons t s ih=>
    have e : covS (List.map (putR lo hi) (t::s)) x = (if covR x (putR lo hi t) = true then [t] else []) ++ covS (s.map (putR lo hi)) x:=rfl;rw [e,ih];have : covR x (putR lo hi t) = (decide (lo≤x) && decide (x < hi)):=rfl;rw [this];by_cases a : lo≤x <;> by_cases b : x < hi <;> simp [a,b]
theorem q7c : ∀ {b : List (Grp qj)},CanG b→∀ x,covS (Y2 putR b) x = secG b x
  | [],_,x=>rfl
  | g::r,h,x=>by
    have e : Y2 putR (g::r) = g.sec.map (putR g.lo g.hi) ++ Y2 putR r:=rfl
    rw [e,qot,qou,q7c h.tail x]
    by_cases a : g.lo≤x∧x < g.hi
    · rw [qm a,secG,qm a,q2y (y:=g.hi) (fun m c=>(h.nxt m c).1) a.2,List.append_nil]
    · rw [ql a,secG,ql a,List.nil_append]
theorem qh1 {l : List qk} {a x : Int} (h : ∀ r∈l,covR a r = covR x r) : covS l a = covS l x:=by
  induction l with
  | nil=>rfl
  | cons r l ih=>
    have e : ∀ y,covS (r::l) y = (if covR y r = true then [ysp r] else []) ++ covS l y:=fun _=>rfl;rw [e,e,h r qe,ih fun k b=>h k (by simp [b])]
theorem qae {l : List qk} {x : Int} (h : ∀ r∈l,covR x r = false) : covS l x = []:=by
  induction l with
  | nil=>rfl
  | cons r l ih=>
    have e : covS (r::l) x = (if covR x r = true then [ysp r] else []) ++ covS l x:=rfl;rw [e,h r qe,ih fun k a=>h k (by simp [a])];rfl
theorem q4g {x : Int} {r : qk} : covR x r = true↔r.X0≤x∧x < r.X1:=by simp [covR]
theorem qj9 {p q : List qk} {r : qk} (h : r∈p∨r∈q) : r.X0∈xsOf p ++ xsOf q∧r.X1∈xsOf p ++ xsOf q:=by
  unfold xsOf;simp only [List.mem_append,List.mem_flatMap];rcases h with h | h
  · exact ⟨.inl ⟨r,h,qe⟩,.inl ⟨r,h,qe⟩⟩
  · exact ⟨.inr ⟨r,h,qe⟩,.inr ⟨r,h,qe⟩⟩
theorem qje (kind : Int) {p q : List qk} (h : p.length + q.length≤100000) :
    ∃ f,mrgR kind p q = Y2 putR f∧CanG f∧∀ x,secG f x = secJ kind p q x:=by
  have u:=q23 p;have t:=q23 q;have hs:=(q14 (l:=xsOf p ++ xsOf q) (by simp;omega)).2.1;obtain ⟨f,k,n,o⟩:=qjb putR (secJ kind p q) hs.1;refine ⟨f,k,n,fun x=>?_⟩;rw [o]
  have g : ∀ r,(r∈p∨r∈q)→r.X0∈K1 (xsOf p ++ xsOf q)∧r.X1∈K1 (xsOf p ++ xsOf q):=fun r b=>
    ⟨(hs.2 _).2 (qj9 b).1,(hs.2 _).2 (qj9 b).2⟩
  refine qb9 _ hs.1 (fun a _ m c=>?_) (fun c=>?_) (fun c=>?_)
  · have d : ∀ r,(r∈p∨r∈q)→covR a r = covR x r:=fun r b=>by
      have j:=c _ (g r b).1;have s:=c _ (g r b).2;rw [Bool.eq_iff_iff,q4g,q4g];omega
    unfold secJ;rw [qh1 fun r b=>d r (.inl b),qh1 fun r b=>d r (.inr b)]
  · have d : ∀ r,(r∈p∨r∈q)→covR x r = false:=fun r b=>by
      have j:=c _ (g r b).1;rw [← Bool.not_eq_true,q4g];omega
    unfold secJ;rw [qae fun r b=>d r (.inl b),qae fun r b=>d r (.inr b),qio]
  · have d : ∀ r,(r∈p∨r∈q)→covR x r = false:=fun r b=>by
      have j:=c _ (g r b).2;rw [← Bool.not_eq_true,q4g];omega
    unfold secJ;rw [qae fun r b=>d r (.inl b),qae fun r b=>d r (.inr b),qio]
def CanR (l : List qk) : Prop:=∃ gs : List (Grp qj),l = Y2 putR gs∧CanG gs∧∀ g∈gs,Can g.sec
theorem qnp : Can []:=⟨qe,qe⟩
theorem CanR.nil : CanR []:=⟨[],rfl,⟨qe,qe⟩,qe⟩
theorem CanR.cov {l : List qk} (h : CanR l) (x : Int) : Can (covS l x):=by
  obtain ⟨a,rfl,d,b⟩:=h;rw [q7c d];rcases qf2 (x:=x) a with e | ⟨g,c,_,_,e⟩
  · rw [e];exact qnp
  · rw [e];exact b g c
theorem qcs {a b : List qk} (c : CanR a) (hb : CanR b) (h : ∀ x y,hasR a x y↔hasR b x y) : a = b:=by
  have g : ∀ x,covS a x = covS b x:=fun x=>q76 (c.cov x) (hb.cov x) fun y=>by rw [q4n,q4n];exact h x y
  obtain ⟨j,rfl,f,_⟩:=c;obtain ⟨k,rfl,d,_⟩:=hb;rw [qcr f d fun x=>by rw [← q7c f,← q7c d];exact g x]
theorem qkx (kind : Int) {p q : List qk} (h : p.length + q.length≤100000) (x : Int) : qcc kind (covS p x) (covS q x) (secJ kind p q x):=by
  have a:=q2a p x;have b:=q2a q x;exact (q7n kind (covS p x) (covS q x) q0 q0).2
theorem qav (kind : Int) {p q : List qk} (h : p.length + q.length≤100000) : CanR (mrgR kind p q):=by
  obtain ⟨f,c,a,d⟩:=qje kind h;refine ⟨f,c,a,fun g b=>?_⟩;have:=d g.lo;rw [qf1 a g b _ (Int.le_refl _) (a.1 g b).1] at this;rw [this];exact (qkx kind h _).can
theorem qh2 (kind : Int) {p q : List qk} (h : p.length + q.length≤100000) (x : Int) : covS (mrgR kind p q) x = secJ kind p q x:=by
  obtain ⟨d,a,c,b⟩:=qje kind h;rw [a,q7c c,b]
theorem qal (kind : Int) {p q : List qk} (h : p.length + q.length≤100000) (x y : Int) : hasR (mrgR kind p q) x y↔Yc kind (hasR p x y) (hasR q x y):=by
  rw [← q4n,qh2 kind h,(qkx kind h x).pts,q4n,q4n]
theorem qdq (x y : Int) : ¬ hasR [] x y:=by rintro ⟨r,h,_⟩;cases h
theorem Us {a b : Prop} : Yc 2 a b↔a∨b:=by unfold Yc;simp
theorem qq1 {l : List qk} (h : l.length≤100000) (x y : Int) : hasR (mrgR 2 l []) x y↔hasR l x y:=by
  rw [qal 2 (by simpa using h),Us];simp [qdq]
theorem qjg {l : List qk} (a : l.length≤100000) (h : CanR l) : mrgR 2 l [] = l:=
  qcs (qav 2 (by simpa using a)) h fun x y=>qq1 a x y
theorem qj7 {σ β : Type} {put : Int→Int→σ→β} {a : List (Grp σ)} {r : β} : r∈Y2 put a↔∃ g∈a,∃ t∈g.sec,r = put g.lo g.hi t:=by
  unfold Y2;simp only [List.mem_flatMap,List.mem_map];exact ⟨fun ⟨g,hg,t,ht,e⟩=>⟨g,hg,t,ht,e.symm⟩,fun ⟨g,hg,t,ht,e⟩=>⟨g,hg,t,ht,e.symm⟩⟩
theorem CanR.lt {l : List qk} (h : CanR l) : ∀ r∈l,r.X0 < r.X1∧r.Y0 < r.Y1:=by
  obtain ⟨j,rfl,f,b⟩:=h;intro r c;obtain ⟨g,a,t,d,rfl⟩:=qj7.1 c;exact ⟨(f.1 g a).1,(b g a).1 t d⟩
def InR (l : List qk) : Prop:=∀ x y,hasR l x y→(-1000000≤x∧x < 1000000)∧(-1000000≤y∧y < 1000000)
theorem CanR.vR {l : List qk} (h : CanR l) (hi : InR l) : ∀ r∈l,vR r:=by
  intro r a;have d:=h.lt r a;have c:=hi r.X0 r.Y0 ⟨r,a,q0⟩;have b:=hi (r.X1 - 1) (r.Y1 - 1) ⟨r,a,q0⟩;unfold Go.Sh.vR;omega
theorem InR.mrg {kind : Int} {p q : List qk} (h : p.length + q.length≤100000) (hp : InR p) (b : InR q) : InR (mrgR kind p q):=fun x y c=>by
  rcases qig ((qal kind h x y).1 c) with a | a
  · exact hp x y a
  · exact b x y a
theorem InR.nil : InR []:=fun x y h=>absurd h (qdq x y)
theorem q78 {l : List qk} : Yi l = 0↔l.length≤400∧(∀ r∈l,vR r)∧CanR l:=by
  constructor
  · intro h;obtain ⟨c,b,a⟩:=qoe h;exact ⟨c,b,a ▸ qav 2 (by simp;omega)⟩
  · rintro ⟨c,b,a⟩;unfold Yi;rw [ql q0,qm b,qm (qjg q0 a)]
end Go.Sh
namespace Go.Sh
open Go Go.Am
def hasB (l : List qg) (x y z : Int) : Prop:=∃ b∈l,(b.Lo.X≤x∧x < b.Hi.X)∧(b.Lo.Y≤y∧y < b.Hi.Y)∧(b.Lo.Z≤z∧z < b.Hi.Z)
theorem q29 {z : Int} {b : qg} : covB z b = true↔b.Lo.Z≤z∧z < b.Hi.Z:=by simp [covB]
theorem qe6 {l : List qg} {z : Int} {r : qk} : r∈atB l z↔∃ b∈l,(b.Lo.Z≤z∧z < b.Hi.Z)∧r = Jz b:=by
  unfold atB;rw [List.mem_flatMap];constructor
  · rintro ⟨b,hb,h⟩;split at h
    · rename_i a;exact ⟨b,hb,q29.1 a,by simpa using h⟩
    · cases h
  · rintro ⟨b,hb,a,rfl⟩;exact ⟨b,hb,by rw [qm (q29.2 a)];simp⟩
theorem q3j {l : List qg} {x y z : Int} : hasR (atB l z) x y↔hasB l x y z:=by
  constructor
  · rintro ⟨r,h,f,c,a,d⟩;obtain ⟨b,hb,g,rfl⟩:=qe6.1 h;exact ⟨b,hb,⟨f,c⟩,⟨a,d⟩,g⟩
  · rintro ⟨b,hb,⟨f,c⟩,⟨a,d⟩,g⟩;exact ⟨Jz b,qe6.2 ⟨b,hb,g,rfl⟩,f,c,a,d⟩
theorem q2k (x y z : Int) : ¬ hasB [] x y z:=by rintro ⟨r,h,_⟩;cases h
theorem qn9 (a b : List qg) (z : Int) : atB (a ++ b) z = atB a z ++ atB b z:=by simp [atB]
theorem qna (s : List qk) (lo hi z : Int) : atB (s.map (putB lo hi)) z = if lo≤z∧z < hi then s else []:=by
  induction s with
  | nil=>simp [atB]
  | cons t s ih=>
    have e : atB (List.map (putB lo hi) (t::s)) z = (if covB z (putB lo hi t) = true then [t] else []) ++ atB (s.map (putB lo hi)) z:=rfl;rw [e,ih];have : covB z (putB lo hi t) = (decide (lo≤z) && decide (z < hi)):=rfl;rw [this];by_cases a : lo≤z <;> by_cases b : z < hi <;> simp [a,b]
theorem q72 : ∀ {b : List (Grp qk)},CanG b→∀ z,atB (Y2 putB b) z = secG b z
  | [],_,z=>rfl
  | g::r,h,z=>by
    have e : Y2 putB (g::r) = g.sec.map (putB g.lo g.hi) ++ Y2 putB r:=rfl
    rw [e,qn9,qna,q72 h.tail z]
    by_cases a : g.lo≤z∧z < g.hi
    · rw [qm a,secG,qm a,q2y (y:=g.hi) (fun m c=>(h.nxt m c).1) a.2,List.append_nil]
    · rw [ql a,secG,ql a,List.nil_append]
theorem qg5 {l : List qg} {a x : Int} (h : ∀ r∈l,covB a r = covB x r) : atB l a = atB l x:=by
  induction l with
  | nil=>rfl
  | cons r l ih=>
    have e : ∀ y,atB (r::l) y = (if covB y r = true then [Jz r] else []) ++ atB l y:=fun _=>rfl;rw [e,e,h r qe,ih fun k b=>h k (by simp [b])]
theorem qa7 {l : List qg} {x : Int} (h : ∀ r∈l,covB x r = false) : atB l x = []:=by
  induction l with
  | nil=>rfl
  | cons r l ih=>
    have e : atB (r::l) x = (if covB x r = true then [Jz r] else []) ++ atB l x:=rfl;rw [e,h r qe,ih fun k a=>h k (by simp [a])];rfl
theorem qja {p q : List qg} {r : qg} (h : r∈p∨r∈q) : r.Lo.Z∈zsOf p ++ zsOf q∧r.Hi.Z∈zsOf p ++ zsOf q:=by
  unfold zsOf;simp only [List.mem_append,List.mem_flatMap];rcases h with h | h
  · exact ⟨.inl ⟨r,h,qe⟩,.inl ⟨r,h,qe⟩⟩
  · exact ⟨.inr ⟨r,h,qe⟩,.inr ⟨r,h,qe⟩⟩
theorem qjf (kind : Int) : mrgR kind [] [] = []:=by
  refine qcs (qav kind qe) .nil fun x y=>?_;rw [qal kind qe];have:=qdq x y;unfold Yc;simp [this]
theorem qjd (kind : Int) {p q : List qg} (h : p.length + q.length≤100000) :
    ∃ f,mrgB kind p q = Y2 putB f∧CanG f∧∀ z,secG f z = secB kind p q z:=by
  have u:=q38 p;have t:=q38 q;have hs:=(q14 (l:=zsOf p ++ zsOf q) (by simp;omega)).2.1;obtain ⟨f,k,o,m⟩:=qjb putB (secB kind p q) hs.1;refine ⟨f,k,o,fun x=>?_⟩;rw [m]
  have g : ∀ r,(r∈p∨r∈q)→r.Lo.Z∈K1 (zsOf p ++ zsOf q)∧r.Hi.Z∈K1 (zsOf p ++ zsOf q):=fun r b=>
    ⟨(hs.2 _).2 (qja b).1,(hs.2 _).2 (qja b).2⟩
  refine qb9 _ hs.1 (fun a _ n c=>?_) (fun c=>?_) (fun c=>?_)
  · have d : ∀ r,(r∈p∨r∈q)→covB a r = covB x r:=fun r b=>by
      have j:=c _ (g r b).1;have s:=c _ (g r b).2;rw [Bool.eq_iff_iff,q29,q29];omega
    unfold secB;rw [qg5 fun r b=>d r (.inl b),qg5 fun r b=>d r (.inr b)]
  · have d : ∀ r,(r∈p∨r∈q)→covB x r = false:=fun r b=>by
      have j:=c _ (g r b).1;rw [← Bool.not_eq_true,q29];omega
    unfold secB;rw [qa7 fun r b=>d r (.inl b),qa7 fun r b=>d r (.inr b),qjf]
  · have d : ∀ r,(r∈p∨r∈q)→covB x r = false:=fun r b=>by
      have j:=c _ (g r b).2;rw [← Bool.not_eq_true,q29];omega
    unfold secB;rw [qa7 fun r b=>d r (.inl b),qa7 fun r b=>d r (.inr b),qjf]
def CanB (l : List qg) : Prop:=∃ gs : List (Grp qk),l = Y2 putB gs∧CanG gs∧∀ g∈gs,CanR g.sec
theorem CanB.nil : CanB []:=⟨[],rfl,⟨qe,qe⟩,qe⟩
theorem CanB.at {l : List qg} (h : CanB l) (z : Int) : CanR (atB l z):=by
  obtain ⟨a,rfl,d,b⟩:=h;rw [q72 d];rcases qf2 (x:=z) a with e | ⟨g,c,_,_,e⟩
  · rw [e];exact .nil
  · rw [e];exact b g c
theorem qgg {a b : List qg} (c : CanB a) (hb : CanB b) (h : ∀ x y z,hasB a x y z↔hasB b x y z) : a = b:=by
  have g : ∀ z,atB a z = atB b z:=fun z=>qcs (c.at z) (hb.at z) fun x y=>by rw [q3j,q3j];exact h x y z
  obtain ⟨j,rfl,f,_⟩:=c;obtain ⟨k,rfl,d,_⟩:=hb;rw [qcr f d fun x=>by rw [← q72 f,← q72 d];exact g x]
theorem qg7 {p q : List qg} (h : p.length + q.length≤100000) (z : Int) : (atB p z).length + (atB q z).length≤100000:=by
  have:=q4d p z;have:=q4d q z;omega
theorem q7s (kind : Int) {p q : List qg} (h : p.length + q.length≤100000) : CanB (mrgB kind p q):=by
  obtain ⟨f,c,a,d⟩:=qjd kind h;refine ⟨f,c,a,fun g b=>?_⟩;have:=d g.lo;rw [qf1 a g b _ (Int.le_refl _) (a.1 g b).1] at this;rw [this];exact qav kind (qg7 h _)
theorem qg6 (kind : Int) {p q : List qg} (h : p.length + q.length≤100000) (z : Int) : atB (mrgB kind p q) z = secB kind p q z:=by
  obtain ⟨d,a,c,b⟩:=qjd kind h;rw [a,q72 c,b]
theorem qak (kind : Int) {p q : List qg} (h : p.length + q.length≤100000) (x y z : Int) : hasB (mrgB kind p q) x y z↔Yc kind (hasB p x y z) (hasB q x y z):=by
  rw [← q3j,qg6 kind h,secB,qal kind (qg7 h z),q3j,q3j]
theorem qib {l : List qg} (h : l.length≤100000) (x y z : Int) : hasB (mrgB 2 l []) x y z↔hasB l x y z:=by
  rw [qak 2 (by simpa using h),Us];simp [q2k]
theorem qr7 {l : List qg} (a : l.length≤100000) (h : CanB l) : mrgB 2 l [] = l:=
  qgg (q7s 2 (by simpa using a)) h fun x y z=>qib a x y z
theorem CanB.lt {l : List qg} (h : CanB l) : ∀ b∈l,b.Lo.X < b.Hi.X∧b.Lo.Y < b.Hi.Y∧b.Lo.Z < b.Hi.Z:=by
  obtain ⟨k,rfl,j,c⟩:=h;intro r d;obtain ⟨g,a,t,f,rfl⟩:=qj7.1 d;have:=(c g a).lt t f;exact ⟨this.1,this.2,(j.1 g a).1⟩
def vB (b : qg) : Prop:=(b.Lo.X < b.Hi.X∧b.Lo.Y < b.Hi.Y∧b.Lo.Z < b.Hi.Z)∧(-1000000≤b.Lo.X∧-1000000≤b.Lo.Y∧-1000000≤b.Lo.Z)∧b.Hi.X≤1000000∧b.Hi.Y≤1000000∧b.Hi.Z≤1000000
instance (b : qg) : Decidable (vB b):=by unfold vB;infer_instance
def InB (l : List qg) : Prop:=∀ x y z,hasB l x y z→(-1000000≤x∧x < 1000000)∧(-1000000≤y∧y < 1000000)∧(-1000000≤z∧z < 1000000)
theorem qfk {l : List qg} (h : ∀ r∈l,vB r) : InB l:=by
  rintro x y z ⟨r,a,b⟩;have:=h r a;unfold vB at this;omega
theorem CanB.vB {l : List qg} (h : CanB l) (hi : InB l) : ∀ r∈l,vB r:=by
  intro r a;have d:=h.lt r a;have c:=hi r.Lo.X r.Lo.Y r.Lo.Z ⟨r,a,q0⟩;have b:=hi (r.Hi.X - 1) (r.Hi.Y - 1) (r.Hi.Z - 1) ⟨r,a,q0⟩;unfold Go.Sh.vB;omega
theorem InB.mrg {kind : Int} {p q : List qg} (h : p.length + q.length≤100000) (hp : InB p) (b : InB q) : InB (mrgB kind p q):=fun x y z c=>by
  rcases qig ((qak kind h x y z).1 c) with a | a
  · exact hp x y z a
  · exact b x y z a
theorem InB.nil : InB []:=fun x y z h=>absurd h (q2k x y z)
theorem qmo {l : List qg} (h : ∀ b∈l,vB b) (z : Int) : ∀ r∈atB l z,vR r:=by
  intro r a;obtain ⟨b,hb,_,rfl⟩:=qe6.1 a;have:=h b hb;unfold vB at this;unfold vR Jz;simp only;omega
theorem InB.at {l : List qg} (h : InB l) (z : Int) : InR (atB l z):=fun x y a=>by
  have:=h x y z (q3j.1 a);exact ⟨this.1,this.2.1⟩
noncomputable def Qt (l : List qg) : Int:=if 400 < l.length then 4 else if ∀ b∈l,vB b then (if mrgB 2 l [] = l then 0 else 8) else 8
theorem Yo {l : List qg} : Qt l = 0↔l.length≤400∧(∀ b∈l,vB b)∧CanB l:=by
  unfold Qt;constructor
  · intro h;split at h
    · exact absurd h qo
    · rename_i d;split at h
      · rename_i c;split at h
        · rename_i a;exact ⟨q0,c,a ▸ q7s 2 (by simp;omega)⟩
        · exact absurd h qo
      · exact absurd h qo
  · rintro ⟨d,c,a⟩;rw [ql q0,qm c,qm (qr7 q0 a)]
theorem qvb (kind : Int) {p q : List qg} (h : p.length + q.length≤100000) (z : Int) : (secB kind p q z).length≤(mrgB kind p q).length:=by
  rw [← qg6 kind h];exact q4d _ _
theorem qvd (kind : Int) {p q : List qk} (h : p.length + q.length≤100000) (x : Int) : (secJ kind p q x).length≤(mrgR kind p q).length:=by
  rw [← qh2 kind h];exact q2a _ _
noncomputable def mkB (l : List qg) : List qg × Int:=if 400 < l.length then ([],4) else if ∀ b∈l,vB b then (if 400 < (mrgB 2 l []).length then ([],4) else (mrgB 2 l [],0)) else ([],8)
noncomputable def jB (kind : Int) (p q : List qg) : List qg × Int:=
  if Qt p≠0 then ([],Qt p) else if Qt q≠0 then ([],Qt q) else if 400 < (mrgB kind p q).length then ([],4) else (mrgB kind p q,0)
noncomputable def mkR (l : List qk) : List qk × Int:=if 400 < l.length then ([],4) else if ∀ b∈l,vR b then (if 400 < (mrgR 2 l []).length then ([],4) else (mrgR 2 l [],0)) else ([],8)
noncomputable def jR (kind : Int) (p q : List qk) : List qk × Int:=
  if Yi p≠0 then ([],Yi p) else if Yi q≠0 then ([],Yi q) else if 400 < (mrgR kind p q).length then ([],4) else (mrgR kind p q,0)
end Go.Sh
namespace Go.Sh
open Go Go.Am
theorem qdy {α β : Type} {f : α→Option (α ⊕ β)} (st : Nat→α) (n : Nat) (ok : Nat→Prop) (b e : β)
    (step : ∀ k,k < n→(∀ j,j≤k→ok j)→f (st k) = some (.inl (st (k + 1))))
    (bad : ∀ k,k < n→(∀ j,j < k→ok j)→¬ ok k→f (st k) = some (.inr e))
    (done : (∀ j,j < n→ok j)→f (st n) = some (.inr b)) :
    ((∀ j,j < n→ok j)∧loop f (st 0) = some b)∨(∃ j,j < n∧¬ ok j∧loop f (st 0) = some e):=by
  by_cases h : ∀ j,j < n→ok j
  · exact .inl ⟨h,J1 st n b (fun k c=>step k c fun j d=>h j q0) (done h) (Nat.zero_le _)⟩
  · refine .inr ?_
    have g : ∃ k,(k < n∧¬ ok k)∧∀ j,j < k→ok j:=by
      have : ∃ k,k < n∧¬ ok k:=by
        refine Classical.byContradiction fun o=>h fun k c=>?_;exact Classical.byContradiction fun h=>o ⟨k,c,h⟩
      obtain ⟨k,c⟩:=this
      induction k using Nat.strongRecOn with
      | _ k ih=>
        by_cases d : ∃ j,j < k∧(j < n∧¬ ok j)
        · obtain ⟨j,l,g⟩:=d;exact ih j l g
        · exact ⟨k,c,fun j l=>Classical.byContradiction fun h=>d ⟨j,l,q0,h⟩⟩
    obtain ⟨K,⟨m,hb⟩,a⟩:=g;exact ⟨K,m,hb,J1 st K e (fun k c=>step k q0 fun j d=>a j q0) (bad K m a hb) (Nat.zero_le _)⟩
theorem qf9 (xs : List Int) (h : xs.length≤1000000) :
    ((U0 xs).bind fun c=>(Qy c.length xs.length).bind fun m=>(Uv c).bind fun b=>(Qy b.2.length c.length).bind fun k=>(q12 b.2.length b.1).bind fun j=>some ((b.2.drop b.1.1).take b.1.2)) = some (K1 xs):=by
  obtain ⟨ys,o,g,n⟩:=qln xs h;have f : ys.length = xs.length:=g.length_eq;obtain ⟨w,a,c1,c2,c3,c4⟩:=qgy n q0;obtain ⟨_,p,_⟩:=q14 h
  have d : a.take w = K1 xs:=by
    refine qlo (l:=xs) ⟨c4.1,fun x=>?_⟩ p;rw [c4.2 x];exact g.mem_iff
  simp only [qn,o,Qy,f,if_true,c1,c2,q12];rw [qm q0];simp only [qn,List.drop_zero,d]
theorem qmv (l : List qk) (o : List Int) (d : l.length≤400) (f : o.length≤10000) : loop (J3 l) (0,o) = some (o ++ xsOf l):=
  q6z l q0 (fun r=>[r.X0,r.X1]) o (fun o=>o) (J3 l) (fun k b c a=>by
    have g : c.length = o.length + 2 * k:=by
      rw [a,List.length_append];have:=q23 (l.take k);rw [List.length_take,Nat.min_eq_left q0] at this;unfold xsOf at this;omega
    simp only [J3,dlt b,Q2,K5 b,qn,w64s b q0]
    rw [Zf (by simp;omega)]
    rfl) (fun o=>by simp only [J3,dnl,Q3])
theorem qtl (l : List qk) (c : l.length≤1000000) : q8a l (fun a=>q2u a) = some (decide (¬ ∀ r∈l,vR r)):=by
  have hs : ∀ (k : Nat) (h : k < l.length),q3p l (fun a=>q2u a) (k : Int) = some (if (fun r=>!decide (vR r)) l[k] = true then .inr (.inr (k : Int)) else .inl ((k + 1 : Nat) : Int)):=by
    intro k h;simp only [q3p,dlt h,Q2,K5 h,qn,w64s h c,q2u,qmp];by_cases m : vR l[k] <;> simp [m]
  have hd : q3p l (fun a=>q2u a) (l.length : Int) = some (.inr (.inl ())):=by simp only [q3p,dnl,Q3]
  unfold q8a qbk;rcases Uh l (fun r=>!decide (vR r)) (fun k _=>(k : Int)) () _ hs hd with ⟨j,b⟩ | ⟨k,g,f,_,b⟩
  · rw [b];have : ∀ r∈l,vR r:=fun r d=>by simpa using j r d
    simp [];omega
  · rw [b];have : ¬ ∀ r∈l,vR r:=fun h=>by simp [h _ (Y6 g)] at f
    simp only [qn];rw [Q9 this,Q9 q0]
theorem qkc (l : List qk) : q1o l = some (mkR l):=by
  unfold q1o mkR;by_cases b : 400 < l.length
  · rw [Q9 (by omega : (l.length : Int) > 400),Q2,qm b]
  rw [Qh (by omega : ¬ (l.length : Int) > 400),Q3,ql b,qtl l q0,qn];by_cases a : ∀ r∈l,vR r
  · rw [Qh (fun h=>h a),Q3,qj2 l q0 a,qm a];rfl
  · rw [Q9 a,Q2,ql a]
theorem qti (p q : List qk) : q83 p q = some (if Yi p≠0 then Yi p else Yi q):=by
  unfold q83;simp only [qte,qn];by_cases h : Yi p = 0
  · simp [h]
  · have : (Yi p != 0) = true:=by simpa using h
    simp [h,this]
theorem rj1 : qb4 = J3:=rfl
theorem rj2 : qb5 = J3:=rfl
theorem rj4 : qb6 = Ud:=rfl
theorem rj5 : qb7 = Ud:=rfl
theorem qgk {p : List qk} (h : Yi p = 0) (x : Int) : Yp (covS p x) = 0∧Good (covS p x):=by
  obtain ⟨d,c,b⟩:=q78.1 h;have a : Good (covS p x):=⟨qh3 c x,(b.cov x).2⟩
  have:=q2a p x;refine ⟨?_,a⟩;unfold Yp;rw [ql q0,qm a]
theorem qjn (kind : Int) {p q : List qk} (hp : Yi p = 0) (a : Yi q = 0) (x : Int) : opS kind (covS p x) (covS q x) = if 400 < (secJ kind p q x).length then ([],4) else (secJ kind p q x,0):=by
  unfold opS;rw [ql (by simp [(qgk hp x).1]),ql (by simp [(qgk a x).1])];rfl
theorem qtn (kind : Int) (f : List qj→List qj→Option (List qj × Int)) (hf : ∀ a b,f a b = some (opS kind a b)) (p q : List qk) : q84 p q f = some (jR kind p q):=by
  unfold q84 jR;rw [qti,qn];by_cases hp : ¬ Yi p = 0
  · rw [qm hp,qm hp];have : (Yi p != 0) = true:=by simpa using hp
    rw [this,Q2]
  replace hp:=Classical.not_not.1 hp;by_cases n : ¬ Yi q = 0
  · rw [ql (by simp [hp]),ql (by simp [hp]),qm n];have : (Yi q != 0) = true:=by simpa using n
    rw [this,Q2]
  replace n:=Classical.not_not.1 n;rw [ql (by simp [hp]),ql (by simp [hp]),ql (by simp [n]),n];obtain ⟨lp,vp,cp⟩:=q78.1 hp;obtain ⟨lq,vq,cq⟩:=q78.1 n;have ar:=q23 p;have aq:=q23 q;rw [show ((0 : Int) != 0) = false from rfl,Q3];simp only [show idx [p,q] 0 = some p from rfl,show idx [p,q] 1 = some q from rfl,qn,rj1,rj2,qmv p [] lp qe,List.nil_append,qmv q (xsOf p) lq q0];rw [qf9 _ (by simp;omega)];simp only [qn];obtain ⟨_,ag,g⟩:=q14 (l:=xsOf p ++ xsOf q) (by simp;omega);have g : (K1 (xsOf p ++ xsOf q)).length≤1600:=by simp at g;omega
  have o : ∀ x,(secJ kind p q x).length≤(mrgR kind p q).length:=fun x=>qvd kind q0 x;have ac : mrgR kind p q = (K6 putR K4 (Yx (K1 (xsOf p ++ xsOf q)) (secJ kind p q))).flat putR:=rfl;rw [ac] at o ⊢;generalize K1 (xsOf p ++ xsOf q) = xs at ag g o ⊢;generalize y : Yx xs (secJ kind p q) = steps at o ⊢;have am : steps.length = xs.length - 1:=by rw [← y];exact qbx _ _
  have v : ∀ k (m : k < steps.length),steps[k] = (xs[k]'(q0),xs[k + 1]'(q0),secJ kind p q (xs[k]'(q0))):=fun k m=>by subst y;exact qfb m q0
  have ae : ∀ k,k≤steps.length→(∀ j,j < k→∀ t,steps[j]? = some t→t.2.2.length≤400)→((K6 putR K4 (steps.take k)).flat putR).length≤1600 * 400:=fun k m r=>by
    have h1:=qdi putR (s0:=K4) (M:=400) (steps:=steps.take k) (fun t w=>by
      obtain ⟨i,hi,rfl⟩:=List.getElem_of_mem w;rw [List.length_take] at hi;rw [List.getElem_take]
      exact r i q0 _ (List.getElem?_eq_getElem q0))
    have h2 : (steps.take k).length≤1600:=by rw [List.length_take];omega
    have h3 : (K4.flat putR : List qk).length = 0:=rfl;have z : (steps.take k).length * 400≤1600 * 400:=Nat.mul_le_mul_right _ h2;omega
  have s : ∀ x,loop (Ud p x) (0,[]) = some (covS p x):=fun x=>qe1 p lp x;have u : ∀ x,loop (Ud q x) (0,[]) = some (covS q x):=fun x=>qe1 q lq x
  have main:=qdy (f:=q3n xs p q f) (fun k=>(((k + 1 : Nat) : Int),(K6 putR K4 (steps.take k)).sec,((K6 putR K4 (steps.take k)).done.length : Int),(K6 putR K4 (steps.take k)).hi,(K6 putR K4 (steps.take k)).flat putR))
    steps.length (fun j=>∀ t,steps[j]? = some t→t.2.2.length≤400) (.inl ((K6 putR K4 steps).sec,((K6 putR K4 steps).done.length : Int),(K6 putR K4 steps).hi,(K6 putR K4 steps).flat putR)) (.inr ([],4))
    (fun k m r=>by
      have c : k + 1 < xs.length:=by omega
      have ab : k < xs.length:=by omega
      have i1 : idx xs (w64 (((k + 1 : Nat) : Int) - 1)) = some xs[k]:=by rw [Qe q0];exact Zz q0 q0
      have hc:=r k (Nat.le_refl _) _ (List.getElem?_eq_getElem m);have hm:=ae k q0 fun j ao=>r j q0;rw [qdj putR m,v k m] at *;simp only at hc;have hb:=qgb (K6 putR K4 (steps.take k)) xs[k] xs[k + 1] (secJ kind p q xs[k]) q0;have ho : f (covS p xs[k]) (covS q xs[k]) = some (secJ kind p q xs[k],0):=by rw [hf,qjn kind hp n,ql q0]
      simp only [q3n,dlt c,Q2,i1,K5 c,qn,show idx [p,q] 0 = some p from rfl,show idx [p,q] 1 = some q from rfl,rj4,rj5,s,u,ho,show ((0 : Int) != 0) = false from rfl,Q3,hb]
      rw [w64s c q0])
    (fun k m r d=>by
      have c : k + 1 < xs.length:=by omega
      have ab : k < xs.length:=by omega
      have i1 : idx xs (w64 (((k + 1 : Nat) : Int) - 1)) = some xs[k]:=by rw [Qe q0];exact Zz q0 q0
      have hc : 400 < (secJ kind p q xs[k]).length:=by
        refine Nat.lt_of_not_le fun h=>d fun t w=>?_;rw [List.getElem?_eq_getElem m,v k m] at w;cases w;exact h
      have ho : f (covS p xs[k]) (covS q xs[k]) = some ([],4):=by rw [hf,qjn kind hp n,qm hc]
      simp only [q3n,dlt c,Q2,i1,K5 c,qn,show idx [p,q] 0 = some p from rfl,show idx [p,q] 1 = some q from rfl,rj4,rj5,s,u,ho,show ((4 : Int) != 0) = true from rfl,Q2])
    (fun _=>by
      have : decide (((steps.length + 1 : Nat) : Int) < (xs.length : Int)) = false:=Qh q0
      simp only [List.take_length,q3n,this,Q3])
  have ai : ((((0 + 1 : Nat) : Int),(K6 putR K4 (steps.take 0)).sec,((K6 putR K4 (steps.take 0)).done.length : Int),(K6 putR K4 (steps.take 0)).hi,(K6 putR K4 (steps.take 0)).flat putR) : Int × List qj × Int × Int × List qk) = (1,[],0,0,[]):=rfl;rw [ai] at main;rcases main with ⟨_,h2⟩ | ⟨j,r,d,h2⟩
  · rw [h2];simp only [qn];by_cases z : 400 < ((K6 putR K4 steps).flat putR).length
    · rw [Q9 (by omega : (((K6 putR K4 steps).flat putR).length : Int) > 400),qm z];rfl
    · rw [Qh (by omega : ¬ (((K6 putR K4 steps).flat putR).length : Int) > 400),ql z];rfl
  · rw [h2];have ap : j < xs.length:=by omega
    have h5 : 400 < (secJ kind p q xs[j]).length:=by
      refine Nat.lt_of_not_le fun h=>d fun t w=>?_;rw [List.getElem?_eq_getElem r,v j r] at w;cases w;exact h
    have h6:=o xs[j];have z : 400 < ((K6 putR K4 steps).flat putR).length:=Nat.lt_of_lt_of_le h5 h6;rw [qm z];rfl
theorem qtg (p q : List qk) : q52 p q = some (jR 2 p q):=by
  unfold q52;rw [qtn 2 _ (fun a b=>q105 a b)];rfl
end Go.Sh
