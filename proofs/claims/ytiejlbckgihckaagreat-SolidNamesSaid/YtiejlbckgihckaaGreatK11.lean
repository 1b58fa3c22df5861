/- Pt1 Pt2 Pt3 Pt4 Pt5 Pt6 Pt7 Qa1 Qa2 Qa3 Rs1 -/
import Derived.Test.YtiejlbckgihckaaGreatK10
namespace Go.Sh
open Go Go.Am
theorem J1 {α β : Type} {f : α→Option (α ⊕ β)} (st : Nat→α) (n : Nat) (b : β) (hs : ∀ k,k < n→f (st k) = some (.inl (st (k + 1)))) (hd : f (st n) = some (.inr b)) : ∀ {k : Nat},k≤n→loop f (st k) = some b:=by
  have key : ∀ m k,n - k = m→k≤n→loop f (st k) = some b:=by
    intro m
    induction m with
    | zero => intro k c a; obtain rfl : k = n := by omega
              exact Kl hd
    | succ m ih=>intro k c a;rw [Y2 (hs k q0)];exact ih (k + 1) q0 q0
  intro k a;exact key _ k rfl a
theorem w64s {k : Nat} {n : Nat} (h : k < n) (a : n≤1000000) : w64 ((k : Int) + 1) = ((k + 1 : Nat) : Int):=by rw [Q9 q0];omega
theorem dlt {k n : Nat} (h : k < n) : decide ((k : Int) < (n : Int)) = true:=Qe q0
theorem dnl {n : Nat} : decide ((n : Int) < (n : Int)) = false:=Qm q0
theorem q78 {α β γ : Type} (src : List α) (_ : src.length≤1000000) (h : α→List γ) (out : List γ) (fin : List γ→β) (f : Int × List γ→Option ((Int × List γ) ⊕ β))
    (hs : ∀ (k : Nat) (a : k < src.length) (o : List γ),o = out ++ (src.take k).flatMap h→f ((k : Int),o) = some (.inl (((k + 1 : Nat) : Int),o ++ h src[k])))
    (hd : ∀ o,f ((src.length : Int),o) = some (.inr (fin o))) : loop f (0,out) = some (fin (out ++ src.flatMap h)):=by
  have e : ∀ k (a : k < src.length),(src.take (k + 1)).flatMap h = (src.take k).flatMap h ++ h src[k]:=fun k a=>by
    rw [List.take_succ_eq_append_getElem a,List.flatMap_append,List.flatMap_cons,List.flatMap_nil,List.append_nil]
  have:=J1 (f:=f) (fun k=>((k : Int),out ++ (src.take k).flatMap h)) src.length (fin (out ++ src.flatMap h)) (fun k a=>by
    rw [hs k a _ rfl,e k a,List.append_assoc]) (by simp only [List.take_length];exact hd _) (Nat.zero_le _)
  simpa using this
theorem qj0 {α β γ : Type} (src : List α) (h : α→γ) (out : List γ) (fin : List γ→β) (f : Int × List γ→Option ((Int × List γ) ⊕ β))
    (hs : ∀ (k : Nat) (a : k < src.length) (o : List γ),o.length = out.length + k→f ((k : Int),o) = some (.inl (((k + 1 : Nat) : Int),o ++ [h src[k]])))
    (hd : ∀ o,f ((src.length : Int),o) = some (.inr (fin o))) : loop f (0,out) = some (fin (out ++ src.map h)):=by
  have e : ∀ k (a : k < src.length),(src.take (k + 1)).map h = (src.take k).map h ++ [h src[k]]:=fun k a=>by
    rw [List.take_succ_eq_append_getElem a,List.map_append,List.map_cons,List.map_nil]
  have:=J1 (f:=f) (fun k=>((k : Int),out ++ (src.take k).map h)) src.length (fin (out ++ src.map h)) (fun k a=>by
    rw [hs k a _ (by simp;omega),e k a,List.append_assoc]) (by simp only [List.take_length];exact hd _) (Nat.zero_le _)
  simpa using this
theorem qhm {γ : Type} (g : γ→γ) (a b : List γ) (m : (a ++ b).length≤1000000) (f : Int × List γ→Option ((Int × List γ) ⊕ (List γ)))
    (hs : ∀ (k : Nat) (o : List γ) (h : k < o.length),o.length = (a ++ b).length→f ((k : Int),o) = some (.inl (((k + 1 : Nat) : Int),o.set k (g o[k]))))
    (hd : ∀ o : List γ,f ((o.length : Int),o) = some (.inr o)) : loop f ((a.length : Int),a ++ b) = some (a ++ b.map g):=by
  have l : a.length + b.length≤1000000:=by simpa using m
  have key:=J1 (f:=f) (fun k=>(((a.length + k : Nat) : Int),a ++ ((b.take k).map g ++ b.drop k))) b.length (a ++ b.map g) (fun k h=>by
    have c : (a ++ ((b.take k).map g ++ b.drop k)).length = (a ++ b).length:=by simp;omega
    have d : a.length + k < (a ++ ((b.take k).map g ++ b.drop k)).length:=by rw [c];simp;omega
    rw [hs (a.length + k) _ d c];have j : ((b.take k).map g).length = k:=by simp;omega
    have e : (a ++ ((b.take k).map g ++ b.drop k))[a.length + k]'d = b[k]:=by
      rw [List.getElem_append_right q0];rw [List.getElem_append_right (by rw [j];omega)];simp [List.length_take,Nat.min_eq_left (Nat.le_of_lt h)]
    rw [e];congr 4;rw [List.set_append,qn q0,List.set_append,qn (by rw [j];omega),j];have z : a.length + k - a.length - k = 0:=by omega
    rw [z,List.take_succ_eq_append_getElem h,List.drop_eq_getElem_cons h,List.set_cons_zero,List.map_append,List.map_cons,List.map_nil,List.append_assoc]
    rfl) (by
    simp only [List.take_length,List.drop_length,List.append_nil];have:=hd (a ++ b.map g)
    simpa using this) (Nat.zero_le _)
  simpa using key
theorem q4s {α γ υ : Type} (l : List α) (c : α→Bool) (n : (k : Nat)→k < l.length→γ) (u : υ) (f : Int→Option (Int ⊕ (υ ⊕ γ)))
    (hs : ∀ (k : Nat) (h : k < l.length),f (k : Int) = some (if c l[k] = true then .inr (.inr (n k h)) else .inl ((k + 1 : Nat) : Int))) (hd : f (l.length : Int) = some (.inr (.inl u))) :
    ((∀ v∈l,c v = false)∧loop f 0 = some (.inl u))∨∃ k,∃ h : k < l.length,c l[k] = true∧(∀ j (d : j < k),c (l[j]'(q0)) = false)∧loop f 0 = some (.inr (n k h)):=by
  by_cases q : ∀ v∈l,c v = false
  · refine .inl ⟨q,?_⟩;exact J1 (f:=f) (fun k=>(k : Int)) l.length _ (fun k b=>by rw [hs k b,q _ (Y3 b)];rfl) hd (Nat.zero_le _)
  · refine .inr ?_
    have : ∃ k,∃ h : k < l.length,c l[k] = true:=by
      refine Classical.byContradiction fun r=>q fun v s=>?_;obtain ⟨k,b,rfl⟩:=List.getElem_of_mem s;cases o : c l[k]
      · rfl
      · exact absurd ⟨k,b,o⟩ r
    have m : ∃ k,(∃ h : k < l.length,c l[k] = true)∧∀ j,j < k→¬ ∃ h : j < l.length,c l[j] = true:=by
      obtain ⟨k,b⟩:=this
      induction k using Nat.strongRecOn with
      | _ k ih=>
        by_cases d : ∃ j,j < k∧∃ h : j < l.length,c l[j] = true
        · obtain ⟨j,p,m⟩:=d;exact ih j p m
        · exact ⟨k,b,fun j p m=>d ⟨j,p,m⟩⟩
    obtain ⟨k,⟨b,o⟩,g⟩:=m
    have a : ∀ j (d : j < k),c (l[j]'(q0)) = false:=fun j d=>by
      cases h : c (l[j]'(q0))
      · rfl
      · exact absurd ⟨q0,h⟩ (g j d)
    refine ⟨k,b,o,a,?_⟩;exact J1 (f:=f) (fun k=>(k : Int)) k _ (fun j d=>by rw [hs j q0,a j d];rfl) (by rw [hs k b,ql o]) (Nat.zero_le _)
theorem qly : ∀ {l a b : List Int},Z2 l a→Z2 l b→a = b:=by
  have key : ∀ (a b : List Int),a.Pairwise (· < ·)→b.Pairwise (· < ·)→(∀ x,x∈a↔x∈b)→a = b:=by
    intro a
    induction a with
    | nil=>intro b _ _ h;cases b with
      | nil=>rfl
      | cons y b=>exact absurd ((h y).2 qc) qc
    | cons x a ih=>
      intro b d hb h
      cases b with
      | nil=>exact absurd ((h x).1 qc) qc
      | cons y b=>
        rw [List.pairwise_cons] at d hb
        have j : x = y:=by
          rcases List.mem_cons.1 ((h x).1 qc) with c | c
          · exact c
          · rcases List.mem_cons.1 ((h y).2 qc) with g | g
            · exact g.symm
            · have:=hb.1 _ c;have:=d.1 _ g;omega
        subst j;rw [ih b d.2 hb.2 fun z=>?_];constructor
        · intro f;rcases List.mem_cons.1 ((h z).1 (by simp [f])) with c | c
          · have:=d.1 _ f;omega
          · exact c
        · intro f;rcases List.mem_cons.1 ((h z).2 (by simp [f])) with c | c
          · have:=hb.1 _ f;omega
          · exact c
  intro l a b d hb;exact key a b d.1 hb.1 fun x=>(d.2 x).trans (hb.2 x).symm
def ltI (a b : Int) : Bool:=decide (a < b)
theorem swoI : Sort.SWO ltI where
  irrefl:=by intro x;simp [ltI]
  trans:=by intro x y z;simp only [ltI,decide_eq_true_eq];omega
  ntrans:=by intro x y z;simp only [ltI,decide_eq_false_iff_not];omega
theorem cmpI : Kt qO ltI (fun _=>True):=by
  intro x y _ _;refine ⟨sg x y,rfl,?_⟩;rw [J4];rfl
theorem qlx (l : List Int) (c : l.length≤1000000) : ∃ ys,U3 l = some ys∧ys.Perm l∧ys.Pairwise (·≤·):=by
  obtain ⟨ys,f,d,g⟩:=qlw cmpI swoI l c (fun _ _=>trivial);refine ⟨ys,by rw [qwx];exact f,d,g.imp ?_⟩;intro a b h;simp only [ltI,decide_eq_false_iff_not] at h;omega
end Go.Sh
namespace Go.Sh
open Go Go.Am
structure CInv (p : List Int) (k k2 i : Nat) (a : List Int) : Prop where
  len : a.length = p.length
  hi : i≤k + k2 - 1
  same : ∀ j (h : j < p.length),k + k2 - 1≤j→a[j]? = some p[j]
  so : Z2 (p.take (k + k2)) (a.take i)
theorem qoz {p : List Int} (hp : p.Pairwise (·≤·)) (hl : p.length≤1000000) {k b i : Nat} {a : List Int} (hk : 0 < k) (h2 : 0 < b) (s : k + b < p.length) (h : CInv p k b i a) :
    ∃ (i' : Nat) (a' : List Int),q1u ((i : Int),(k,p.length - k),(b : Int),a) = some (.inl ((i' : Int),(k,p.length - k),((b + 1 : Nat) : Int),a'))∧CInv p k (b + 1) i' a':=by
  obtain ⟨z,h3,o,h5,u⟩:=h;have hb : decide ((b : Int) < ((p.length - k : Nat) : Int)) = true:=dlt q0
  have r1 : idxW a (k,p.length - k) (b : Int) = some (p[k + b]):=by
    unfold idxW;rw [ql ⟨q0,q0⟩];simp only [Int.toNat_natCast];exact o (k + b) s q0
  have r2 : idxW a (k,p.length - k) (w64 ((b : Int) - 1)) = some (p[k + b - 1]):=by
    rw [Q9 q0];have e : (b : Int) - 1 = ((b - 1 : Nat) : Int):=by omega
    rw [e];unfold idxW;rw [ql ⟨q0,q0⟩];simp only [Int.toNat_natCast];have:=o (k + b - 1) q0 q0;rw [show k + (b - 1) = k + b - 1 by omega];exact this
  have ah : p[k + b - 1]≤p[k + b]:=List.pairwise_iff_getElem.1 hp _ _ q0 s q0
  have f : p[k + b - 1]∈p.take (k + b):=by
    rw [List.mem_take_iff_getElem];exact ⟨k + b - 1,q0,rfl⟩
  have m : p.take (k + (b + 1)) = p.take (k + b) ++ [p[k + b]]:=by rw [← Nat.add_assoc,List.take_succ_eq_append_getElem s]
  have hw : w64 ((b : Int) + 1) = ((b + 1 : Nat) : Int):=w64s (n:=p.length) q0 hl;by_cases t : p[k + b] = p[k + b - 1]
  · refine ⟨i,a,?_,z,q0,fun j q w=>o j q q0,?_⟩
    · have c : (p[k + b] != p[k + b - 1]) = false:=by rw [t];simp
      simp only [q1u,hb,Q1,r1,r2,qm,c,Q3,hw]
    · rw [m];refine ⟨h5,fun x=>?_⟩;rw [u x];constructor
      · intro l;exact List.mem_append.2 (.inl l)
      · intro l;rcases List.mem_append.1 l with h | h
        · exact h
        · simp only [List.mem_singleton] at h;rw [h,t];exact f
  · have c : (p[k + b] != p[k + b - 1]) = true:=by simpa using t
    have d : i < a.length:=by omega
    have r3 : idx a (i : Int) = some a[i]:=K7 d;have r : w64 ((i : Int) + 1) = ((i + 1 : Nat) : Int):=w64s (n:=p.length) q0 hl;refine ⟨i + 1,a.set i p[k + b],?_,by simpa using z,q0,fun j q w=>?_,?_⟩
    · simp only [q1u,hb,Q1,r1,r2,qm,c,r3,hw,r,Int.toNat_natCast]
    · rw [List.getElem?_set_ne q0];exact o j q q0
    · have e : (a.set i p[k + b]).take (i + 1) = a.take i ++ [p[k + b]]:=by
        rw [List.take_succ_eq_append_getElem (by simpa using d)];simp [List.take_set_of_le]
      rw [e,m];refine ⟨?_,fun x=>?_⟩
      · rw [List.pairwise_append];refine ⟨h5,qc,fun x l y hy=>?_⟩;simp only [List.mem_singleton] at hy;subst hy;have g:=(u x).1 l;rw [List.mem_take_iff_getElem] at g;obtain ⟨j,q,rfl⟩:=g
        have : p[j]≤p[k + b - 1]:=by
          by_cases v : j = k + b - 1
          · subst v;exact Int.le_refl _
          · exact List.pairwise_iff_getElem.1 hp _ _ q0 q0 q0
        omega
      · rw [List.mem_append,List.mem_append,u x]
theorem qoy {p : List Int} (hp : p.Pairwise (·≤·)) (t : p.length≤1000000) {k : Nat} (n : 0 < k) (v : k < p.length) (x : Z2 (p.take (k + 1)) (p.take k)) :
    ∃ i : Nat,∃ a : List Int,loop q1u ((k : Int),(k,p.length - k),1,p) = some ((i : Int),a)∧a.length = p.length∧i≤p.length∧Z2 p (a.take i):=by
  have h:=Zu (f:=q1u) (mk:=fun d (c : Nat × List Int)=>((c.1 : Int),(k,p.length - k),((d : Nat) : Int),c.2)) (p.length - k) (fun d c=>0 < d∧CInv p k d c.1 c.2)
    (fun b=>∃ i : Nat,∃ a : List Int,b = ((i : Int),a)∧a.length = p.length∧i≤p.length∧Z2 p (a.take i))
    (fun d c s g=>by
      obtain ⟨r,a',y,q⟩:=qoz hp t n g.1 q0 g.2
      exact .inl ⟨(r,a'),y,q0,q⟩)
    (fun c g=>by
      obtain ⟨l,o,h3,z,u⟩:=g;refine ⟨((c.1 : Int),c.2),?_,c.1,c.2,rfl,o,q0,?_⟩
      · simp only [q1u,dnl,Q3]
      · rwa [List.take_of_length_le q0] at u)
    (k0:=1) (c0:=(k,p)) q0 ⟨q0,rfl,qc,fun j w _=>by simp [w],x⟩
  obtain ⟨b,hb,i,a,rfl,m⟩:=h;exact ⟨i,a,hb,m⟩
theorem qgx {p : List Int} (hp : p.Pairwise (·≤·)) (y : p.length≤1000000) :
    ∃ w a,q10 p = some ((0,w),a)∧a.length = p.length∧w≤p.length∧Z2 p (a.take w):=by
  unfold q10;by_cases hs : p.length < 2
  · rw [Qe (by omega : (p.length : Int) < 2),Q1];refine ⟨p.length,p,rfl,rfl,Nat.le_refl _,?_⟩;rw [List.take_length];refine ⟨?_,fun x=>Iff.rfl⟩
    match p,hs with
    | [],_=>simp
    | [x],_=>simp
  rw [Qm (by omega : ¬ (p.length : Int) < 2),Q3]
  have c : ∀ k,k≤p.length→(∀ j (o : j < k),0 < j→∀ h : j < p.length,p[j]≠p[j - 1])→Z2 (p.take k) (p.take k):=by
    intro k n q;refine ⟨?_,fun x=>Iff.rfl⟩;rw [List.pairwise_iff_getElem];intro i j hi o ab;simp only [List.length_take] at hi o;simp only [List.getElem_take];have g : p[j - 1]≤p[j]:=List.pairwise_iff_getElem.1 hp _ _ q0 q0 q0;have r:=q j q0 q0 q0
    have h3 : p[i]≤p[j - 1]:=by
      by_cases e : i = j - 1
      · subst e;exact Int.le_refl _
      · exact List.pairwise_iff_getElem.1 hp _ _ q0 q0 q0
    omega
  have b : ∀ k,0 < k→∀ h : k < p.length,p[k]≠p[k - 1]→Jk p (k : Int) = some (.inl ((k + 1 : Nat) : Int)):=by
    intro k m h q;have u : idx p (w64 ((k : Int) - 1)) = some (p[k - 1]):=by rw [Q9 q0];exact Jd q0 q0
    have hb : (p[k] == p[k - 1]) = false:=by simpa using q
    simp only [Jk,dlt h,Q1,K7 h,u,qm,hb,Q3,w64s h y]
  by_cases v : ∀ j,0 < j→∀ h : j < p.length,p[j]≠p[j - 1]
  · have g : loop (Jk p) 1 = some (.inl ()):=by
      exact J1 (f:=Jk p) (fun k=>((k + 1 : Nat) : Int)) (p.length - 1) _ (fun k n=>by
        exact b (k + 1) q0 q0 (v (k + 1) q0 q0)) (by
        show Jk p (((p.length - 1) + 1 : Nat) : Int) = _;rw [show p.length - 1 + 1 = p.length by omega]
        simp only [Jk,dnl,Q3]) (Nat.zero_le _)
    rw [g];refine ⟨p.length,p,rfl,rfl,Nat.le_refl _,?_⟩;have:=c p.length (Nat.le_refl _) fun j _ m h=>v j m h;rw [List.take_length] at this ⊢;exact this
  · have r : ∃ k,(0 < k∧∃ h : k < p.length,p[k] = p[k - 1])∧∀ j,j < k→¬ (0 < j∧∃ h : j < p.length,p[j] = p[j - 1]):=by
      have : ∃ k,0 < k∧∃ h : k < p.length,p[k] = p[k - 1]:=by
        refine Classical.byContradiction fun z=>v fun j m h l=>z ⟨j,m,h,l⟩
      obtain ⟨k,n⟩:=this
      induction k using Nat.strongRecOn with
      | _ k ih=>
        by_cases o : ∃ j,j < k∧(0 < j∧∃ h : j < p.length,p[j] = p[j - 1])
        · obtain ⟨j,g,r⟩:=o;exact ih j g r
        · exact ⟨k,n,fun j g r=>o ⟨j,g,r⟩⟩
    obtain ⟨k,⟨m,n,l⟩,d⟩:=r;have t : Z2 (p.take k) (p.take k):=c k q0 fun j o m h l=>d j o ⟨m,h,l⟩
    have s : Z2 (p.take (k + 1)) (p.take k):=by
      refine ⟨t.1,fun x=>?_⟩;rw [List.take_succ_eq_append_getElem n,List.mem_append];refine ⟨.inl,fun h=>h.elim id fun h=>?_⟩;simp only [List.mem_singleton] at h;rw [h,l,List.mem_take_iff_getElem];exact ⟨k - 1,q0,rfl⟩
    obtain ⟨i,a,e1,e2,e3,e4⟩:=qoy hp y m n s;have s1 : sub2 p.length (k : Int) (p.length : Int) = some (k,p.length - k):=by unfold sub2;rw [ql ⟨q0,q0,q0⟩];simp
    have s2 : sub2 a.length (i : Int) (a.length : Int) = some (i,a.length - i):=by unfold sub2;rw [ql ⟨q0,q0,q0⟩];simp
    have s3 : sub2 a.length 0 (i : Int) = some (0,i):=by unfold sub2;rw [ql ⟨q0,q0,q0⟩];simp
    have u : idx p (w64 ((k : Int) - 1)) = some (p[k - 1]):=by rw [Q9 q0];exact Jd q0 q0
    have g : loop (Jk p) 1 = some (.inr ((0,i),clrw a (i,a.length - i) 0)):=by
      exact J1 (f:=Jk p) (fun k=>((k + 1 : Nat) : Int)) (k - 1) _ (fun j o=>by
        exact b (j + 1) q0 q0 fun l=>d (j + 1) q0 ⟨q0,q0,l⟩) (by
        show Jk p (((k - 1) + 1 : Nat) : Int) = _;rw [show k - 1 + 1 = k by omega];have hb : (p[k] == p[k - 1]) = true:=by simpa using l
        simp only [Jk,dlt n,Q1,K7 n,u,qm,hb,s1,e1,s2,s3]) (Nat.zero_le _)
    rw [g];refine ⟨i,clrw a (i,a.length - i) 0,rfl,by rw [qgn (by simp;omega)];exact e2,e3,?_⟩
    have : (clrw a (i,a.length - i) 0).take i = a.take i:=by
      unfold clrw splice;rw [List.append_assoc,List.take_append_of_le_length (by simp;omega)];simp [List.take_take]
    rw [this];exact e4
end Go.Sh
namespace Go.Sh
open Go Go.Am
theorem qd2 {α : Type} [DecidableEq α] (e : α→α→Bool) (d : ∀ v w,e v w = decide (v = w)) (p q : List α) (r : p.length≤1000000) (f : Int→Option (Int ⊕ (Unit ⊕ Bool)))
    (l : ∀ k,f k = cond (decide (k < (p.length : Int))) ((idx p k).bind fun v=>(idx q k).bind fun w=>cond (!(e v w)) (some (.inr (.inr false))) (some (.inl (w64 (k + 1))))) (some (.inr (.inl ())))) :
    cond ((p.length : Int) != (q.length : Int)) (some false) ((loop f 0).bind fun m=>(match m with | .inl _=>some true | .inr x=>some x)) = some (decide (p = q)):=by
  by_cases a : p.length = q.length
  · have : ((p.length : Int) != (q.length : Int)) = false:=by rw [a];simp
    rw [this,Q3]
    let c : Nat→Bool:=fun k=>if h : k < p.length then !(e p[k] (q[k]'(q0))) else false
    have hs : ∀ (k : Nat) (h : k < (List.range p.length).length),f (k : Int) = some (if c (List.range p.length)[k] = true then .inr (.inr false) else .inl ((k + 1 : Nat) : Int)):=by
      intro k h;have h : k < p.length:=by simpa using h
      rw [l];simp only [dlt h,Q1,K7 h,K7 (xs:=q) (k:=k) q0,qm,List.getElem_range,c,dif_pos h,w64s h r];cases e p[k] (q[k]'(q0)) <;> simp
    have hd : f ((List.range p.length).length : Int) = some (.inr (.inl ())):=by rw [l];simp []
    rcases q4s (List.range p.length) c (fun _ _=>false) () f hs hd with ⟨o,b⟩ | ⟨k,s,g,_,b⟩
    · rw [b]
      have : p = q:=by
        refine List.ext_getElem a fun k j t=>?_;have:=o k (by simpa using j);simp only [c,dif_pos j,d,Bool.not_eq_false',decide_eq_true_eq] at this;exact this
      simp [this]
    · rw [b];have n : k < p.length:=by simpa using s
      have : p≠q:=by
        intro h;simp only [List.getElem_range,c,d,h] at g;simp at g
      simp [this]
  · have : ((p.length : Int) != (q.length : Int)) = true:=by simpa using (fun h : (p.length : Int) = q.length=>a q0)
    rw [this,Q1];have : p≠q:=fun h=>a (by rw [h]);simp [this]
theorem qhf (p q : List qi) (a : p.length≤1000000) : q8i p q = some (decide (p = q)):=
  qd2 (fun v w=>((v.Lo == w.Lo) && ((v.Hi == w.Hi) && true))) (fun v w=>by cases v;cases w;rw [Bool.eq_iff_iff];simp) p q a (qbb p q) (fun _=>rfl)
theorem qd3 (p q : List qk) (a : p.length≤1000000) : q5s p q = some (decide (p = q)):=
  qd2 (fun v w=>((v.X0 == w.X0) && ((v.Y0 == w.Y0) && ((v.X1 == w.X1) && ((v.Y1 == w.Y1) && true))))) (fun v w=>by cases v;cases w;rw [Bool.eq_iff_iff];simp) p q a (qb9 p q) (fun _=>rfl)
theorem sameBox (p q : List qg) (a : p.length≤1000000) : q86 p q = some (decide (p = q)):=
  qd2 (fun v w=>((v.Lo.X == w.Lo.X) && ((v.Lo.Y == w.Lo.Y) && ((v.Lo.Z == w.Lo.Z) && ((v.Hi.X == w.Hi.X) && ((v.Hi.Y == w.Hi.Y) && ((v.Hi.Z == w.Hi.Z) && true))))))) (fun v w=>by rcases v with ⟨⟨_,_,_⟩,⟨_,_,_⟩⟩;rcases w with ⟨⟨_,_,_⟩,⟨_,_,_⟩⟩;rw [Bool.eq_iff_iff];simp [and_assoc]) p q a (qay p q) (fun _=>rfl)
structure Mg (σ β : Type) where
  done : List β
  sec : List σ
  lo : Int
  hi : Int
section
variable {σ β : Type} [DecidableEq σ] (put : Int→Int→σ→β)
def Mg.flat (s : Mg σ β) : List β:=s.done ++ s.sec.map (put s.lo s.hi)
def addM (s : Mg σ β) (a b : Int) (c : List σ) : Mg σ β:=if c≠[]∧c = s.sec∧s.hi = a then ⟨s.done,s.sec,s.lo,b⟩ else ⟨s.flat put,c,a,b⟩
def K0 : Mg σ β:=⟨[],[],0,0⟩
def K2 (s0 : Mg σ β) (steps : List (Int × Int × List σ)) : Mg σ β:=steps.foldl (fun s t=>addM put s t.1 t.2.1 t.2.2) s0
theorem qdb {s0 : Mg σ β} {steps : List (Int × Int × List σ)} {i : Nat} (h : i < steps.length) : K2 put s0 (steps.take (i + 1)) = addM put (K2 put s0 (steps.take i)) steps[i].1 steps[i].2.1 steps[i].2.2:=by
  unfold K2;rw [List.take_succ_eq_append_getElem h,List.foldl_append];rfl
theorem qn5 (s : Mg σ β) (a b : Int) (c : List σ) : ((addM put s a b c).flat put).length≤(s.flat put).length + c.length:=by
  unfold addM;split
  · simp [Mg.flat]
  · simp [Mg.flat];omega
theorem qda {s0 : Mg σ β} {M : Nat} : ∀ {steps : List (Int × Int × List σ)},(∀ t∈steps,t.2.2.length≤M)→((K2 put s0 steps).flat put).length≤(s0.flat put).length + steps.length * M:=by
  intro steps
  induction steps generalizing s0 with
  | nil=>intro _;simp [K2]
  | cons t r ih=>
    intro h;have d:=ih (s0:=addM put s0 t.1 t.2.1 t.2.2) fun u b=>h u (by simp [b]);have c:=qn5 put s0 t.1 t.2.1 t.2.2;have f:=h t qc;have a : K2 put s0 (t::r) = K2 put (addM put s0 t.1 t.2.1 t.2.2) r:=rfl;rw [a];simp only [List.length_cons,Nat.succ_mul];omega
end
section
variable {σ : Type}
def Yv (cuts : List Int) (sec : Int→List σ) : List (Int × Int × List σ):=(cuts.zip cuts.tail).map fun c=>(c.1,c.2,sec c.1)
theorem qbq (a : List Int) (sec : Int→List σ) : (Yv a sec).length = a.length - 1:=by simp [Yv]
theorem qfb {a : List Int} {sec : Int→List σ} {i : Nat} (h : i < (Yv a sec).length) (b : i + 1 < a.length) : (Yv a sec)[i] = (a[i],a[i + 1],sec a[i]):=by
  simp [Yv]
theorem qzv {a : List Int} {sec : Int→List σ} {M : Nat} (h : ∀ x,(sec x).length≤M) : ∀ t∈Yv a sec,t.2.2.length≤M:=by
  intro t b;simp only [Yv,List.mem_map] at b;obtain ⟨c,_,rfl⟩:=b;exact h _
end
theorem q79 {σ β : Type} [DecidableEq σ] (put : Int→Int→σ→β) (s : Mg σ β) (a b : Int) (c : List σ) : (c≠[]∧c = s.sec∧s.hi = a∧addM put s a b c = ⟨s.done,s.sec,s.lo,b⟩)∨(¬ (c≠[]∧c = s.sec∧s.hi = a)∧addM put s a b c = ⟨s.flat put,c,a,b⟩):=by
  unfold addM;split
  · rename_i h;exact .inl ⟨h.1,h.2.1,h.2.2,rfl⟩
  · rename_i h;exact .inr ⟨h,rfl⟩
def putR (a b : Int) (t : qi) : qk:={X0:=a,Y0:=t.Lo,X1:=b,Y1:=t.Hi}
theorem qga (s : Mg qi qk) (a b : Int) (c : List qi) (z : (s.flat putR).length + c.length≤1000000) :
    q5j (s.flat putR) s.sec (s.done.length : Int) s.hi a b c = some ((addM putR s a b c).sec,((addM putR s a b c).done.length : Int),(addM putR s a b c).hi,(addM putR s a b c).flat putR):=by
  have d : s.sec.length≤1000000:=by have : (s.flat putR).length = s.done.length + s.sec.length:=(by simp [Mg.flat]);omega
  unfold q5j;rcases q79 putR s a b c with ⟨m,r,y,p⟩ | ⟨m,p⟩
  · have hb : decide ((c.length : Int) > 0) = true:=Qe (by have:=List.length_pos_iff.2 m;omega);have t : (s.hi == a) = true:=by simpa using y
    rw [r] at hb;rw [p,r];simp only [hb,Q1,t,qm,qhf _ _ d,decide_true]
    have:=qhm (fun v : qk=>({X0:=v.X0,Y0:=v.Y0,X1:=b,Y1:=v.Y1} : qk)) s.done (s.sec.map (putR s.lo s.hi)) (by have : (s.done ++ s.sec.map (putR s.lo s.hi)).length = (s.flat putR).length:=rfl;omega) (q5k b) (fun k o f w=>by
      have l : (s.done ++ s.sec.map (putR s.lo s.hi)).length = (s.flat putR).length:=rfl
      simp only [q5k,dlt f,Q1,K7 f,qm,w64s f q0,Int.toNat_natCast]) (fun o=>by simp only [q5k,dnl,Q3])
    rw [show s.flat putR = s.done ++ s.sec.map (putR s.lo s.hi) from rfl,this];simp only [qm,Mg.flat,List.map_map];rfl
  · rw [p]
    have x : ((cond (decide ((c.length : Int) > 0)) (some (s.hi == a)) (some false)).bind fun g=>(cond g ((q8i s.sec c).bind fun j=>some j) (some false))) = some false:=by
      by_cases l : c = []
      · subst l;simp
      · have hb : decide ((c.length : Int) > 0) = true:=Qe (by have:=List.length_pos_iff.2 l;omega);simp only [hb,Q1,qm,qhf _ _ d];by_cases q : s.hi = a
        · have u : s.sec≠c:=fun h=>m ⟨l,h.symm,q⟩;simp [q,u]
        · have : (s.hi == a) = false:=by simpa using q
          simp [this]
    have n:=qj0 c (putR a b) (s.flat putR) (fun o=>(c,((s.flat putR).length : Int),b,o)) (q5l c a b (s.flat putR)) (fun k f o w=>by
      simp only [q5l,dlt f,Q1,K7 f,qm,w64s f q0];rw [Z4 (by simp;omega)]
      rfl) (fun o=>by simp only [q5l,dnl,Q3])
    rw [← Option.bind_assoc,x];simp only [qm,Q3,n];simp [Mg.flat]
end Go.Sh
namespace Go.Sh
open Go Go.Am
def vR (r : qk) : Prop:=r.X0 < r.X1∧r.Y0 < r.Y1∧-1000000≤r.X0∧r.X0≤1000000∧-1000000≤r.X1∧r.X1≤1000000∧-1000000≤r.Y0∧r.Y0≤1000000∧-1000000≤r.Y1∧r.Y1≤1000000
instance (r : qk) : Decidable (vR r):=by unfold vR;infer_instance
theorem qps (x : Int) : q2x x = some (decide (-1000000≤x∧x≤1000000)):=by
  unfold q2x;by_cases h : x ≥ -1000000 <;> by_cases a : x≤1000000 <;> simp [h,a] <;> omega
theorem qmr (r : qk) : q5o r = some (decide (vR r)):=by
  unfold q5o;simp only [qps,qp0,qm,vR];by_cases d : r.X0 < r.X1 <;> by_cases b : r.Y0 < r.Y1 <;> by_cases g : -1000000≤r.X0∧r.X0≤1000000 <;> by_cases c : -1000000≤r.X1∧r.X1≤1000000 <;> by_cases a : -1000000≤r.Y0∧r.Y0≤1000000 <;> by_cases f : -1000000≤r.Y1∧r.Y1≤1000000 <;> simp [d,b,g,c,a,f] <;> omega
def covR (x : Int) (r : qk) : Bool:=decide (r.X0≤x) && decide (x < r.X1)
def ysp (r : qk) : qi:={Lo:=r.Y0,Hi:=r.Y1}
def covS (l : List qk) (x : Int) : List qi:=l.flatMap fun r=>if covR x r = true then [ysp r] else []
def hasR (l : List qk) (x y : Int) : Prop:=∃ r∈l,r.X0≤x∧x < r.X1∧r.Y0≤y∧y < r.Y1
theorem qe4 {l : List qk} {x : Int} {t : qi} : t∈covS l x↔∃ r∈l,covR x r = true∧t = ysp r:=by
  unfold covS;rw [List.mem_flatMap];constructor
  · rintro ⟨r,b,h⟩;split at h
    · rename_i a;simp only [List.mem_singleton] at h;exact ⟨r,b,a,h⟩
    · cases h
  · rintro ⟨r,b,a,rfl⟩;exact ⟨r,b,by simp [a]⟩
theorem q2p {l : List qk} {x y : Int} : has (covS l x) y↔hasR l x y:=by
  unfold has hasR;constructor
  · rintro ⟨t,f,d,b⟩;obtain ⟨r,c,a,rfl⟩:=qe4.1 f;simp only [covR,Bool.and_eq_true,decide_eq_true_eq] at a;exact ⟨r,c,a.1,a.2,d,b⟩
  · rintro ⟨r,c,d,b,h,g⟩;exact ⟨ysp r,qe4.2 ⟨r,c,by simp [covR,d,b],rfl⟩,h,g⟩
theorem q2f (l : List qk) (x : Int) : (covS l x).length≤l.length:=by
  unfold covS
  induction l with
  | nil=>simp
  | cons r l ih=>
    simp only [List.flatMap_cons,List.length_append,List.length_cons];have : (if covR x r = true then [ysp r] else []).length≤1:=by split <;> simp
    omega
theorem qh6 {l : List qk} (h : ∀ r∈l,vR r) (x : Int) : ∀ t∈covS l x,vld t:=by
  intro t b;obtain ⟨r,c,_,rfl⟩:=qe4.1 b;obtain ⟨_,a,_,_,_,_,f,_,_,d⟩:=h r c;exact ⟨a,f,d⟩
def xsOf (l : List qk) : List Int:=l.flatMap fun r=>[r.X0,r.X1]
theorem q29 (l : List qk) : (xsOf l).length = 2 * l.length:=by
  unfold xsOf;induction l with
  | nil=>rfl
  | cons r l ih=>simp only [List.flatMap_cons,List.length_append,List.length_cons,List.length_nil];omega
noncomputable def Qy (l : List Int) : List Int:=(q5e l).getD []
theorem q16 {l : List Int} (c : l.length≤1000000) : q5e l = some (Qy l)∧Z2 l (Qy l)∧(Qy l).length≤l.length:=by
  obtain ⟨t,a,d,b⟩:=qlz l c;unfold Qy;rw [a];exact ⟨rfl,d,b⟩
noncomputable def secJ (kind : Int) (p q : List qk) (x : Int) : List qi:=Je kind (covS p x) (covS q x)
theorem qkz (kind : Int) {p q : List qk} (h : p.length + q.length≤100000) (x : Int) : (secJ kind p q x).length≤2 * (p.length + q.length):=by
  have a:=q2f p x;have b:=q2f q x;have:=(q7r kind (covS p x) (covS q x) q0 q0).2.len;unfold secJ;omega
noncomputable def mrg (kind : Int) (p q : List qk) : Mg qi qk:=K2 putR K0 (Yv (Qy (xsOf p ++ xsOf q)) (secJ kind p q))
noncomputable def mrgR (kind : Int) (p q : List qk) : List qk:=(mrg kind p q).flat putR
theorem qh7 {p q : List qk} (h : p.length + q.length≤490) : q5e (xsOf p ++ xsOf q) = some (Qy (xsOf p ++ xsOf q))∧Z2 (xsOf p ++ xsOf q) (Qy (xsOf p ++ xsOf q))∧(Qy (xsOf p ++ xsOf q)).length≤2 * (p.length + q.length):=by
  have f:=q29 p;have d:=q29 q;obtain ⟨a,b,c⟩:=q16 (l:=xsOf p ++ xsOf q) (by simp;omega);exact ⟨a,b,by simp at c;omega⟩
theorem qrm (kind : Int) {p q : List qk} (h : p.length + q.length≤490) (i : Nat) :
    ((K2 putR K0 ((Yv (Qy (xsOf p ++ xsOf q)) (secJ kind p q)).take i)).flat putR).length≤980 * 980:=by
  have d:=qda putR (s0:=K0) (M:=980) (steps:=(Yv (Qy (xsOf p ++ xsOf q)) (secJ kind p q)).take i) (fun t b=>by
    have:=qzv (M:=2 * (p.length + q.length)) (fun x=>qkz kind q0 x) t (List.mem_of_mem_take b)
    omega)
  have a : ((Yv (Qy (xsOf p ++ xsOf q)) (secJ kind p q)).take i).length≤980:=by
    have:=(qh7 h).2.2;rw [List.length_take,qbq];omega
  have f : (K0.flat putR : List qk).length = 0:=rfl;have c : ((Yv (Qy (xsOf p ++ xsOf q)) (secJ kind p q)).take i).length * 980≤980 * 980:=Nat.mul_le_mul_right _ a;omega
theorem qra (l : List qk) (hl : l.length≤400) :
    (((idx [l] 0).bind fun g=>(loop (J3 g) (0,[])).bind fun p=>some p).bind fun f=>(U3 f).bind fun c=>(Qu c.length f.length).bind fun _=>(q10 c).bind fun b=>(Qu b.2.length c.length).bind fun _=>(q13 b.2.length b.1).bind fun _=>some ((b.2.drop b.1.1).take b.1.2)) = some (Qy (xsOf l)):=by
  have v : idx [l] 0 = some l:=rfl
  have n : loop (J3 l) (0,[]) = some (xsOf l):=by
    have:=q78 l q0 (fun r=>[r.X0,r.X1]) [] (fun o=>o) (J3 l) (fun k h o u=>by
      have y : o.length = 2 * k:=by rw [u,List.nil_append];have:=q29 (l.take k);rw [List.length_take,Nat.min_eq_left q0] at this;exact this
      simp only [J3,dlt h,Q1,K7 h,qm,w64s h q0];rw [Z4 (by simp;omega)]
      rfl) (fun o=>by simp only [J3,dnl,Q3])
    rw [List.nil_append] at this;exact this
  have z:=q29 l;obtain ⟨ys,q,m,t⟩:=qlx (xsOf l) q0;have j : ys.length = (xsOf l).length:=m.length_eq;obtain ⟨w,a,c1,c2,c3,c4⟩:=qgx t q0;obtain ⟨_,s,_⟩:=q16 (l:=xsOf l) q0
  have d : a.take w = Qy (xsOf l):=by
    refine qly (l:=xsOf l) ⟨c4.1,fun x=>?_⟩ s;rw [c4.2 x];exact m.mem_iff
  simp only [v,qm,n,q,Qu,j,if_true,c1,c2,q13];rw [ql q0];simp only [qm,List.drop_zero,d]
theorem qdy (l : List qk) (g : l.length≤400) (x : Int) : loop (Uh l x) (0,[]) = some (covS l x):=by
  have:=q78 l q0 (fun r=>if covR x r = true then [ysp r] else []) [] (fun o=>o) (Uh l x) (fun k a o d=>by
    have f : o.length≤k:=by rw [d,List.nil_append];have:=q2f (l.take k) x;rw [List.length_take,Nat.min_eq_left q0] at this;exact this
    simp only [Uh,dlt a,Q1,K7 a,qm,w64s a q0];by_cases b : l[k].X0≤x
    · by_cases c : x < l[k].X1
      · simp only [b,c,decide_true,Q1,qm,covR,Bool.and_self,if_true];rw [Z4 (by simp;omega)];rfl
      · simp only [b,c,decide_true,decide_false,Q1,Q3,qm,covR,Bool.and_false,if_false,Bool.false_eq_true,List.append_nil]
    · simp only [b,decide_false,Q3,qm,covR,Bool.false_and,if_false,Bool.false_eq_true,List.append_nil]) (fun o=>by simp only [Uh,dnl,Q3])
  rw [List.nil_append] at this;exact this
theorem qiz (l : List qk) (t : l.length≤400) (x : ∀ r∈l,vR r) : q5n l = some (if 400 < (mrgR 2 l []).length then ([],4) else (mrgR 2 l [],0)):=by
  unfold q5n;rw [qra l t];simp only [qm];have c : Qy (xsOf l ++ xsOf []) = Qy (xsOf l):=by simp [xsOf]
  obtain ⟨_,m,a⟩:=qh7 (p:=l) (q:=[]) (by simp;omega);have d:=fun i=>qrm 2 (p:=l) (q:=[]) (by simp;omega) i;rw [c] at m a;have a : (Qy (xsOf l)).length≤2 * l.length:=by simpa using a
  have g : loop (q2y (Qy (xsOf l)) l) (1,[],0,0,[]) = some ((mrg 2 l []).sec,((mrg 2 l []).done.length : Int),(mrg 2 l []).hi,mrgR 2 l []):=by
    unfold mrgR mrg;rw [c] at d ⊢;generalize j : Yv (Qy (xsOf l)) (secJ 2 l []) = steps at d ⊢;have aa : steps.length = (Qy (xsOf l)).length - 1:=by rw [← j];exact qbq _ _
    have h : K2 putR K0 (steps.take steps.length) = K2 putR K0 steps:=by rw [List.take_length]
    have key:=J1 (f:=q2y (Qy (xsOf l)) l) (fun k=>(((k + 1 : Nat) : Int),(K2 putR K0 (steps.take k)).sec,((K2 putR K0 (steps.take k)).done.length : Int),(K2 putR K0 (steps.take k)).hi,(K2 putR K0 (steps.take k)).flat putR))
      steps.length ((K2 putR K0 steps).sec,((K2 putR K0 steps).done.length : Int),(K2 putR K0 steps).hi,(K2 putR K0 steps).flat putR) (fun k v=>by
        have b : k + 1 < (Qy (xsOf l)).length:=by omega
        have w : steps[k] = ((Qy (xsOf l))[k],(Qy (xsOf l))[k + 1],secJ 2 l [] (Qy (xsOf l))[k]):=by
          subst j;exact qfb v b
        have y : idx (Qy (xsOf l)) (w64 (((k + 1 : Nat) : Int) - 1)) = some (Qy (xsOf l))[k]:=by rw [Q9 q0];exact Jd q0 q0
        have z:=q2f l (Qy (xsOf l))[k]
        have o : q71 (covS l (Qy (xsOf l))[k]) = some (secJ 2 l [] (Qy (xsOf l))[k],0):=by
          rw [qrb];unfold qdz;rw [qn q0,ql (qh6 x _)];rfl
        have n:=qkz 2 (p:=l) (q:=[]) (by simp;omega) (Qy (xsOf l))[k];have u:=d k;have hb:=qga (K2 putR K0 (steps.take k)) (Qy (xsOf l))[k] (Qy (xsOf l))[k + 1] (secJ 2 l [] (Qy (xsOf l))[k]) (by simp at n;omega);rw [qdb putR v,w];simp only [q2y,dlt b,Q1,y,K7 b,qm,show idx [l] 0 = some l from rfl,qdy l t,o,hb]
        rw [w64s b q0]) (by
        rw [h];by_cases h0 : (Qy (xsOf l)).length = 0
        · have : decide (((steps.length + 1 : Nat) : Int) < ((Qy (xsOf l)).length : Int)) = false:=Qm q0;simp only [q2y,this,Q3]
        · have : decide (((steps.length + 1 : Nat) : Int) < ((Qy (xsOf l)).length : Int)) = false:=Qm q0
          simp only [q2y,this,Q3]) (Nat.zero_le _)
    exact key
  rw [g];simp only [qm];by_cases s : 400 < (mrgR 2 l []).length
  · rw [Qe (by omega : ((mrgR 2 l []).length : Int) > 400),ql s];rfl
  · rw [Qm (by omega : ¬ ((mrgR 2 l []).length : Int) > 400),qn s];rfl
end Go.Sh
namespace Go.Sh
open Go Go.Am
theorem qii {kind : Int} {a b : Prop} (h : Y5 kind a b) : a∨b:=by
  rcases h with ⟨_,h,_⟩ | ⟨_,h⟩ | ⟨_,_,h,_⟩
  · exact .inl h
  · exact h
  · exact .inl h
end Go.Sh
namespace Go.Sh
open Go Go.Am
noncomputable def Yd (l : List qk) : Int:=if 400 < l.length then 4 else if ∀ r∈l,vR r then (if mrgR 2 l [] = l then 0 else 8) else 8
theorem qop {l : List qk} (h : Yd l = 0) : l.length≤400∧(∀ r∈l,vR r)∧mrgR 2 l [] = l:=by
  unfold Yd at h;split at h
  · omega
  · split at h
    · split at h
      · rename_i a b c;exact ⟨q0,b,c⟩
      · omega
    · omega
theorem qu5 (l : List qk) (j : l.length≤1000000) : q8g l (fun a=>q2v a) = some (decide (¬ ∀ r∈l,vR r)):=by
  have hs : ∀ (k : Nat) (h : k < l.length),q3t l (fun a=>q2v a) (k : Int) = some (if (fun r=>!decide (vR r)) l[k] = true then .inr (.inr (k : Int)) else .inl ((k + 1 : Nat) : Int)):=by
    intro k h;simp only [q3t,dlt h,Q1,K7 h,qm,w64s h j,q2v,qmr];by_cases m : vR l[k] <;> simp [m]
  have hd : q3t l (fun a=>q2v a) (l.length : Int) = some (.inr (.inl ())):=by simp only [q3t,dnl,Q3]
  unfold q8g qbe;rcases q4s l (fun r=>!decide (vR r)) (fun k _=>(k : Int)) () _ hs hd with ⟨g,b⟩ | ⟨k,f,c,_,b⟩
  · rw [b];have : ∀ r∈l,vR r:=fun r d=>by simpa using g r d
    simp [];omega
  · rw [b];have : ¬ ∀ r∈l,vR r:=fun h=>by simp [h _ (Y3 f)] at c
    simp only [qm];rw [Qe this,Qe q0]
theorem qtx (l : List qk) : q5g l = some (Yd l):=by
  unfold q5g Yd;by_cases c : 400 < l.length
  · rw [Qe (by omega : (l.length : Int) > 400),Q1,ql c]
  rw [Qm (by omega : ¬ (l.length : Int) > 400),Q3,qn c,qu5 l q0,qm];by_cases a : ∀ r∈l,vR r
  · rw [Qm (fun h=>h a),Q3,qiz l q0 a,ql a,qm];by_cases b : 400 < (mrgR 2 l []).length
    · have d : mrgR 2 l []≠l:=fun h=>by rw [h] at b;exact c b
      rw [ql b,qn d];rfl
    · rw [qn b];simp only [qd3 (mrgR 2 l []) l q0];by_cases f : mrgR 2 l [] = l <;> simp [f]
  · rw [Qe a,Q1,qn a]
def putB (a b : Int) (r : qk) : qg:={Lo:={X:=r.X0,Y:=r.Y0,Z:=a},Hi:={X:=r.X1,Y:=r.Y1,Z:=b}}
def qhq (z : Int) : Prop:=-1000000≤z∧z≤1000000
instance (z : Int) : Decidable (qhq z):=by unfold qhq;infer_instance
end Go.Sh
namespace Go.Sh
open Go Go.Am
def covB (z : Int) (b : qg) : Bool:=decide (b.Lo.Z≤z) && decide (z < b.Hi.Z)
def U2 (b : qg) : qk:={X0:=b.Lo.X,Y0:=b.Lo.Y,X1:=b.Hi.X,Y1:=b.Hi.Y}
def atB (l : List qg) (z : Int) : List qk:=l.flatMap fun b=>if covB z b = true then [U2 b] else []
theorem q4i (l : List qg) (x : Int) : (atB l x).length≤l.length:=by
  unfold atB
  induction l with
  | nil=>simp
  | cons r l ih=>
    simp only [List.flatMap_cons,List.length_append,List.length_cons];have : (if covB x r = true then [U2 r] else []).length≤1:=by split <;> simp
    omega
def zsOf (l : List qg) : List Int:=l.flatMap fun b=>[b.Lo.Z,b.Hi.Z]
theorem q3a (l : List qg) : (zsOf l).length = 2 * l.length:=by
  unfold zsOf;induction l with
  | nil=>rfl
  | cons r l ih=>simp only [List.flatMap_cons,List.length_append,List.length_cons,List.length_nil];omega
structure q111 (kind : Int) (p q : List qg) (z : Int) : Prop where
  n : (atB p z).length + (atB q z).length≤490
  m : (mrgR kind (atB p z) (atB q z)).length≤400
  mp : (mrgR 2 (atB p z) []).length≤400
  mq : (mrgR 2 (atB q z) []).length≤400
noncomputable def secB (kind : Int) (p q : List qg) (z : Int) : List qk:=mrgR kind (atB p z) (atB q z)
noncomputable def mrgB (kind : Int) (p q : List qg) : List qg:=(K2 putB K0 (Yv (Qy (zsOf p ++ zsOf q)) (secB kind p q))).flat putB
section
variable {σ β : Type} (put : Int→Int→σ→β)
def Alike (s t : Mg σ β) : Prop:=s = t∨(s.flat put = t.flat put∧s.sec = []∧t.sec = [])
theorem Alike.flat {s t : Mg σ β} (h : Alike put s t) : s.flat put = t.flat put:=by
  rcases h with rfl | h
  · rfl
  · exact h.1
end
section
variable {σ β : Type} [DecidableEq σ] (put : Int→Int→σ→β)
def runM (sec : Int→List σ) : Mg σ β→List Int→Mg σ β
  | s,a::b::r=>runM sec (addM put s a b (sec a)) (b::r)
  | s,_=>s
theorem qhu (sec : Int→List σ) : ∀ (c : List Int) (s : Mg σ β),K2 put s (Yv c sec) = runM put sec s c
  | [],s=>rfl
  | [a],s=>rfl
  | a::b::r,s=>by
    have:=qhu sec (b::r) (addM put s a b (sec a))
    simp only [runM,← this]
    rfl
theorem Alike.add {s t : Mg σ β} (h : Alike put s t) (a b : Int) (c : List σ) : Alike put (addM put s a b c) (addM put t a b c):=by
  rcases h with rfl | ⟨k,f,n⟩
  · exact .inl rfl
  · refine .inl ?_;rcases q79 put s a b c with ⟨o,g,_,_⟩ | ⟨_,j⟩
    · exact absurd (g.trans f) o
    · rcases q79 put t a b c with ⟨d,l,_,_⟩ | ⟨_,m⟩
      · exact absurd (l.trans n) d
      · rw [j,m,k]
end
end Go.Sh
namespace Go.Sh
open Go Go.Am
structure Grp (σ : Type) where
  lo : Int
  hi : Int
  sec : List σ
section
variable {σ β : Type}
def CanG (gs : List (Grp σ)) : Prop:=(∀ g∈gs,g.lo < g.hi∧g.sec≠[])∧gs.Pairwise (fun g h=>g.hi≤h.lo∧(g.hi = h.lo→g.sec≠h.sec))
def secG : List (Grp σ)→Int→List σ
  | [],_=>[]
  | g::r,x=>if g.lo≤x∧x < g.hi then g.sec else secG r x
def Qx (put : Int→Int→σ→β) (gs : List (Grp σ)) : List β:=gs.flatMap fun g=>g.sec.map (put g.lo g.hi)
theorem qpt (put : Int→Int→σ→β) (a b : List (Grp σ)) : Qx put (a ++ b) = Qx put a ++ Qx put b:=by simp [Qx]
theorem Ui {y x : Int} : ∀ {r : List (Grp σ)},(∀ h∈r,y≤h.lo)→x < y→secG r x = []
  | [],_,_=>rfl
  | g::r,h,hx=>by
    have:=h g qc
    rw [secG,qn q0]
    exact Ui (fun k a=>h k (by simp [a])) hx
theorem q5r {y x : Int} : ∀ {r : List (Grp σ)},(∀ h∈r,h.hi≤y)→y≤x→secG r x = []
  | [],_,_=>rfl
  | g::r,h,hx=>by
    have:=h g qc
    rw [secG,qn q0]
    exact q5r (fun k a=>h k (by simp [a])) hx
theorem q8b {x : Int} : ∀ {a b : List (Grp σ)},secG a x = []→(∀ g∈a,g.sec≠[])→secG (a ++ b) x = secG b x
  | [],_,_,_=>rfl
  | g::a,b,h,hne=>by
    rw [secG] at h
    split at h
    · exact absurd h (hne g qc)
    · rename_i c
      rw [List.cons_append,secG,qn c]
      exact q8b h fun k d=>hne k (by simp [d])
theorem qez {y x : Int} {a b : List (Grp σ)} (hb : ∀ h∈b,y≤h.lo) (c : x < y) : secG (a ++ b) x = secG a x:=by
  induction a with
  | nil=>exact Ui hb c
  | cons g a ih=>simp only [List.cons_append,secG,ih]
theorem CanG.tail {g : Grp σ} {r : List (Grp σ)} (h : CanG (g::r)) : CanG r:=⟨fun k a=>h.1 k (by simp [a]),(List.pairwise_cons.1 h.2).2⟩
theorem CanG.nxt {g : Grp σ} {r : List (Grp σ)} (h : CanG (g::r)) : ∀ k∈r,g.hi≤k.lo∧(g.hi = k.lo→g.sec≠k.sec):=(List.pairwise_cons.1 h.2).1
theorem q2z {g : Grp σ} {r : List (Grp σ)} {x : Int} (a : g.lo≤x) (b : x < g.hi) : secG (g::r) x = g.sec:=by rw [secG,ql ⟨a,b⟩]
theorem qvt {g : Grp σ} {r : List (Grp σ)} (h : CanG (g::r)) : secG (g::r) g.hi≠g.sec:=by
  rw [secG,qn q0]
  cases r with
  | nil=>exact fun e=>(h.1 g qc).2 e.symm
  | cons k r=>
    have c:=h.nxt k qc;have b:=h.tail.1 k qc;by_cases d : g.hi = k.lo
    · rw [q2z q0 q0];exact fun e=>c.2 d e.symm
    · rw [secG,qn q0,Ui (y:=k.hi) (fun m a=>(h.tail.nxt m a).1) q0];exact fun e=>(h.1 g qc).2 e.symm
theorem qcl : ∀ {a b : List (Grp σ)},CanG a→CanG b→(∀ x,secG a x = secG b x)→a = b
  | [],[],_,_,_=>rfl
  | [],g::r,_,hb,h=>by
    have:=h g.lo
    rw [q2z (Int.le_refl _) (hb.1 g qc).1] at this
    exact absurd this.symm (hb.1 g qc).2
  | g::r,[],c,_,h=>by
    have:=h g.lo
    rw [q2z (Int.le_refl _) (c.1 g qc).1] at this
    exact absurd this (c.1 g qc).2
  | g::r,k::s,c,hb,h=>by
    have q:=c.1 g qc
    have t:=hb.1 k qc
    have low : ∀ {g k : Grp σ} {r s : List (Grp σ)},CanG (g::r)→CanG (k::s)→(∀ x,secG (g::r) x = secG (k::s) x)→k.lo≤g.lo:=by
      intro g k r s c hb h;refine Int.not_lt.1 fun j=>?_;have d:=h g.lo;rw [q2z (Int.le_refl _) (c.1 g qc).1,Ui (y:=k.lo) (fun m f=>?_) j] at d
      · exact (c.1 g qc).2 d
      · rcases List.mem_cons.1 f with rfl | f
        · exact Int.le_refl _
        · have:=(hb.nxt m f).1;have:=(hb.1 k qc).1;omega
    have n : g.lo = k.lo:=Int.le_antisymm (low hb c fun x=>(h x).symm) (low c hb h)
    have l : g.sec = k.sec:=by
      have d:=h g.lo
      rwa [q2z (Int.le_refl _) q.1,q2z q0 q0] at d
    have hi : ∀ {g k : Grp σ} {r s : List (Grp σ)},CanG (g::r)→CanG (k::s)→(∀ x,secG (g::r) x = secG (k::s) x)→g.lo = k.lo→g.sec = k.sec→k.hi≤g.hi:=by
      intro g k r s c hb h n l;refine Int.not_lt.1 fun j=>?_;have d:=h g.hi;have:=(c.1 g qc).1;rw [q2z (g:=k) q0 j,← l] at d;exact qvt c d
    have o : g.hi = k.hi:=Int.le_antisymm (hi hb c (fun x=>(h x).symm) n.symm l.symm) (hi c hb h n l)
    have e : g = k:=by cases g;cases k;simp at n l o;simp [n,l,o]
    subst e
    have : r = s:=qcl c.tail hb.tail fun x=>by
      by_cases p : x < g.hi
      · rw [Ui (y:=g.hi) (fun m f=>(c.nxt m f).1) p,Ui (y:=g.hi) (fun m f=>(hb.nxt m f).1) p]
      · have d:=h x
        rwa [secG,secG,qn q0,qn q0] at d
    rw [this]
def curG (s : Mg σ β) : List (Grp σ):=if s.sec = [] then [] else [⟨s.lo,s.hi,s.sec⟩]
def secC (sec : Int→List σ) : List Int→Int→List σ
  | a::b::r,x=>if a≤x∧x < b then sec a else secC sec (b::r) x
  | _,_=>[]
theorem qhr (put : Int→Int→σ→β) (s : Mg σ β) (a : List (Grp σ)) (h : s.done = Qx put a) : s.flat put = Qx put (a ++ curG s):=by
  rw [qpt,Mg.flat,h];unfold curG;split
  · rename_i b;simp [b,Qx]
  · simp [Qx]
theorem qak {s : Mg σ β} {g : Grp σ} (h : g∈curG s) : s.sec≠[]∧g = ⟨s.lo,s.hi,s.sec⟩:=by
  unfold curG at h;split at h
  · cases h
  · rename_i a;exact ⟨a,by simpa using h⟩
theorem qb5 (sec : Int→List σ) {x : Int} : ∀ {d : List Int},d.Pairwise (· < ·)→
    (∀ a∈d,a≤x→(∀ c∈d,c≤a∨x < c)→sec a = sec x)→((∀ c∈d,x < c)→sec x = [])→((∀ c∈d,c≤x)→sec x = [])→secC sec d x = sec x
  | [],_,_,h2,_=>(h2 qc).symm
  | [a],_,_,h2,h3=>by
    rw [secC]
    · by_cases k : x < a
      · exact (h2 (by simpa using k)).symm
      · exact (h3 (by simpa using k)).symm
    · intro a b r h;simp at h
  | a::b::r,hp,h1,h2,h3=>by
    have p : a < b:=(List.pairwise_cons.1 hp).1 b qc
    have n:=(List.pairwise_cons.1 (List.pairwise_cons.1 hp).2).1
    rw [secC]
    split
    · rename_i k
      refine h1 a qc k.1 fun c f=>?_
      rcases List.mem_cons.1 f with rfl | f
      · exact .inl (Int.le_refl _)
      · rcases List.mem_cons.1 f with rfl | f
        · exact .inr k.2
        · have:=n c f;exact .inr q0
    · rename_i k
      by_cases m : x < a
      · have e : sec x = []:=h2 fun c f=>by
          rcases List.mem_cons.1 f with rfl | f
          · exact m
          · have:=(List.pairwise_cons.1 hp).1 c f;omega
        have:=qb5 sec (x:=x) (List.pairwise_cons.1 hp).2 (fun a' j l _=>by
          exfalso;have:=(List.pairwise_cons.1 hp).1 a' j;omega) (fun _=>e) (fun _=>e)
        exact this
      · have o : b≤x:=by omega
        exact qb5 sec (List.pairwise_cons.1 hp).2 (fun a' j l g=>h1 a' (by simp [j]) l fun c f=>by
          rcases List.mem_cons.1 f with rfl | f
          · have:=(List.pairwise_cons.1 hp).1 a' j;exact .inl q0
          · exact g c f) (fun g=>by have:=g b qc;omega) (fun g=>h3 fun c f=>by
          rcases List.mem_cons.1 f with rfl | f
          · omega
          · exact g c f)
variable [DecidableEq σ] (put : Int→Int→σ→β)
structure InvG (s : Mg σ β) (gs : List (Grp σ)) (c : Int) : Prop where
  done : s.done = Qx put gs
  can : CanG (gs ++ curG s)
  le : ∀ g∈gs ++ curG s,g.hi≤c
  gap : s.sec = []→∀ g∈gs,g.hi = c→False
theorem qqu {s : Mg σ β} {j : List (Grp σ)} {a b : Int} {c : List σ} (v : a < b) (hi : InvG put s j a) :
    ∃ o,InvG put (addM put s a b c) o b∧∀ x,secG (o ++ curG (addM put s a b c)) x = if a≤x∧x < b then c else secG (j ++ curG s) x:=by
  rcases q79 put s a b c with ⟨u,h2,h3,z⟩ | ⟨u,z⟩
  · rw [z];have hs : s.sec≠[]:=h2 ▸ u;have c1 : curG s = [⟨s.lo,s.hi,s.sec⟩]:=by unfold curG;rw [qn hs]
    have c2 : curG (⟨s.done,s.sec,s.lo,b⟩ : Mg σ β) = [⟨s.lo,b,s.sec⟩]:=by unfold curG;rw [qn hs]
    have f:=hi.can;rw [c1] at f;have ag : s.lo < s.hi:=(f.1 ⟨s.lo,s.hi,s.sec⟩ qc).1;refine ⟨j,⟨hi.done,?_,?_,fun h=>absurd h hs⟩,?_⟩
    · rw [c2];refine ⟨fun g d=>?_,?_⟩
      · rcases List.mem_append.1 d with d | d
        · exact f.1 g (by simp [d])
        · obtain rfl:=List.mem_singleton.1 d;exact ⟨by simp only;omega,hs⟩
      · have:=List.pairwise_append.1 f.2;refine List.pairwise_append.2 ⟨this.1,qc,fun g d k hk=>?_⟩;obtain rfl:=List.mem_singleton.1 hk;exact this.2.2 g d ⟨s.lo,s.hi,s.sec⟩ qc
    · rw [c2];intro g d;rcases List.mem_append.1 d with d | d
      · have:=hi.le g (by simp [d]);omega
      · obtain rfl:=List.mem_singleton.1 d;exact Int.le_refl _
    · intro x;rw [c1,c2];have ab : ∀ g∈j,g.hi≤s.lo:=fun g d=>((List.pairwise_append.1 f.2).2.2 g d ⟨s.lo,s.hi,s.sec⟩ qc).1;have r : ∀ g∈j,g.sec≠[]:=fun g d=>(f.1 g (by simp [d])).2;by_cases n : x < s.lo
      · rw [qn q0,qez (y:=s.lo) qc n,qez (y:=s.lo) qc n]
      · have e : secG j x = []:=q5r ab q0;rw [q8b e r,q8b e r];simp only [secG];by_cases ac : x < s.hi
        · rw [ql ⟨q0,q0⟩,qn q0,ql ⟨q0,ac⟩]
        · by_cases q : x < b
          · rw [ql ⟨q0,q⟩,ql ⟨q0,q⟩,h2]
          · rw [qn q0,qn q0,qn q0]
  · rw [z];have hd : s.flat put = Qx put (j ++ curG s):=qhr put s j hi.done;refine ⟨j ++ curG s,⟨hd,?_,?_,?_⟩,?_⟩
    · by_cases m : c = []
      · have : curG (⟨s.flat put,c,a,b⟩ : Mg σ β) = []:=by unfold curG;rw [ql m]
        rw [this,List.append_nil];exact hi.can
      · have : curG (⟨s.flat put,c,a,b⟩ : Mg σ β) = [⟨a,b,c⟩]:=by unfold curG;rw [qn m]
        rw [this];refine ⟨fun g d=>?_,List.pairwise_append.2 ⟨hi.can.2,qc,fun g d k hk=>?_⟩⟩
        · rcases List.mem_append.1 d with d | d
          · exact hi.can.1 g d
          · obtain rfl:=List.mem_singleton.1 d;exact ⟨v,m⟩
        · obtain rfl:=List.mem_singleton.1 hk;refine ⟨hi.le g d,fun t p=>?_⟩;rcases List.mem_append.1 d with l | l
          · by_cases hs : s.sec = []
            · exact hi.gap hs g l t
            · have w : (⟨s.lo,s.hi,s.sec⟩ : Grp σ)∈curG s:=by unfold curG;rw [qn hs];simp
              have h6:=((List.pairwise_append.1 hi.can.2).2.2 g l _ w).1;have h7:=(hi.can.1 _ (List.mem_append.2 (.inr w))).1;have h8:=hi.le _ (List.mem_append.2 (.inr w));simp only at t h6 h7 h8;omega
          · obtain ⟨hs,rfl⟩:=qak l;exact u ⟨m,p.symm,t⟩
    · intro g d;rcases List.mem_append.1 d with d | d
      · have:=hi.le g d;omega
      · obtain ⟨_,rfl⟩:=qak d;exact Int.le_refl _
    · intro m g d t;have:=hi.le g d;omega
    · intro x;by_cases n : a≤x∧x < b
      · rw [ql n,q8b (q5r hi.le n.1) fun g d=>(hi.can.1 g d).2];unfold curG;split
        · rename_i m;simp only at m;rw [m];rfl
        · simp only [secG];rw [ql n]
      · rw [qn n];by_cases aa : x < a
        · exact qez (y:=a) (fun g d=>by obtain ⟨_,rfl⟩:=qak d;exact Int.le_refl _) aa
        · have e:=q5r (x:=x) hi.le q0;rw [q8b e fun g d=>(hi.can.1 g d).2,e];exact q5r (y:=b) (fun g d=>by obtain ⟨_,rfl⟩:=qak d;exact Int.le_refl _) q0
theorem qku (sec : Int→List σ) : ∀ (d : List Int) (c : Int) (s : Mg σ β) (h : List (Grp σ)),(c::d).Pairwise (· < ·)→InvG put s h c→
    ∃ f,(runM put sec s (c::d)).flat put = Qx put f∧CanG f∧∀ x,secG f x = if x < c then secG (h ++ curG s) x else secC sec (c::d) x
  | [],c,s,h,_,hi=>by
    refine ⟨h ++ curG s,qhr put s h hi.done,hi.can,fun x=>?_⟩
    by_cases k : x < c
    · rw [ql k]
    · rw [qn k];exact q5r hi.le q0
  | b::d,a,s,h,hp,hi=>by
    have m : a < b:=(List.pairwise_cons.1 hp).1 b qc
    obtain ⟨f,l,j⟩:=qqu (b:=b) (c:=sec a) put m hi
    obtain ⟨n,q,o,p⟩:=qku sec d b _ f (List.pairwise_cons.1 hp).2 l
    refine ⟨n,q,o,fun x=>?_⟩
    rw [p x]
    by_cases k : x < a
    · rw [ql q0,ql k,j,qn q0]
    · rw [qn k]
      simp only [secC]
      by_cases g : x < b
      · rw [ql g,j,ql ⟨q0,g⟩,ql ⟨q0,g⟩]
      · rw [qn g,qn q0]
theorem qj9 (sec : Int→List σ) {a : List Int} (f : a.Pairwise (· < ·)) :
    ∃ d,(K2 put K0 (Yv a sec)).flat put = Qx put d∧CanG d∧∀ x,secG d x = secC sec a x:=by
  rw [qhu]
  cases a with
  | nil=>exact ⟨[],rfl,⟨qc,qc⟩,fun x=>rfl⟩
  | cons c a=>
    obtain ⟨d,k,h,j⟩:=qku put sec a c (K0 : Mg σ β) [] f ⟨rfl,⟨by simp [curG,K0],by simp [curG,K0]⟩,by simp [curG,K0],qc⟩;refine ⟨d,k,h,fun x=>?_⟩;rw [j x];split
    · rename_i g
      have : ∀ (a : List Int) (c : Int),(c::a).Pairwise (· < ·)→x < c→secC sec (c::a) x = []:=by
        intro a
        induction a with
        | nil=>intros;rfl
        | cons b r ih=>
          intro c hp g;rw [secC,qn q0];exact ih b (List.pairwise_cons.1 hp).2 (by have:=(List.pairwise_cons.1 hp).1 b qc;omega)
      rw [this a c f g];rfl
    · rfl
end
end Go.Sh
namespace Go.Sh
open Go Go.Am
section
variable {σ : Type}
theorem qf1 {x : Int} : ∀ (b : List (Grp σ)),secG b x = []∨∃ g∈b,g.lo≤x∧x < g.hi∧secG b x = g.sec
  | []=>.inl rfl
  | g::r=>by
    by_cases a : g.lo≤x∧x < g.hi
    · exact .inr ⟨g,qc,a.1,a.2,by rw [secG,ql a]⟩
    · rw [secG,qn a]
      rcases qf1 r with h | ⟨k,c,h⟩
      · exact .inl h
      · exact .inr ⟨k,by simp [c],h⟩
theorem qf0 : ∀ {b : List (Grp σ)},CanG b→∀ g∈b,∀ x,g.lo≤x→x < g.hi→secG b x = g.sec
  | k::r,h,g,a,x,h1,h2=>by
    rcases List.mem_cons.1 a with rfl | a
    · exact q2z h1 h2
    · have:=(h.nxt g a).1
      rw [secG,qn q0]
      exact qf0 h.tail g a x h1 h2
end
theorem qio (kind : Int) : Je kind [] [] = []:=by
  have a:=(q7r kind [] [] qc qc).2;refine q7d a.can ⟨qc,qc⟩ fun x=>?_;rw [a.pts];have:=q1m x;unfold Y5;simp [this]
theorem qh1 (a b : List qk) (x : Int) : covS (a ++ b) x = covS a x ++ covS b x:=by simp [covS]
theorem qh5 (s : List qi) (lo hi x : Int) : covS (s.map (putR lo hi)) x = if lo≤x∧x < hi then s else []:=by
  induction s with
  | nil=>simp [covS]
  | cons t s ih=>
    have e : covS (List.map (putR lo hi) (t::s)) x = (if covR x (putR lo hi t) = true then [t] else []) ++ covS (s.map (putR lo hi)) x:=rfl;rw [e,ih];have : covR x (putR lo hi t) = (decide (lo≤x) && decide (x < hi)):=rfl;rw [this];by_cases a : lo≤x <;> by_cases b : x < hi <;> simp [a,b]
theorem q4p : ∀ {b : List (Grp qi)},CanG b→∀ x,covS (Qx putR b) x = secG b x
  | [],_,x=>rfl
  | g::r,h,x=>by
    have e : Qx putR (g::r) = g.sec.map (putR g.lo g.hi) ++ Qx putR r:=rfl
    rw [e,qh1,qh5,q4p h.tail x]
    by_cases a : g.lo≤x∧x < g.hi
    · rw [ql a,secG,ql a,Ui (y:=g.hi) (fun m c=>(h.nxt m c).1) a.2,List.append_nil]
    · rw [qn a,secG,qn a,List.nil_append]
theorem qh2 {l : List qk} {a x : Int} (h : ∀ r∈l,covR a r = covR x r) : covS l a = covS l x:=by
  induction l with
  | nil=>rfl
  | cons r l ih=>
    have e : ∀ y,covS (r::l) y = (if covR y r = true then [ysp r] else []) ++ covS l y:=fun _=>rfl;rw [e,e,h r qc,ih fun k b=>h k (by simp [b])]
theorem qa9 {l : List qk} {x : Int} (h : ∀ r∈l,covR x r = false) : covS l x = []:=by
  induction l with
  | nil=>rfl
  | cons r l ih=>
    have e : covS (r::l) x = (if covR x r = true then [ysp r] else []) ++ covS l x:=rfl;rw [e,h r qc,ih fun k a=>h k (by simp [a])];rfl
theorem q4o {x : Int} {r : qk} : covR x r = true↔r.X0≤x∧x < r.X1:=by simp [covR]
theorem qj7 {p q : List qk} {r : qk} (h : r∈p∨r∈q) : r.X0∈xsOf p ++ xsOf q∧r.X1∈xsOf p ++ xsOf q:=by
  unfold xsOf;simp only [List.mem_append,List.mem_flatMap];rcases h with h | h
  · exact ⟨.inl ⟨r,h,qc⟩,.inl ⟨r,h,qc⟩⟩
  · exact ⟨.inr ⟨r,h,qc⟩,.inr ⟨r,h,qc⟩⟩
theorem qje (kind : Int) {p q : List qk} (h : p.length + q.length≤100000) :
    ∃ f,mrgR kind p q = Qx putR f∧CanG f∧∀ x,secG f x = secJ kind p q x:=by
  have t:=q29 p;have s:=q29 q;have hs:=(q16 (l:=xsOf p ++ xsOf q) (by simp;omega)).2.1;obtain ⟨f,k,n,o⟩:=qj9 putR (secJ kind p q) hs.1;refine ⟨f,k,n,fun x=>?_⟩;rw [o]
  have g : ∀ r,(r∈p∨r∈q)→r.X0∈Qy (xsOf p ++ xsOf q)∧r.X1∈Qy (xsOf p ++ xsOf q):=fun r b=>
    ⟨(hs.2 _).2 (qj7 b).1,(hs.2 _).2 (qj7 b).2⟩
  refine qb5 _ hs.1 (fun a _ m c=>?_) (fun c=>?_) (fun c=>?_)
  · have d : ∀ r,(r∈p∨r∈q)→covR a r = covR x r:=fun r b=>by
      have j:=c _ (g r b).1;have u:=c _ (g r b).2;rw [Bool.eq_iff_iff,q4o,q4o];omega
    unfold secJ;rw [qh2 fun r b=>d r (.inl b),qh2 fun r b=>d r (.inr b)]
  · have d : ∀ r,(r∈p∨r∈q)→covR x r = false:=fun r b=>by
      have j:=c _ (g r b).1;rw [← Bool.not_eq_true,q4o];omega
    unfold secJ;rw [qa9 fun r b=>d r (.inl b),qa9 fun r b=>d r (.inr b),qio]
  · have d : ∀ r,(r∈p∨r∈q)→covR x r = false:=fun r b=>by
      have j:=c _ (g r b).2;rw [← Bool.not_eq_true,q4o];omega
    unfold secJ;rw [qa9 fun r b=>d r (.inl b),qa9 fun r b=>d r (.inr b),qio]
def CanR (l : List qk) : Prop:=∃ gs : List (Grp qi),l = Qx putR gs∧CanG gs∧∀ g∈gs,Can g.sec
theorem qnx : Can []:=⟨qc,qc⟩
theorem CanR.nil : CanR []:=⟨[],rfl,⟨qc,qc⟩,qc⟩
theorem CanR.cov {l : List qk} (h : CanR l) (x : Int) : Can (covS l x):=by
  obtain ⟨c,rfl,b,a⟩:=h;rw [q4p b];rcases qf1 (x:=x) c with e | ⟨g,d,_,_,e⟩
  · rw [e];exact qnx
  · rw [e];exact a g d
theorem qcm {a b : List qk} (f : CanR a) (hb : CanR b) (h : ∀ x y,hasR a x y↔hasR b x y) : a = b:=by
  have g : ∀ x,covS a x = covS b x:=fun x=>q7d (f.cov x) (hb.cov x) fun y=>by rw [q2p,q2p];exact h x y
  obtain ⟨j,rfl,d,_⟩:=f;obtain ⟨k,rfl,c,_⟩:=hb;rw [qcl d c fun x=>by rw [← q4p d,← q4p c];exact g x]
theorem ql0 (kind : Int) {p q : List qk} (h : p.length + q.length≤100000) (x : Int) : qc6 kind (covS p x) (covS q x) (secJ kind p q x):=by
  have a:=q2f p x;have b:=q2f q x;exact (q7r kind (covS p x) (covS q x) q0 q0).2
theorem qar (kind : Int) {p q : List qk} (h : p.length + q.length≤100000) : CanR (mrgR kind p q):=by
  obtain ⟨c,f,a,d⟩:=qje kind h;refine ⟨c,f,a,fun g b=>?_⟩;have:=d g.lo;rw [qf0 a g b _ (Int.le_refl _) (a.1 g b).1] at this;rw [this];exact (ql0 kind h _).can
theorem qh3 (kind : Int) {p q : List qk} (h : p.length + q.length≤100000) (x : Int) : covS (mrgR kind p q) x = secJ kind p q x:=by
  obtain ⟨d,c,a,b⟩:=qje kind h;rw [c,q4p a,b]
theorem qah (kind : Int) {p q : List qk} (h : p.length + q.length≤100000) (x y : Int) : hasR (mrgR kind p q) x y↔Y5 kind (hasR p x y) (hasR q x y):=by
  rw [← q2p,qh3 kind h,(ql0 kind h x).pts,q2p,q2p]
theorem qdm (x y : Int) : ¬ hasR [] x y:=by rintro ⟨r,h,_⟩;cases h
theorem q7q {a b : Prop} : Y5 2 a b↔a∨b:=by unfold Y5;simp
theorem qqk {a b : Prop} : Y5 1 a b↔a∧b:=by unfold Y5;simp
theorem qqe {l : List qk} (h : l.length≤100000) (x y : Int) : hasR (mrgR 2 l []) x y↔hasR l x y:=by
  rw [qah 2 (by simpa using h),q7q];simp [qdm]
theorem qjg {l : List qk} (a : l.length≤100000) (h : CanR l) : mrgR 2 l [] = l:=
  qcm (qar 2 (by simpa using a)) h fun x y=>qqe a x y
theorem qj5 {σ β : Type} {put : Int→Int→σ→β} {a : List (Grp σ)} {r : β} : r∈Qx put a↔∃ g∈a,∃ t∈g.sec,r = put g.lo g.hi t:=by
  unfold Qx;simp only [List.mem_flatMap,List.mem_map];exact ⟨fun ⟨g,hg,t,ht,e⟩=>⟨g,hg,t,ht,e.symm⟩,fun ⟨g,hg,t,ht,e⟩=>⟨g,hg,t,ht,e.symm⟩⟩
theorem CanR.lt {l : List qk} (h : CanR l) : ∀ r∈l,r.X0 < r.X1∧r.Y0 < r.Y1:=by
  obtain ⟨j,rfl,f,b⟩:=h;intro r c;obtain ⟨g,a,t,d,rfl⟩:=qj5.1 c;exact ⟨(f.1 g a).1,(b g a).1 t d⟩
def InR (l : List qk) : Prop:=∀ x y,hasR l x y→(-1000000≤x∧x < 1000000)∧(-1000000≤y∧y < 1000000)
theorem CanR.vR {l : List qk} (h : CanR l) (hi : InR l) : ∀ r∈l,vR r:=by
  intro r a;have c:=h.lt r a;have b:=hi r.X0 r.Y0 ⟨r,a,q0⟩;have d:=hi (r.X1 - 1) (r.Y1 - 1) ⟨r,a,q0⟩;unfold Go.Sh.vR;omega
theorem InR.mrg {kind : Int} {p q : List qk} (h : p.length + q.length≤100000) (hp : InR p) (b : InR q) : InR (mrgR kind p q):=fun x y c=>by
  rcases qii ((qah kind h x y).1 c) with a | a
  · exact hp x y a
  · exact b x y a
theorem InR.nil : InR []:=fun x y h=>absurd h (qdm x y)
theorem q7e {l : List qk} : Yd l = 0↔l.length≤400∧(∀ r∈l,vR r)∧CanR l:=by
  constructor
  · intro h;obtain ⟨c,b,a⟩:=qop h;exact ⟨c,b,a ▸ qar 2 (by simp;omega)⟩
  · rintro ⟨c,b,a⟩;unfold Yd;rw [qn q0,ql b,ql (qjg q0 a)]
end Go.Sh
namespace Go.Sh
open Go Go.Am
def hasB (l : List qg) (x y z : Int) : Prop:=∃ b∈l,(b.Lo.X≤x∧x < b.Hi.X)∧(b.Lo.Y≤y∧y < b.Hi.Y)∧(b.Lo.Z≤z∧z < b.Hi.Z)
theorem q2e {z : Int} {b : qg} : covB z b = true↔b.Lo.Z≤z∧z < b.Hi.Z:=by simp [covB]
theorem qe3 {l : List qg} {z : Int} {r : qk} : r∈atB l z↔∃ b∈l,(b.Lo.Z≤z∧z < b.Hi.Z)∧r = U2 b:=by
  unfold atB;rw [List.mem_flatMap];constructor
  · rintro ⟨b,hb,h⟩;split at h
    · rename_i a;exact ⟨b,hb,q2e.1 a,by simpa using h⟩
    · cases h
  · rintro ⟨b,hb,a,rfl⟩;exact ⟨b,hb,by rw [ql (q2e.2 a)];simp⟩
theorem q1l {l : List qg} {x y z : Int} : hasR (atB l z) x y↔hasB l x y z:=by
  constructor
  · rintro ⟨r,h,f,c,g,d⟩;obtain ⟨b,hb,a,rfl⟩:=qe3.1 h;exact ⟨b,hb,⟨f,c⟩,⟨g,d⟩,a⟩
  · rintro ⟨b,hb,⟨f,c⟩,⟨g,d⟩,a⟩;exact ⟨U2 b,qe3.2 ⟨b,hb,a,rfl⟩,f,c,g,d⟩
theorem q1k (x y z : Int) : ¬ hasB [] x y z:=by rintro ⟨r,h,_⟩;cases h
theorem qg4 (a b : List qg) (z : Int) : atB (a ++ b) z = atB a z ++ atB b z:=by simp [atB]
theorem qg8 (s : List qk) (lo hi z : Int) : atB (s.map (putB lo hi)) z = if lo≤z∧z < hi then s else []:=by
  induction s with
  | nil=>simp [atB]
  | cons t s ih=>
    have e : atB (List.map (putB lo hi) (t::s)) z = (if covB z (putB lo hi t) = true then [t] else []) ++ atB (s.map (putB lo hi)) z:=rfl;rw [e,ih];have : covB z (putB lo hi t) = (decide (lo≤z) && decide (z < hi)):=rfl;rw [this];by_cases a : lo≤z <;> by_cases b : z < hi <;> simp [a,b]
theorem q4h : ∀ {b : List (Grp qk)},CanG b→∀ z,atB (Qx putB b) z = secG b z
  | [],_,z=>rfl
  | g::r,h,z=>by
    have e : Qx putB (g::r) = g.sec.map (putB g.lo g.hi) ++ Qx putB r:=rfl
    rw [e,qg4,qg8,q4h h.tail z]
    by_cases a : g.lo≤z∧z < g.hi
    · rw [ql a,secG,ql a,Ui (y:=g.hi) (fun m c=>(h.nxt m c).1) a.2,List.append_nil]
    · rw [qn a,secG,qn a,List.nil_append]
theorem qg5 {l : List qg} {a x : Int} (h : ∀ r∈l,covB a r = covB x r) : atB l a = atB l x:=by
  induction l with
  | nil=>rfl
  | cons r l ih=>
    have e : ∀ y,atB (r::l) y = (if covB y r = true then [U2 r] else []) ++ atB l y:=fun _=>rfl;rw [e,e,h r qc,ih fun k b=>h k (by simp [b])]
theorem qa2 {l : List qg} {x : Int} (h : ∀ r∈l,covB x r = false) : atB l x = []:=by
  induction l with
  | nil=>rfl
  | cons r l ih=>
    have e : atB (r::l) x = (if covB x r = true then [U2 r] else []) ++ atB l x:=rfl;rw [e,h r qc,ih fun k a=>h k (by simp [a])];rfl
theorem qj8 {p q : List qg} {r : qg} (h : r∈p∨r∈q) : r.Lo.Z∈zsOf p ++ zsOf q∧r.Hi.Z∈zsOf p ++ zsOf q:=by
  unfold zsOf;simp only [List.mem_append,List.mem_flatMap];rcases h with h | h
  · exact ⟨.inl ⟨r,h,qc⟩,.inl ⟨r,h,qc⟩⟩
  · exact ⟨.inr ⟨r,h,qc⟩,.inr ⟨r,h,qc⟩⟩
theorem qjf (kind : Int) : mrgR kind [] [] = []:=by
  refine qcm (qar kind qc) .nil fun x y=>?_;rw [qah kind qc];have:=qdm x y;unfold Y5;simp [this]
theorem qjd (kind : Int) {p q : List qg} (h : p.length + q.length≤100000) :
    ∃ f,mrgB kind p q = Qx putB f∧CanG f∧∀ z,secG f z = secB kind p q z:=by
  have s:=q3a p;have t:=q3a q;have hs:=(q16 (l:=zsOf p ++ zsOf q) (by simp;omega)).2.1;obtain ⟨f,m,k,o⟩:=qj9 putB (secB kind p q) hs.1;refine ⟨f,m,k,fun x=>?_⟩;rw [o]
  have g : ∀ r,(r∈p∨r∈q)→r.Lo.Z∈Qy (zsOf p ++ zsOf q)∧r.Hi.Z∈Qy (zsOf p ++ zsOf q):=fun r b=>
    ⟨(hs.2 _).2 (qj8 b).1,(hs.2 _).2 (qj8 b).2⟩
  refine qb5 _ hs.1 (fun a _ n c=>?_) (fun c=>?_) (fun c=>?_)
  · have d : ∀ r,(r∈p∨r∈q)→covB a r = covB x r:=fun r b=>by
      have j:=c _ (g r b).1;have u:=c _ (g r b).2;rw [Bool.eq_iff_iff,q2e,q2e];omega
    unfold secB;rw [qg5 fun r b=>d r (.inl b),qg5 fun r b=>d r (.inr b)]
  · have d : ∀ r,(r∈p∨r∈q)→covB x r = false:=fun r b=>by
      have j:=c _ (g r b).1;rw [← Bool.not_eq_true,q2e];omega
    unfold secB;rw [qa2 fun r b=>d r (.inl b),qa2 fun r b=>d r (.inr b),qjf]
  · have d : ∀ r,(r∈p∨r∈q)→covB x r = false:=fun r b=>by
      have j:=c _ (g r b).2;rw [← Bool.not_eq_true,q2e];omega
    unfold secB;rw [qa2 fun r b=>d r (.inl b),qa2 fun r b=>d r (.inr b),qjf]
def CanB (l : List qg) : Prop:=∃ gs : List (Grp qk),l = Qx putB gs∧CanG gs∧∀ g∈gs,CanR g.sec
theorem CanB.nil : CanB []:=⟨[],rfl,⟨qc,qc⟩,qc⟩
theorem CanB.at {l : List qg} (h : CanB l) (z : Int) : CanR (atB l z):=by
  obtain ⟨c,rfl,b,a⟩:=h;rw [q4h b];rcases qf1 (x:=z) c with e | ⟨g,d,_,_,e⟩
  · rw [e];exact .nil
  · rw [e];exact a g d
theorem qck {a b : List qg} (f : CanB a) (hb : CanB b) (h : ∀ x y z,hasB a x y z↔hasB b x y z) : a = b:=by
  have g : ∀ z,atB a z = atB b z:=fun z=>qcm (f.at z) (hb.at z) fun x y=>by rw [q1l,q1l];exact h x y z
  obtain ⟨j,rfl,d,_⟩:=f;obtain ⟨k,rfl,c,_⟩:=hb;rw [qcl d c fun x=>by rw [← q4h d,← q4h c];exact g x]
theorem qg9 {p q : List qg} (h : p.length + q.length≤100000) (z : Int) : (atB p z).length + (atB q z).length≤100000:=by
  have:=q4i p z;have:=q4i q z;omega
theorem q59 (kind : Int) {p q : List qg} (h : p.length + q.length≤100000) : CanB (mrgB kind p q):=by
  obtain ⟨c,f,a,d⟩:=qjd kind h;refine ⟨c,f,a,fun g b=>?_⟩;have:=d g.lo;rw [qf0 a g b _ (Int.le_refl _) (a.1 g b).1] at this;rw [this];exact qar kind (qg9 h _)
theorem qg6 (kind : Int) {p q : List qg} (h : p.length + q.length≤100000) (z : Int) : atB (mrgB kind p q) z = secB kind p q z:=by
  obtain ⟨d,c,a,b⟩:=qjd kind h;rw [c,q4h a,b]
theorem qdl (kind : Int) {p q : List qg} (h : p.length + q.length≤100000) (x y z : Int) : hasB (mrgB kind p q) x y z↔Y5 kind (hasB p x y z) (hasB q x y z):=by
  rw [← q1l,qg6 kind h,secB,qah kind (qg9 h z),q1l,q1l]
theorem qdk {l : List qg} (h : l.length≤100000) (x y z : Int) : hasB (mrgB 2 l []) x y z↔hasB l x y z:=by
  rw [qdl 2 (by simpa using h),q7q];simp [q1k]
theorem qrk {l : List qg} (a : l.length≤100000) (h : CanB l) : mrgB 2 l [] = l:=
  qck (q59 2 (by simpa using a)) h fun x y z=>qdk a x y z
theorem CanB.lt {l : List qg} (h : CanB l) : ∀ b∈l,b.Lo.X < b.Hi.X∧b.Lo.Y < b.Hi.Y∧b.Lo.Z < b.Hi.Z:=by
  obtain ⟨k,rfl,j,c⟩:=h;intro r d;obtain ⟨g,a,t,f,rfl⟩:=qj5.1 d;have:=(c g a).lt t f;exact ⟨this.1,this.2,(j.1 g a).1⟩
def vB (b : qg) : Prop:=(b.Lo.X < b.Hi.X∧b.Lo.Y < b.Hi.Y∧b.Lo.Z < b.Hi.Z)∧(-1000000≤b.Lo.X∧-1000000≤b.Lo.Y∧-1000000≤b.Lo.Z)∧b.Hi.X≤1000000∧b.Hi.Y≤1000000∧b.Hi.Z≤1000000
instance (b : qg) : Decidable (vB b):=by unfold vB;infer_instance
def InB (l : List qg) : Prop:=∀ x y z,hasB l x y z→(-1000000≤x∧x < 1000000)∧(-1000000≤y∧y < 1000000)∧(-1000000≤z∧z < 1000000)
theorem q10h {l : List qg} (h : ∀ r∈l,vB r) : InB l:=by
  rintro x y z ⟨r,a,b⟩;have:=h r a;unfold vB at this;omega
theorem CanB.vB {l : List qg} (h : CanB l) (hi : InB l) : ∀ r∈l,vB r:=by
  intro r a;have c:=h.lt r a;have b:=hi r.Lo.X r.Lo.Y r.Lo.Z ⟨r,a,q0⟩;have d:=hi (r.Hi.X - 1) (r.Hi.Y - 1) (r.Hi.Z - 1) ⟨r,a,q0⟩;unfold Go.Sh.vB;omega
theorem InB.mrg {kind : Int} {p q : List qg} (h : p.length + q.length≤100000) (hp : InB p) (b : InB q) : InB (mrgB kind p q):=fun x y z c=>by
  rcases qii ((qdl kind h x y z).1 c) with a | a
  · exact hp x y z a
  · exact b x y z a
theorem InB.nil : InB []:=fun x y z h=>absurd h (q1k x y z)
theorem qmq {l : List qg} (h : ∀ b∈l,vB b) (z : Int) : ∀ r∈atB l z,vR r:=by
  intro r a;obtain ⟨b,hb,_,rfl⟩:=qe3.1 a;have:=h b hb;unfold vB at this;unfold vR U2;simp only;omega
theorem InB.at {l : List qg} (h : InB l) (z : Int) : InR (atB l z):=fun x y a=>by
  have:=h x y z (q1l.1 a);exact ⟨this.1,this.2.1⟩
noncomputable def K1 (l : List qg) : Int:=if 400 < l.length then 4 else if ∀ b∈l,vB b then (if mrgB 2 l [] = l then 0 else 8) else 8
theorem Z6 {l : List qg} : K1 l = 0↔l.length≤400∧(∀ b∈l,vB b)∧CanB l:=by
  unfold K1;constructor
  · intro h;split at h
    · exact absurd h qw
    · rename_i d;split at h
      · rename_i c;split at h
        · rename_i a;exact ⟨q0,c,a ▸ q59 2 (by simp;omega)⟩
        · exact absurd h qw
      · exact absurd h qw
  · rintro ⟨d,c,a⟩;rw [qn q0,ql c,ql (qrk q0 a)]
theorem qvs (kind : Int) {p q : List qg} (h : p.length + q.length≤100000) (z : Int) : (secB kind p q z).length≤(mrgB kind p q).length:=by
  rw [← qg6 kind h];exact q4i _ _
theorem qvu (kind : Int) {p q : List qk} (h : p.length + q.length≤100000) (x : Int) : (secJ kind p q x).length≤(mrgR kind p q).length:=by
  rw [← qh3 kind h];exact q2f _ _
noncomputable def mkB (l : List qg) : List qg × Int:=if 400 < l.length then ([],4) else if ∀ b∈l,vB b then (if 400 < (mrgB 2 l []).length then ([],4) else (mrgB 2 l [],0)) else ([],8)
noncomputable def jB (kind : Int) (p q : List qg) : List qg × Int:=
  if K1 p≠0 then ([],K1 p) else if K1 q≠0 then ([],K1 q) else if 400 < (mrgB kind p q).length then ([],4) else (mrgB kind p q,0)
noncomputable def mkR (l : List qk) : List qk × Int:=if 400 < l.length then ([],4) else if ∀ b∈l,vR b then (if 400 < (mrgR 2 l []).length then ([],4) else (mrgR 2 l [],0)) else ([],8)
noncomputable def jR (kind : Int) (p q : List qk) : List qk × Int:=
  if Yd p≠0 then ([],Yd p) else if Yd q≠0 then ([],Yd q) else if 400 < (mrgR kind p q).length then ([],4) else (mrgR kind p q,0)
end Go.Sh
namespace Go.Sh
open Go Go.Am
theorem qdv {α β : Type} {f : α→Option (α ⊕ β)} (st : Nat→α) (n : Nat) (ok : Nat→Prop) (b e : β)
    (step : ∀ k,k < n→(∀ j,j≤k→ok j)→f (st k) = some (.inl (st (k + 1))))
    (bad : ∀ k,k < n→(∀ j,j < k→ok j)→¬ ok k→f (st k) = some (.inr e))
    (done : (∀ j,j < n→ok j)→f (st n) = some (.inr b)) :
    ((∀ j,j < n→ok j)∧loop f (st 0) = some b)∨(∃ j,j < n∧¬ ok j∧loop f (st 0) = some e):=by
  by_cases h : ∀ j,j < n→ok j
  · exact .inl ⟨h,J1 st n b (fun k c=>step k c fun j d=>h j q0) (done h) (Nat.zero_le _)⟩
  · refine .inr ?_
    have g : ∃ k,(k < n∧¬ ok k)∧∀ j,j < k→ok j:=by
      have : ∃ k,k < n∧¬ ok k:=by
        refine Classical.byContradiction fun o=>h fun k c=>?_;exact Classical.byContradiction fun h=>o ⟨k,c,h⟩
      obtain ⟨k,c⟩:=this
      induction k using Nat.strongRecOn with
      | _ k ih=>
        by_cases d : ∃ j,j < k∧(j < n∧¬ ok j)
        · obtain ⟨j,l,g⟩:=d;exact ih j l g
        · exact ⟨k,c,fun j l=>Classical.byContradiction fun h=>d ⟨j,l,q0,h⟩⟩
    obtain ⟨K,⟨m,hb⟩,a⟩:=g;exact ⟨K,m,hb,J1 st K e (fun k c=>step k q0 fun j d=>a j q0) (bad K m a hb) (Nat.zero_le _)⟩
theorem qf9 (xs : List Int) (h : xs.length≤1000000) :
    ((U3 xs).bind fun c=>(Qu c.length xs.length).bind fun _=>(q10 c).bind fun b=>(Qu b.2.length c.length).bind fun _=>(q13 b.2.length b.1).bind fun _=>some ((b.2.drop b.1.1).take b.1.2)) = some (Qy xs):=by
  obtain ⟨ys,j,g,m⟩:=qlx xs h;have f : ys.length = xs.length:=g.length_eq;obtain ⟨w,a,c1,c2,c3,c4⟩:=qgx m q0;obtain ⟨_,k,_⟩:=q16 h
  have d : a.take w = Qy xs:=by
    refine qly (l:=xs) ⟨c4.1,fun x=>?_⟩ k;rw [c4.2 x];exact g.mem_iff
  simp only [qm,j,Qu,f,if_true,c1,c2,q13];rw [ql q0];simp only [qm,List.drop_zero,d]
theorem qn1 (l : List qk) (o : List Int) (g : l.length≤400) (d : o.length≤10000) : loop (J3 l) (0,o) = some (o ++ xsOf l):=
  q78 l q0 (fun r=>[r.X0,r.X1]) o (fun o=>o) (J3 l) (fun k a c b=>by
    have f : c.length = o.length + 2 * k:=by
      rw [b,List.length_append];have:=q29 (l.take k);rw [List.length_take,Nat.min_eq_left q0] at this;unfold xsOf at this;omega
    simp only [J3,dlt a,Q1,K7 a,qm,w64s a q0]
    rw [Z4 (by simp;omega)]
    rfl) (fun o=>by simp only [J3,dnl,Q3])
theorem qu6 (l : List qk) (j : l.length≤1000000) : q8f l (fun a=>q2w a) = some (decide (¬ ∀ r∈l,vR r)):=by
  have hs : ∀ (k : Nat) (h : k < l.length),q3s l (fun a=>q2w a) (k : Int) = some (if (fun r=>!decide (vR r)) l[k] = true then .inr (.inr (k : Int)) else .inl ((k + 1 : Nat) : Int)):=by
    intro k h;simp only [q3s,dlt h,Q1,K7 h,qm,w64s h j,q2w,qmr];by_cases m : vR l[k] <;> simp [m]
  have hd : q3s l (fun a=>q2w a) (l.length : Int) = some (.inr (.inl ())):=by simp only [q3s,dnl,Q3]
  unfold q8f qbd;rcases q4s l (fun r=>!decide (vR r)) (fun k _=>(k : Int)) () _ hs hd with ⟨g,b⟩ | ⟨k,f,c,_,b⟩
  · rw [b];have : ∀ r∈l,vR r:=fun r d=>by simpa using g r d
    simp [];omega
  · rw [b];have : ¬ ∀ r∈l,vR r:=fun h=>by simp [h _ (Y3 f)] at c
    simp only [qm];rw [Qe this,Qe q0]
theorem qkf (l : List qk) : q1r l = some (mkR l):=by
  unfold q1r mkR;by_cases b : 400 < l.length
  · rw [Qe (by omega : (l.length : Int) > 400),Q1,ql b]
  rw [Qm (by omega : ¬ (l.length : Int) > 400),Q3,qn b,qu6 l q0,qm];by_cases a : ∀ r∈l,vR r
  · rw [Qm (fun h=>h a),Q3,qiz l q0 a,ql a];rfl
  · rw [Qe a,Q1,qn a]
theorem qu3 (p q : List qk) : q87 p q = some (if Yd p≠0 then Yd p else Yd q):=by
  unfold q87;simp only [qtx,qm];by_cases h : Yd p = 0
  · simp [h]
  · have : (Yd p != 0) = true:=by simpa using h
    simp [h,this]
theorem rj1 : qb0 = J3:=rfl
theorem rj2 : qb1 = J3:=rfl
theorem rj4 : qb2 = Uh:=rfl
theorem rj5 : qb3 = Uh:=rfl
theorem qgi {p : List qk} (h : Yd p = 0) (x : Int) : Yk (covS p x) = 0∧Good (covS p x):=by
  obtain ⟨d,c,b⟩:=q7e.1 h;have a : Good (covS p x):=⟨qh6 c x,(b.cov x).2⟩
  have:=q2f p x;refine ⟨?_,a⟩;unfold Yk;rw [qn q0,ql a]
theorem qjq (kind : Int) {p q : List qk} (hp : Yd p = 0) (a : Yd q = 0) (x : Int) : opS kind (covS p x) (covS q x) = if 400 < (secJ kind p q x).length then ([],4) else (secJ kind p q x,0):=by
  unfold opS;rw [qn (by simp [(qgi hp x).1]),qn (by simp [(qgi a x).1])];rfl
theorem qkh (kind : Int) (f : List qi→List qi→Option (List qi × Int)) (hf : ∀ a b,f a b = some (opS kind a b)) (p q : List qk) : q5m p q f = some (jR kind p q):=by
  unfold q5m jR;rw [qu3,qm];by_cases hp : ¬ Yd p = 0
  · rw [ql hp,ql hp];have : (Yd p != 0) = true:=by simpa using hp
    rw [this,Q1]
  replace hp:=Classical.not_not.1 hp;by_cases o : ¬ Yd q = 0
  · rw [qn (by simp [hp]),qn (by simp [hp]),ql o];have : (Yd q != 0) = true:=by simpa using o
    rw [this,Q1]
  replace o:=Classical.not_not.1 o;rw [qn (by simp [hp]),qn (by simp [hp]),qn (by simp [o]),o];obtain ⟨lp,vp,cp⟩:=q7e.1 hp;obtain ⟨lq,vq,cq⟩:=q7e.1 o;have an:=q29 p;have ap:=q29 q;rw [show ((0 : Int) != 0) = false from rfl,Q3];simp only [show idx [p,q] 0 = some p from rfl,show idx [p,q] 1 = some q from rfl,qm,rj1,rj2,qn1 p [] lp qc,List.nil_append,qn1 q (xsOf p) lq q0];rw [qf9 _ (by simp;omega)];simp only [qm];obtain ⟨_,ab,d⟩:=q16 (l:=xsOf p ++ xsOf q) (by simp;omega);have d : (Qy (xsOf p ++ xsOf q)).length≤1600:=by simp at d;omega
  have n : ∀ x,(secJ kind p q x).length≤(mrgR kind p q).length:=fun x=>qvu kind q0 x;have ae : mrgR kind p q = (K2 putR K0 (Yv (Qy (xsOf p ++ xsOf q)) (secJ kind p q))).flat putR:=rfl;rw [ae] at n ⊢;generalize Qy (xsOf p ++ xsOf q) = xs at ab d n ⊢;generalize z : Yv xs (secJ kind p q) = steps at n ⊢;have ar : steps.length = xs.length - 1:=by rw [← z];exact qbq _ _
  have v : ∀ k (m : k < steps.length),steps[k] = (xs[k]'(q0),xs[k + 1]'(q0),secJ kind p q (xs[k]'(q0))):=fun k m=>by subst z;exact qfb m q0
  have ag : ∀ k,k≤steps.length→(∀ j,j < k→∀ t,steps[j]? = some t→t.2.2.length≤400)→((K2 putR K0 (steps.take k)).flat putR).length≤1600 * 400:=fun k m s=>by
    have h1:=qda putR (s0:=K0) (M:=400) (steps:=steps.take k) (fun t w=>by
      obtain ⟨i,hi,rfl⟩:=List.getElem_of_mem w;rw [List.length_take] at hi;rw [List.getElem_take]
      exact s i q0 _ (List.getElem?_eq_getElem q0))
    have y : (steps.take k).length≤1600:=by rw [List.length_take];omega
    have h3 : (K0.flat putR : List qk).length = 0:=rfl;have h4 : (steps.take k).length * 400≤1600 * 400:=Nat.mul_le_mul_right _ y;omega
  have r : ∀ x,loop (Uh p x) (0,[]) = some (covS p x):=fun x=>qdy p lp x;have u : ∀ x,loop (Uh q x) (0,[]) = some (covS q x):=fun x=>qdy q lq x
  have main:=qdv (f:=q3p xs p q f) (fun k=>(((k + 1 : Nat) : Int),(K2 putR K0 (steps.take k)).sec,((K2 putR K0 (steps.take k)).done.length : Int),(K2 putR K0 (steps.take k)).hi,(K2 putR K0 (steps.take k)).flat putR))
    steps.length (fun j=>∀ t,steps[j]? = some t→t.2.2.length≤400) (.inl ((K2 putR K0 steps).sec,((K2 putR K0 steps).done.length : Int),(K2 putR K0 steps).hi,(K2 putR K0 steps).flat putR)) (.inr ([],4))
    (fun k m s=>by
      have c : k + 1 < xs.length:=by omega
      have af : k < xs.length:=by omega
      have i1 : idx xs (w64 (((k + 1 : Nat) : Int) - 1)) = some xs[k]:=by rw [Q9 q0];exact Jd q0 q0
      have hc:=s k (Nat.le_refl _) _ (List.getElem?_eq_getElem m);have hm:=ag k q0 fun j ao=>s j q0;rw [qdb putR m,v k m] at *;simp only at hc;have hb:=qga (K2 putR K0 (steps.take k)) xs[k] xs[k + 1] (secJ kind p q xs[k]) q0;have ho : f (covS p xs[k]) (covS q xs[k]) = some (secJ kind p q xs[k],0):=by rw [hf,qjq kind hp o,qn q0]
      simp only [q3p,dlt c,Q1,i1,K7 c,qm,show idx [p,q] 0 = some p from rfl,show idx [p,q] 1 = some q from rfl,rj4,rj5,r,u,ho,show ((0 : Int) != 0) = false from rfl,Q3,hb]
      rw [w64s c q0])
    (fun k m s g=>by
      have c : k + 1 < xs.length:=by omega
      have af : k < xs.length:=by omega
      have i1 : idx xs (w64 (((k + 1 : Nat) : Int) - 1)) = some xs[k]:=by rw [Q9 q0];exact Jd q0 q0
      have hc : 400 < (secJ kind p q xs[k]).length:=by
        refine Nat.lt_of_not_le fun h=>g fun t w=>?_;rw [List.getElem?_eq_getElem m,v k m] at w;cases w;exact h
      have ho : f (covS p xs[k]) (covS q xs[k]) = some ([],4):=by rw [hf,qjq kind hp o,ql hc]
      simp only [q3p,dlt c,Q1,i1,K7 c,qm,show idx [p,q] 0 = some p from rfl,show idx [p,q] 1 = some q from rfl,rj4,rj5,r,u,ho,show ((4 : Int) != 0) = true from rfl,Q1])
    (fun _=>by
      have : decide (((steps.length + 1 : Nat) : Int) < (xs.length : Int)) = false:=Qm q0
      simp only [List.take_length,q3p,this,Q3])
  have ah : ((((0 + 1 : Nat) : Int),(K2 putR K0 (steps.take 0)).sec,((K2 putR K0 (steps.take 0)).done.length : Int),(K2 putR K0 (steps.take 0)).hi,(K2 putR K0 (steps.take 0)).flat putR) : Int × List qi × Int × Int × List qk) = (1,[],0,0,[]):=rfl;rw [ah] at main;rcases main with ⟨_,y⟩ | ⟨j,s,g,y⟩
  · rw [y];simp only [qm];by_cases h4 : 400 < ((K2 putR K0 steps).flat putR).length
    · rw [Qe (by omega : (((K2 putR K0 steps).flat putR).length : Int) > 400),ql h4];rfl
    · rw [Qm (by omega : ¬ (((K2 putR K0 steps).flat putR).length : Int) > 400),qn h4];rfl
  · rw [y];have aq : j < xs.length:=by omega
    have h5 : 400 < (secJ kind p q xs[j]).length:=by
      refine Nat.lt_of_not_le fun h=>g fun t w=>?_;rw [List.getElem?_eq_getElem s,v j s] at w;cases w;exact h
    have h6:=n xs[j];have h4 : 400 < ((K2 putR K0 steps).flat putR).length:=Nat.lt_of_lt_of_le h5 h6;rw [ql h4];rfl
theorem qu1 (p q : List qk) : q5i p q = some (jR 2 p q):=by
  unfold q5i;rw [qkh 2 _ (fun a b=>q10f a b)];rfl
theorem qtz (p q : List qk) : q5h p q = some (jR 1 p q):=by
  unfold q5h;rw [qkh 1 _ (fun a b=>qrf a b)];rfl
end Go.Sh
