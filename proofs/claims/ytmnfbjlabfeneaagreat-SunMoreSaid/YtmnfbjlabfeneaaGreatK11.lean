/- Pt1 Pt2 Pt3 Pt4 Pt5 Pt6 Pt7 Qa1 Qa2 Qa3 Su5 -/
import Derived.Test.YtmnfbjlabfeneaaGreatK10
namespace Go.Sh
open Go Go.Am
theorem Zi {α β : Type} {f : α→Option (α ⊕ β)} (st : Nat→α) (n : Nat) (b : β) (hs : ∀ k,k < n→f (st k) = some (.inl (st (k + 1)))) (hd : f (st n) = some (.inr b)) : ∀ {k : Nat},k≤n→loop f (st k) = some b:=by
  have key : ∀ m k,n - k = m→k≤n→loop f (st k) = some b:=by
    intro m
    induction m with
    | zero => intro k c a; obtain rfl : k = n := by omega
              exact Ke hd
    | succ m ih=>intro k c a;rw [Kq (hs k q0)];exact ih (k + 1) q0 q0
  intro k a;exact key _ k rfl a
theorem w64s {k : Nat} {n : Nat} (h : k < n) (a : n≤1000000) : w64 ((k : Int) + 1) = ((k + 1 : Nat) : Int):=by rw [Qa q0];omega
theorem dlt {k n : Nat} (h : k < n) : decide ((k : Int) < (n : Int)) = true:=Qb q0
theorem dnl {n : Nat} : decide ((n : Int) < (n : Int)) = false:=Q9 q0
theorem Js {α β γ : Type} (src : List α) (_ : src.length≤1000000) (h : α→List γ) (out : List γ) (fin : List γ→β) (f : Int × List γ→Option ((Int × List γ) ⊕ β))
    (hs : ∀ (k : Nat) (a : k < src.length) (o : List γ),o = out ++ (src.take k).flatMap h→f ((k : Int),o) = some (.inl (((k + 1 : Nat) : Int),o ++ h src[k])))
    (hd : ∀ o,f ((src.length : Int),o) = some (.inr (fin o))) : loop f (0,out) = some (fin (out ++ src.flatMap h)):=by
  have e : ∀ k (a : k < src.length),(src.take (k + 1)).flatMap h = (src.take k).flatMap h ++ h src[k]:=fun k a=>by
    rw [List.take_succ_eq_append_getElem a,List.flatMap_append,List.flatMap_cons,List.flatMap_nil,List.append_nil]
  have:=Zi (f:=f) (fun k=>((k : Int),out ++ (src.take k).flatMap h)) src.length (fin (out ++ src.flatMap h)) (fun k a=>by
    rw [hs k a _ rfl,e k a,List.append_assoc]) (by simp only [List.take_length];exact hd _) (Nat.zero_le _)
  simpa using this
theorem q5n {α β γ : Type} (src : List α) (h : α→γ) (out : List γ) (fin : List γ→β) (f : Int × List γ→Option ((Int × List γ) ⊕ β))
    (hs : ∀ (k : Nat) (a : k < src.length) (o : List γ),o.length = out.length + k→f ((k : Int),o) = some (.inl (((k + 1 : Nat) : Int),o ++ [h src[k]])))
    (hd : ∀ o,f ((src.length : Int),o) = some (.inr (fin o))) : loop f (0,out) = some (fin (out ++ src.map h)):=by
  have e : ∀ k (a : k < src.length),(src.take (k + 1)).map h = (src.take k).map h ++ [h src[k]]:=fun k a=>by
    rw [List.take_succ_eq_append_getElem a,List.map_append,List.map_cons,List.map_nil]
  have:=Zi (f:=f) (fun k=>((k : Int),out ++ (src.take k).map h)) src.length (fin (out ++ src.map h)) (fun k a=>by
    rw [hs k a _ (by simp;omega),e k a,List.append_assoc]) (by simp only [List.take_length];exact hd _) (Nat.zero_le _)
  simpa using this
theorem q5b {γ : Type} (g : γ→γ) (a b : List γ) (l : (a ++ b).length≤1000000) (f : Int × List γ→Option ((Int × List γ) ⊕ (List γ)))
    (hs : ∀ (k : Nat) (o : List γ) (h : k < o.length),o.length = (a ++ b).length→f ((k : Int),o) = some (.inl (((k + 1 : Nat) : Int),o.set k (g o[k]))))
    (hd : ∀ o : List γ,f ((o.length : Int),o) = some (.inr o)) : loop f ((a.length : Int),a ++ b) = some (a ++ b.map g):=by
  have m : a.length + b.length≤1000000:=by simpa using l
  have key:=Zi (f:=f) (fun k=>(((a.length + k : Nat) : Int),a ++ ((b.take k).map g ++ b.drop k))) b.length (a ++ b.map g) (fun k h=>by
    have c : (a ++ ((b.take k).map g ++ b.drop k)).length = (a ++ b).length:=by simp;omega
    have d : a.length + k < (a ++ ((b.take k).map g ++ b.drop k)).length:=by rw [c];simp;omega
    rw [hs (a.length + k) _ d c];have j : ((b.take k).map g).length = k:=by simp;omega
    have e : (a ++ ((b.take k).map g ++ b.drop k))[a.length + k]'d = b[k]:=by
      rw [List.getElem_append_right q0];rw [List.getElem_append_right (by rw [j];omega)];simp [List.length_take,Nat.min_eq_left (Nat.le_of_lt h)]
    rw [e];congr 4;rw [List.set_append,qs q0,List.set_append,qs (by rw [j];omega),j];have z : a.length + k - a.length - k = 0:=by omega
    rw [z,List.take_succ_eq_append_getElem h,List.drop_eq_getElem_cons h,List.set_cons_zero,List.map_append,List.map_cons,List.map_nil,List.append_assoc]
    rfl) (by
    simp only [List.take_length,List.drop_length,List.append_nil];have:=hd (a ++ b.map g)
    simpa using this) (Nat.zero_le _)
  simpa using key
theorem Ui {α γ υ : Type} (l : List α) (c : α→Bool) (m : (k : Nat)→k < l.length→γ) (u : υ) (f : Int→Option (Int ⊕ (υ ⊕ γ)))
    (hs : ∀ (k : Nat) (h : k < l.length),f (k : Int) = some (if c l[k] = true then .inr (.inr (m k h)) else .inl ((k + 1 : Nat) : Int))) (hd : f (l.length : Int) = some (.inr (.inl u))) :
    ((∀ v∈l,c v = false)∧loop f 0 = some (.inl u))∨∃ k,∃ h : k < l.length,c l[k] = true∧(∀ j (d : j < k),c (l[j]'(q0)) = false)∧loop f 0 = some (.inr (m k h)):=by
  by_cases p : ∀ v∈l,c v = false
  · refine .inl ⟨p,?_⟩;exact Zi (f:=f) (fun k=>(k : Int)) l.length _ (fun k b=>by rw [hs k b,p _ (Yf b)];rfl) hd (Nat.zero_le _)
  · refine .inr ?_
    have : ∃ k,∃ h : k < l.length,c l[k] = true:=by
      refine Classical.byContradiction fun r=>p fun v s=>?_;obtain ⟨k,b,rfl⟩:=List.getElem_of_mem s;cases o : c l[k]
      · rfl
      · exact absurd ⟨k,b,o⟩ r
    have g : ∃ k,(∃ h : k < l.length,c l[k] = true)∧∀ j,j < k→¬ ∃ h : j < l.length,c l[j] = true:=by
      obtain ⟨k,b⟩:=this
      induction k using Nat.strongRecOn with
      | _ k ih=>
        by_cases d : ∃ j,j < k∧∃ h : j < l.length,c l[j] = true
        · obtain ⟨j,q,g⟩:=d;exact ih j q g
        · exact ⟨k,b,fun j q g=>d ⟨j,q,g⟩⟩
    obtain ⟨k,⟨b,o⟩,n⟩:=g
    have a : ∀ j (d : j < k),c (l[j]'(q0)) = false:=fun j d=>by
      cases h : c (l[j]'(q0))
      · rfl
      · exact absurd ⟨q0,h⟩ (n j d)
    refine ⟨k,b,o,a,?_⟩;exact Zi (f:=f) (fun k=>(k : Int)) k _ (fun j d=>by rw [hs j q0,a j d];rfl) (by rw [hs k b,qr o]) (Nat.zero_le _)
theorem qny : ∀ {l a b : List Int},Yx l a→Yx l b→a = b:=by
  have key : ∀ (a b : List Int),a.Pairwise (· < ·)→b.Pairwise (· < ·)→(∀ x,x∈a↔x∈b)→a = b:=by
    intro a
    induction a with
    | nil=>intro b _ _ h;cases b with
      | nil=>rfl
      | cons y b=>exact absurd ((h y).2 qe) qe
    | cons x a ih=>
      intro b d hb h
      cases b with
      | nil=>exact absurd ((h x).1 qe) qe
      | cons y b=>
        rw [List.pairwise_cons] at d hb
        have g : x = y:=by
          rcases List.mem_cons.1 ((h x).1 qe) with c | c
          · exact c
          · rcases List.mem_cons.1 ((h y).2 qe) with j | j
            · exact j.symm
            · have:=hb.1 _ c;have:=d.1 _ j;omega
        subst g;rw [ih b d.2 hb.2 fun z=>?_];constructor
        · intro f;rcases List.mem_cons.1 ((h z).1 (by simp [f])) with c | c
          · have:=d.1 _ f;omega
          · exact c
        · intro f;rcases List.mem_cons.1 ((h z).2 (by simp [f])) with c | c
          · have:=hb.1 _ f;omega
          · exact c
  intro l a b d hb;exact key a b d.1 hb.1 fun x=>(d.2 x).trans (hb.2 x).symm
def ltI (a b : Int) : Bool:=decide (a < b)
theorem swoI : Sort.SWO ltI where
  irrefl:=by intro x;simp [ltI]
  trans:=by intro x y z;simp only [ltI,decide_eq_true_eq];omega
  ntrans:=by intro x y z;simp only [ltI,decide_eq_false_iff_not];omega
theorem cmpI : Kt qO ltI (fun _=>True):=by
  intro x y _ _;refine ⟨sg x y,rfl,?_⟩;rw [Zz];rfl
theorem qnx (l : List Int) (c : l.length≤1000000) : ∃ ys,U2 l = some ys∧ys.Perm l∧ys.Pairwise (·≤·):=by
  obtain ⟨ys,f,d,g⟩:=qnw cmpI swoI l c (fun _ _=>trivial);refine ⟨ys,by rw [qzw];exact f,d,g.imp ?_⟩;intro a b h;simp only [ltI,decide_eq_false_iff_not] at h;omega
end Go.Sh
namespace Go.Sh
open Go Go.Am
structure CInv (p : List Int) (k k2 i : Nat) (a : List Int) : Prop where
  len : a.length = p.length
  hi : i≤k + k2 - 1
  same : ∀ j (h : j < p.length),k + k2 - 1≤j→a[j]? = some p[j]
  so : Yx (p.take (k + k2)) (a.take i)
theorem qqv {p : List Int} (hp : p.Pairwise (·≤·)) (hl : p.length≤1000000) {k b i : Nat} {a : List Int} (hk : 0 < k) (h2 : 0 < b) (u : k + b < p.length) (h : CInv p k b i a) :
    ∃ (i' : Nat) (a' : List Int),q1v ((i : Int),(k,p.length - k),(b : Int),a) = some (.inl ((i' : Int),(k,p.length - k),((b + 1 : Nat) : Int),a'))∧CInv p k (b + 1) i' a':=by
  obtain ⟨h1,h3,o,h5,v⟩:=h;have hb : decide ((b : Int) < ((p.length - k : Nat) : Int)) = true:=dlt q0
  have r1 : idxW a (k,p.length - k) (b : Int) = some (p[k + b]):=by
    unfold idxW;rw [qr ⟨q0,q0⟩];simp only [Int.toNat_natCast];exact o (k + b) u q0
  have r2 : idxW a (k,p.length - k) (w64 ((b : Int) - 1)) = some (p[k + b - 1]):=by
    rw [Qa q0];have e : (b : Int) - 1 = ((b - 1 : Nat) : Int):=by omega
    rw [e];unfold idxW;rw [qr ⟨q0,q0⟩];simp only [Int.toNat_natCast];have:=o (k + b - 1) q0 q0;rw [show k + (b - 1) = k + b - 1 by omega];exact this
  have aj : p[k + b - 1]≤p[k + b]:=List.pairwise_iff_getElem.1 hp _ _ q0 u q0
  have l : p[k + b - 1]∈p.take (k + b):=by
    rw [List.mem_take_iff_getElem];exact ⟨k + b - 1,q0,rfl⟩
  have f : p.take (k + (b + 1)) = p.take (k + b) ++ [p[k + b]]:=by rw [← Nat.add_assoc,List.take_succ_eq_append_getElem u]
  have hw : w64 ((b : Int) + 1) = ((b + 1 : Nat) : Int):=w64s (n:=p.length) q0 hl;by_cases z : p[k + b] = p[k + b - 1]
  · refine ⟨i,a,?_,h1,q0,fun j q r=>o j q q0,?_⟩
    · have c : (p[k + b] != p[k + b - 1]) = false:=by rw [z];simp
      simp only [q1v,hb,Q0,r1,r2,qk,c,Q4,hw]
    · rw [f];refine ⟨h5,fun x=>?_⟩;rw [v x];constructor
      · intro g;exact List.mem_append.2 (.inl g)
      · intro g;rcases List.mem_append.1 g with h | h
        · exact h
        · simp only [List.mem_singleton] at h;rw [h,z];exact l
  · have c : (p[k + b] != p[k + b - 1]) = true:=by simpa using z
    have m : i < a.length:=by omega
    have r3 : idx a (i : Int) = some a[i]:=Qz m;have s : w64 ((i : Int) + 1) = ((i + 1 : Nat) : Int):=w64s (n:=p.length) q0 hl;refine ⟨i + 1,a.set i p[k + b],?_,by simpa using h1,q0,fun j q r=>?_,?_⟩
    · simp only [q1v,hb,Q0,r1,r2,qk,c,r3,hw,s,Int.toNat_natCast]
    · rw [List.getElem?_set_ne q0];exact o j q q0
    · have e : (a.set i p[k + b]).take (i + 1) = a.take i ++ [p[k + b]]:=by
        rw [List.take_succ_eq_append_getElem (by simpa using m)];simp [List.take_set_of_le]
      rw [e,f];refine ⟨?_,fun x=>?_⟩
      · rw [List.pairwise_append];refine ⟨h5,qe,fun x g y hy=>?_⟩;simp only [List.mem_singleton] at hy;subst hy;have d:=(v x).1 g;rw [List.mem_take_iff_getElem] at d;obtain ⟨j,q,rfl⟩:=d
        have : p[j]≤p[k + b - 1]:=by
          by_cases t : j = k + b - 1
          · subst t;exact Int.le_refl _
          · exact List.pairwise_iff_getElem.1 hp _ _ q0 q0 q0
        omega
      · rw [List.mem_append,List.mem_append,v x]
theorem qqu {p : List Int} (hp : p.Pairwise (·≤·)) (o : p.length≤1000000) {k : Nat} (s : 0 < k) (m : k < p.length) (r : Yx (p.take (k + 1)) (p.take k)) :
    ∃ i : Nat,∃ a : List Int,loop q1v ((k : Int),(k,p.length - k),1,p) = some ((i : Int),a)∧a.length = p.length∧i≤p.length∧Yx p (a.take i):=by
  have h:=Jy (f:=q1v) (mk:=fun d (c : Nat × List Int)=>((c.1 : Int),(k,p.length - k),((d : Nat) : Int),c.2)) (p.length - k) (fun d c=>0 < d∧CInv p k d c.1 c.2)
    (fun b=>∃ i : Nat,∃ a : List Int,b = ((i : Int),a)∧a.length = p.length∧i≤p.length∧Yx p (a.take i))
    (fun d c n g=>by
      obtain ⟨v,a',t,z⟩:=qqv hp o s g.1 q0 g.2
      exact .inl ⟨(v,a'),t,q0,z⟩)
    (fun c g=>by
      obtain ⟨l,x,h3,h4,y⟩:=g;refine ⟨((c.1 : Int),c.2),?_,c.1,c.2,rfl,x,q0,?_⟩
      · simp only [q1v,dnl,Q4]
      · rwa [List.take_of_length_le q0] at y)
    (k0:=1) (c0:=(k,p)) q0 ⟨q0,rfl,qe,fun j u _=>by simp [u],r⟩
  obtain ⟨b,hb,i,a,rfl,q⟩:=h;exact ⟨i,a,hb,q⟩
theorem qir {p : List Int} (hp : p.Pairwise (·≤·)) (y : p.length≤1000000) :
    ∃ w a,Uy p = some ((0,w),a)∧a.length = p.length∧w≤p.length∧Yx p (a.take w):=by
  unfold Uy;by_cases hs : p.length < 2
  · rw [Qb (by omega : (p.length : Int) < 2),Q0];refine ⟨p.length,p,rfl,rfl,Nat.le_refl _,?_⟩;rw [List.take_length];refine ⟨?_,fun x=>Iff.rfl⟩
    match p,hs with
    | [],_=>simp
    | [x],_=>simp
  rw [Q9 (by omega : ¬ (p.length : Int) < 2),Q4]
  have b : ∀ k,k≤p.length→(∀ j (n : j < k),0 < j→∀ h : j < p.length,p[j]≠p[j - 1])→Yx (p.take k) (p.take k):=by
    intro k g q;refine ⟨?_,fun x=>Iff.rfl⟩;rw [List.pairwise_iff_getElem];intro i j hi n z;simp only [List.length_take] at hi n;simp only [List.getElem_take];have m : p[j - 1]≤p[j]:=List.pairwise_iff_getElem.1 hp _ _ q0 q0 q0;have r:=q j q0 q0 q0
    have h3 : p[i]≤p[j - 1]:=by
      by_cases e : i = j - 1
      · subst e;exact Int.le_refl _
      · exact List.pairwise_iff_getElem.1 hp _ _ q0 q0 q0
    omega
  have c : ∀ k,0 < k→∀ h : k < p.length,p[k]≠p[k - 1]→Jg p (k : Int) = some (.inl ((k + 1 : Nat) : Int)):=by
    intro k d h q;have u : idx p (w64 ((k : Int) - 1)) = some (p[k - 1]):=by rw [Qa q0];exact Jb q0 q0
    have hb : (p[k] == p[k - 1]) = false:=by simpa using q
    simp only [Jg,dlt h,Q0,Qz h,u,qk,hb,Q4,w64s h y]
  by_cases t : ∀ j,0 < j→∀ h : j < p.length,p[j]≠p[j - 1]
  · have m : loop (Jg p) 1 = some (.inl ()):=by
      exact Zi (f:=Jg p) (fun k=>((k + 1 : Nat) : Int)) (p.length - 1) _ (fun k g=>by
        exact c (k + 1) q0 q0 (t (k + 1) q0 q0)) (by
        show Jg p (((p.length - 1) + 1 : Nat) : Int) = _;rw [show p.length - 1 + 1 = p.length by omega]
        simp only [Jg,dnl,Q4]) (Nat.zero_le _)
    rw [m];refine ⟨p.length,p,rfl,rfl,Nat.le_refl _,?_⟩;have:=b p.length (Nat.le_refl _) fun j _ d h=>t j d h;rw [List.take_length] at this ⊢;exact this
  · have r : ∃ k,(0 < k∧∃ h : k < p.length,p[k] = p[k - 1])∧∀ j,j < k→¬ (0 < j∧∃ h : j < p.length,p[j] = p[j - 1]):=by
      have : ∃ k,0 < k∧∃ h : k < p.length,p[k] = p[k - 1]:=by
        refine Classical.byContradiction fun hn=>t fun j d h o=>hn ⟨j,d,h,o⟩
      obtain ⟨k,g⟩:=this
      induction k using Nat.strongRecOn with
      | _ k ih=>
        by_cases n : ∃ j,j < k∧(0 < j∧∃ h : j < p.length,p[j] = p[j - 1])
        · obtain ⟨j,m,r⟩:=n;exact ih j m r
        · exact ⟨k,g,fun j m r=>n ⟨j,m,r⟩⟩
    obtain ⟨k,⟨d,g,o⟩,l⟩:=r;have v : Yx (p.take k) (p.take k):=b k q0 fun j n d h o=>l j n ⟨d,h,o⟩
    have s : Yx (p.take (k + 1)) (p.take k):=by
      refine ⟨v.1,fun x=>?_⟩;rw [List.take_succ_eq_append_getElem g,List.mem_append];refine ⟨.inl,fun h=>h.elim id fun h=>?_⟩;simp only [List.mem_singleton] at h;rw [h,o,List.mem_take_iff_getElem];exact ⟨k - 1,q0,rfl⟩
    obtain ⟨i,a,e1,e2,e3,e4⟩:=qqu hp y d g s;have s1 : sub2 p.length (k : Int) (p.length : Int) = some (k,p.length - k):=by unfold sub2;rw [qr ⟨q0,q0,q0⟩];simp
    have s2 : sub2 a.length (i : Int) (a.length : Int) = some (i,a.length - i):=by unfold sub2;rw [qr ⟨q0,q0,q0⟩];simp
    have s3 : sub2 a.length 0 (i : Int) = some (0,i):=by unfold sub2;rw [qr ⟨q0,q0,q0⟩];simp
    have u : idx p (w64 ((k : Int) - 1)) = some (p[k - 1]):=by rw [Qa q0];exact Jb q0 q0
    have m : loop (Jg p) 1 = some (.inr ((0,i),clrw a (i,a.length - i) 0)):=by
      exact Zi (f:=Jg p) (fun k=>((k + 1 : Nat) : Int)) (k - 1) _ (fun j n=>by
        exact c (j + 1) q0 q0 fun o=>l (j + 1) q0 ⟨q0,q0,o⟩) (by
        show Jg p (((k - 1) + 1 : Nat) : Int) = _;rw [show k - 1 + 1 = k by omega];have hb : (p[k] == p[k - 1]) = true:=by simpa using o
        simp only [Jg,dlt g,Q0,Qz g,u,qk,hb,s1,e1,s2,s3]) (Nat.zero_le _)
    rw [m];refine ⟨i,clrw a (i,a.length - i) 0,rfl,by rw [qii (by simp;omega)];exact e2,e3,?_⟩
    have : (clrw a (i,a.length - i) 0).take i = a.take i:=by
      unfold clrw splice;rw [List.append_assoc,List.take_append_of_le_length (by simp;omega)];simp [List.take_take]
    rw [this];exact e4
end Go.Sh
namespace Go.Sh
open Go Go.Am
theorem q8n {α : Type} [DecidableEq α] (e : α→α→Bool) (j : ∀ v w,e v w = decide (v = w)) (p q : List α) (s : p.length≤1000000) (f : Int→Option (Int ⊕ (Unit ⊕ Bool)))
    (d : ∀ k,f k = cond (decide (k < (p.length : Int))) ((idx p k).bind fun v=>(idx q k).bind fun w=>cond (!(e v w)) (some (.inr (.inr false))) (some (.inl (w64 (k + 1))))) (some (.inr (.inl ())))) :
    cond ((p.length : Int) != (q.length : Int)) (some false) ((loop f 0).bind fun m=>(match m with | .inl _=>some true | .inr x=>some x)) = some (decide (p = q)):=by
  by_cases a : p.length = q.length
  · have : ((p.length : Int) != (q.length : Int)) = false:=by rw [a];simp
    rw [this,Q4]
    let c : Nat→Bool:=fun k=>if h : k < p.length then !(e p[k] (q[k]'(q0))) else false
    have hs : ∀ (k : Nat) (h : k < (List.range p.length).length),f (k : Int) = some (if c (List.range p.length)[k] = true then .inr (.inr false) else .inl ((k + 1 : Nat) : Int)):=by
      intro k h;have h : k < p.length:=by simpa using h
      rw [d];simp only [dlt h,Q0,Qz h,Qz (xs:=q) (k:=k) q0,qk,List.getElem_range,c,dif_pos h,w64s h s];cases e p[k] (q[k]'(q0)) <;> simp
    have hd : f ((List.range p.length).length : Int) = some (.inr (.inl ())):=by rw [d];simp []
    rcases Ui (List.range p.length) c (fun _ _=>false) () f hs hd with ⟨r,b⟩ | ⟨k,n,l,_,b⟩
    · rw [b]
      have : p = q:=by
        refine List.ext_getElem a fun k g t=>?_;have:=r k (by simpa using g);simp only [c,dif_pos g,j,Bool.not_eq_false',decide_eq_true_eq] at this;exact this
      simp [this]
    · rw [b];have o : k < p.length:=by simpa using n
      have : p≠q:=by
        intro h;simp only [List.getElem_range,c,j,h] at l;simp at l
      simp [this]
  · have : ((p.length : Int) != (q.length : Int)) = true:=by simpa using (fun h : (p.length : Int) = q.length=>a q0)
    rw [this,Q0];have : p≠q:=fun h=>a (by rw [h]);simp [this]
theorem qew (p q : List qj) (a : p.length≤1000000) : q6p p q = some (decide (p = q)):=
  q8n (fun v w=>((v.Lo == w.Lo) && ((v.Hi == w.Hi) && true))) (fun v w=>by cases v;cases w;rw [Bool.eq_iff_iff];simp) p q a (qd8 p q) (fun _=>rfl)
theorem qn4 (p q : List qj) (a : p.length≤1000000) : q5x p q = some (decide (p = q)):=
  q8n (fun v w=>((v.Lo == w.Lo) && ((v.Hi == w.Hi) && true))) (fun v w=>by cases v;cases w;rw [Bool.eq_iff_iff];simp) p q a (qcl p q) (fun _=>rfl)
theorem qev (p q : List qi) (a : p.length≤1000000) : q6o p q = some (decide (p = q)):=
  q8n (fun v w=>((v.X0 == w.X0) && ((v.Y0 == w.Y0) && ((v.X1 == w.X1) && ((v.Y1 == w.Y1) && true))))) (fun v w=>by cases v;cases w;rw [Bool.eq_iff_iff];simp) p q a (qd6 p q) (fun _=>rfl)
theorem qcz (p q : List qi) (a : p.length≤1000000) : q2w p q = some (decide (p = q)):=
  q8n (fun v w=>((v.X0 == w.X0) && ((v.Y0 == w.Y0) && ((v.X1 == w.X1) && ((v.Y1 == w.Y1) && true))))) (fun v w=>by cases v;cases w;rw [Bool.eq_iff_iff];simp) p q a (qcm p q) (fun _=>rfl)
theorem sameBox (p q : List qg) (a : p.length≤1000000) : qcq p q = some (decide (p = q)):=
  q8n (fun v w=>((v.Lo.X == w.Lo.X) && ((v.Lo.Y == w.Lo.Y) && ((v.Lo.Z == w.Lo.Z) && ((v.Hi.X == w.Hi.X) && ((v.Hi.Y == w.Hi.Y) && ((v.Hi.Z == w.Hi.Z) && true))))))) (fun v w=>by rcases v with ⟨⟨_,_,_⟩,⟨_,_,_⟩⟩;rcases w with ⟨⟨_,_,_⟩,⟨_,_,_⟩⟩;rw [Bool.eq_iff_iff];simp [and_assoc]) p q a (qcr p q) (fun _=>rfl)
structure Mg (σ β : Type) where
  done : List β
  sec : List σ
  lo : Int
  hi : Int
section
variable {σ β : Type} [DecidableEq σ] (put : Int→Int→σ→β)
def Mg.flat (s : Mg σ β) : List β:=s.done ++ s.sec.map (put s.lo s.hi)
def addM (s : Mg σ β) (a b : Int) (c : List σ) : Mg σ β:=if c≠[]∧c = s.sec∧s.hi = a then ⟨s.done,s.sec,s.lo,b⟩ else ⟨s.flat put,c,a,b⟩
def Qv : Mg σ β:=⟨[],[],0,0⟩
def Qy (s0 : Mg σ β) (steps : List (Int × Int × List σ)) : Mg σ β:=steps.foldl (fun s t=>addM put s t.1 t.2.1 t.2.2) s0
theorem q3t {s0 : Mg σ β} {steps : List (Int × Int × List σ)} {i : Nat} (h : i < steps.length) : Qy put s0 (steps.take (i + 1)) = addM put (Qy put s0 (steps.take i)) steps[i].1 steps[i].2.1 steps[i].2.2:=by
  unfold Qy;rw [List.take_succ_eq_append_getElem h,List.foldl_append];rfl
theorem qe4 (s : Mg σ β) (a b : Int) (c : List σ) : (addM put s a b c).hi = b:=by unfold addM;split <;> rfl
theorem qe5 (s : Mg σ β) (a b : Int) (c : List σ) : ((addM put s a b c).flat put).length≤(s.flat put).length + c.length:=by
  unfold addM;split
  · simp [Mg.flat]
  · simp [Mg.flat];omega
theorem qbu {s0 : Mg σ β} {M : Nat} : ∀ {steps : List (Int × Int × List σ)},(∀ t∈steps,t.2.2.length≤M)→((Qy put s0 steps).flat put).length≤(s0.flat put).length + steps.length * M:=by
  intro steps
  induction steps generalizing s0 with
  | nil=>intro _;simp [Qy]
  | cons t r ih=>
    intro h;have f:=ih (s0:=addM put s0 t.1 t.2.1 t.2.2) fun u a=>h u (by simp [a]);have c:=qe5 put s0 t.1 t.2.1 t.2.2;have d:=h t qe;have b : Qy put s0 (t::r) = Qy put (addM put s0 t.1 t.2.1 t.2.2) r:=rfl;rw [b];simp only [List.length_cons,Nat.succ_mul];omega
end
section
variable {σ : Type}
def Y6 (cuts : List Int) (sec : Int→List σ) : List (Int × Int × List σ):=(cuts.zip cuts.tail).map fun c=>(c.1,c.2,sec c.1)
theorem q7u (a : List Int) (sec : Int→List σ) : (Y6 a sec).length = a.length - 1:=by simp [Y6]
theorem q7t {a : List Int} {sec : Int→List σ} {i : Nat} (h : i < (Y6 a sec).length) (b : i + 1 < a.length) : (Y6 a sec)[i] = (a[i],a[i + 1],sec a[i]):=by
  simp [Y6]
theorem q12s {a : List Int} {sec : Int→List σ} {M : Nat} (h : ∀ x,(sec x).length≤M) : ∀ t∈Y6 a sec,t.2.2.length≤M:=by
  intro t b;simp only [Y6,List.mem_map] at b;obtain ⟨c,_,rfl⟩:=b;exact h _
end
theorem U4 {σ β : Type} [DecidableEq σ] (put : Int→Int→σ→β) (s : Mg σ β) (a b : Int) (c : List σ) : (c≠[]∧c = s.sec∧s.hi = a∧addM put s a b c = ⟨s.done,s.sec,s.lo,b⟩)∨(¬ (c≠[]∧c = s.sec∧s.hi = a)∧addM put s a b c = ⟨s.flat put,c,a,b⟩):=by
  unfold addM;split
  · rename_i h;exact .inl ⟨h.1,h.2.1,h.2.2,rfl⟩
  · rename_i h;exact .inr ⟨h,rfl⟩
def putR (a b : Int) (t : qj) : qi:={X0:=a,Y0:=t.Lo,X1:=b,Y1:=t.Hi}
theorem qi6 (s : Mg qj qi) (a b : Int) (c : List qj) (hl : (s.flat putR).length + c.length≤1000000) :
    q6e (s.flat putR) s.sec (s.done.length : Int) s.hi a b c = some ((addM putR s a b c).sec,((addM putR s a b c).done.length : Int),(addM putR s a b c).hi,(addM putR s a b c).flat putR):=by
  have d : s.sec.length≤1000000:=by have : (s.flat putR).length = s.done.length + s.sec.length:=(by simp [Mg.flat]);omega
  unfold q6e;rcases U4 putR s a b c with ⟨p,r,x,m⟩ | ⟨p,m⟩
  · have hb : decide ((c.length : Int) > 0) = true:=Qb (by have:=List.length_pos_iff.2 p;omega);have y : (s.hi == a) = true:=by simpa using x
    rw [r] at hb;rw [m,r];simp only [hb,Q0,y,qk,qew _ _ d,decide_true]
    have:=q5b (fun v : qi=>({X0:=v.X0,Y0:=v.Y0,X1:=b,Y1:=v.Y1} : qi)) s.done (s.sec.map (putR s.lo s.hi)) (by have : (s.done ++ s.sec.map (putR s.lo s.hi)).length = (s.flat putR).length:=rfl;omega) (q6f b) (fun k o f u=>by
      have l : (s.done ++ s.sec.map (putR s.lo s.hi)).length = (s.flat putR).length:=rfl
      simp only [q6f,dlt f,Q0,Qz f,qk,w64s f q0,Int.toNat_natCast]) (fun o=>by simp only [q6f,dnl,Q4])
    rw [show s.flat putR = s.done ++ s.sec.map (putR s.lo s.hi) from rfl,this];simp only [qk,Mg.flat,List.map_map];rfl
  · rw [m]
    have z : ((cond (decide ((c.length : Int) > 0)) (some (s.hi == a)) (some false)).bind fun g=>(cond g ((q6p s.sec c).bind fun j=>some j) (some false))) = some false:=by
      by_cases l : c = []
      · subst l;simp
      · have hb : decide ((c.length : Int) > 0) = true:=Qb (by have:=List.length_pos_iff.2 l;omega);simp only [hb,Q0,qk,qew _ _ d];by_cases q : s.hi = a
        · have t : s.sec≠c:=fun h=>p ⟨l,h.symm,q⟩;simp [q,t]
        · have : (s.hi == a) = false:=by simpa using q
          simp [this]
    have n:=q5n c (putR a b) (s.flat putR) (fun o=>(c,((s.flat putR).length : Int),b,o)) (q6g c a b (s.flat putR)) (fun k f o u=>by
      simp only [q6g,dlt f,Q0,Qz f,qk,w64s f q0];rw [Y7 (by simp;omega)]
      rfl) (fun o=>by simp only [q6g,dnl,Q4])
    rw [← Option.bind_assoc,z];simp only [qk,Q4,n];simp [Mg.flat]
end Go.Sh
namespace Go.Sh
open Go Go.Am
def vR (r : qi) : Prop:=r.X0 < r.X1∧r.Y0 < r.Y1∧-1000000≤r.X0∧r.X0≤1000000∧-1000000≤r.X1∧r.X1≤1000000∧-1000000≤r.Y0∧r.Y0≤1000000∧-1000000≤r.Y1∧r.Y1≤1000000
instance (r : qi) : Decidable (vR r):=by unfold vR;infer_instance
theorem qro (x : Int) : q2z x = some (decide (-1000000≤x∧x≤1000000)):=by
  unfold q2z;by_cases h : x ≥ -1000000 <;> by_cases a : x≤1000000 <;> simp [h,a] <;> omega
theorem qov (r : qi) : q6i r = some (decide (vR r)):=by
  unfold q6i;simp only [qro,qqw,qk,vR];by_cases d : r.X0 < r.X1 <;> by_cases b : r.Y0 < r.Y1 <;> by_cases g : -1000000≤r.X0∧r.X0≤1000000 <;> by_cases c : -1000000≤r.X1∧r.X1≤1000000 <;> by_cases f : -1000000≤r.Y0∧r.Y0≤1000000 <;> by_cases a : -1000000≤r.Y1∧r.Y1≤1000000 <;> simp [d,b,g,c,f,a] <;> omega
def covR (x : Int) (r : qi) : Bool:=decide (r.X0≤x) && decide (x < r.X1)
def ysp (r : qi) : qj:={Lo:=r.Y0,Hi:=r.Y1}
def covS (l : List qi) (x : Int) : List qj:=l.flatMap fun r=>if covR x r = true then [ysp r] else []
def hasR (l : List qi) (x y : Int) : Prop:=∃ r∈l,r.X0≤x∧x < r.X1∧r.Y0≤y∧y < r.Y1
theorem qc8 {l : List qi} {x : Int} {t : qj} : t∈covS l x↔∃ r∈l,covR x r = true∧t = ysp r:=by
  unfold covS;rw [List.mem_flatMap];constructor
  · rintro ⟨r,a,h⟩;split at h
    · rename_i b;simp only [List.mem_singleton] at h;exact ⟨r,a,b,h⟩
    · cases h
  · rintro ⟨r,a,b,rfl⟩;exact ⟨r,a,by simp [b]⟩
theorem Ut {l : List qi} {x y : Int} : has (covS l x) y↔hasR l x y:=by
  unfold has hasR;constructor
  · rintro ⟨t,g,c,a⟩;obtain ⟨r,b,d,rfl⟩:=qc8.1 g;simp only [covR,Bool.and_eq_true,decide_eq_true_eq] at d;exact ⟨r,b,d.1,d.2,c,a⟩
  · rintro ⟨r,b,c,a,h,f⟩;exact ⟨ysp r,qc8.2 ⟨r,b,by simp [covR,c,a],rfl⟩,h,f⟩
theorem Uh (l : List qi) (x : Int) : (covS l x).length≤l.length:=by
  unfold covS
  induction l with
  | nil=>simp
  | cons r l ih=>
    simp only [List.flatMap_cons,List.length_append,List.length_cons];have : (if covR x r = true then [ysp r] else []).length≤1:=by split <;> simp
    omega
theorem qiz {l : List qi} (h : ∀ r∈l,vR r) (x : Int) : ∀ t∈covS l x,vld t:=by
  intro t d;obtain ⟨r,c,_,rfl⟩:=qc8.1 d;obtain ⟨_,a,_,_,_,_,f,_,_,b⟩:=h r c;exact ⟨a,f,b⟩
def xsOf (l : List qi) : List Int:=l.flatMap fun r=>[r.X0,r.X1]
def ysOf (l : List qi) : List Int:=l.flatMap fun r=>[r.Y0,r.Y1]
theorem Jl (l : List qi) : (xsOf l).length = 2 * l.length:=by
  unfold xsOf;induction l with
  | nil=>rfl
  | cons r l ih=>simp only [List.flatMap_cons,List.length_append,List.length_cons,List.length_nil];omega
theorem qb3 (l : List qi) : (ysOf l).length = 2 * l.length:=by
  unfold ysOf;induction l with
  | nil=>rfl
  | cons r l ih=>simp only [List.flatMap_cons,List.length_append,List.length_cons,List.length_nil];omega
theorem qj9 {l : List qi} {x y : Int} (h : y∈ends (covS l x)) : y∈ysOf l:=by
  obtain ⟨t,b,h⟩:=q8w.1 h;obtain ⟨r,a,_,rfl⟩:=qc8.1 b;unfold ysOf;rw [List.mem_flatMap];exact ⟨r,a,by rcases h with h | h <;> simp [h,ysp]⟩
noncomputable def Qs (l : List Int) : List Int:=(U0 l).getD []
theorem J6 {l : List Int} (c : l.length≤1000000) : U0 l = some (Qs l)∧Yx l (Qs l)∧(Qs l).length≤l.length:=by
  obtain ⟨t,a,d,b⟩:=qnz l c;unfold Qs;rw [a];exact ⟨rfl,d,b⟩
noncomputable def secJ (kind : Int) (p q : List qi) (x : Int) : List qj:=Jc kind (covS p x) (covS q x)
theorem qgv (kind : Int) {p q : List qi} (h : p.length + q.length≤100000) (x : Int) : (secJ kind p q x).length≤2 * (p.length + q.length):=by
  have a:=Uh p x;have b:=Uh q x;have:=(q5k kind (covS p x) (covS q x) q0 q0).2.len;unfold secJ;omega
noncomputable def mrg (kind : Int) (p q : List qi) : Mg qj qi:=Qy putR Qv (Y6 (Qs (xsOf p ++ xsOf q)) (secJ kind p q))
noncomputable def mrgR (kind : Int) (p q : List qi) : List qi:=(mrg kind p q).flat putR
theorem q8i {p q : List qi} (h : p.length + q.length≤490) : U0 (xsOf p ++ xsOf q) = some (Qs (xsOf p ++ xsOf q))∧Yx (xsOf p ++ xsOf q) (Qs (xsOf p ++ xsOf q))∧(Qs (xsOf p ++ xsOf q)).length≤2 * (p.length + q.length):=by
  have f:=Jl p;have d:=Jl q;obtain ⟨a,b,c⟩:=J6 (l:=xsOf p ++ xsOf q) (by simp;omega);exact ⟨a,b,by simp at c;omega⟩
theorem qet {p q : List qi} (h : p.length + q.length≤490) : U0 (ysOf p ++ ysOf q) = some (Qs (ysOf p ++ ysOf q))∧Yx (ysOf p ++ ysOf q) (Qs (ysOf p ++ ysOf q))∧(Qs (ysOf p ++ ysOf q)).length≤2 * (p.length + q.length):=by
  have f:=qb3 p;have d:=qb3 q;obtain ⟨a,b,c⟩:=J6 (l:=ysOf p ++ ysOf q) (by simp;omega);exact ⟨a,b,by simp at c;omega⟩
theorem qln (kind : Int) {p q : List qi} (h : p.length + q.length≤490) (i : Nat) :
    ((Qy putR Qv ((Y6 (Qs (xsOf p ++ xsOf q)) (secJ kind p q)).take i)).flat putR).length≤980 * 980:=by
  have d:=qbu putR (s0:=Qv) (M:=980) (steps:=(Y6 (Qs (xsOf p ++ xsOf q)) (secJ kind p q)).take i) (fun t b=>by
    have:=q12s (M:=2 * (p.length + q.length)) (fun x=>qgv kind q0 x) t (List.mem_of_mem_take b)
    omega)
  have a : ((Y6 (Qs (xsOf p ++ xsOf q)) (secJ kind p q)).take i).length≤980:=by
    have:=(q8i h).2.2;rw [List.length_take,q7u];omega
  have f : (Qv.flat putR : List qi).length = 0:=rfl;have c : ((Y6 (Qs (xsOf p ++ xsOf q)) (secJ kind p q)).take i).length * 980≤980 * 980:=Nat.mul_le_mul_right _ a;omega
theorem qtj (l : List qi) (y : l.length≤400) :
    (((idx [l] 0).bind fun g=>(loop (Zx g) (0,[])).bind fun x0=>some x0).bind fun f=>(U2 f).bind fun c=>(K2 c.length f.length).bind fun _=>(Uy c).bind fun b=>(K2 b.2.length c.length).bind fun _=>(q14 b.2.length b.1).bind fun _=>some ((b.2.drop b.1.1).take b.1.2)) = some (Qs (xsOf l)):=by
  have p : idx [l] 0 = some l:=rfl
  have u : loop (Zx l) (0,[]) = some (xsOf l):=by
    have:=Js l q0 (fun r=>[r.X0,r.X1]) [] (fun o=>o) (Zx l) (fun k h o q=>by
      have v : o.length = 2 * k:=by rw [q,List.nil_append];have:=Jl (l.take k);rw [List.length_take,Nat.min_eq_left q0] at this;exact this
      simp only [Zx,dlt h,Q0,Qz h,qk,w64s h q0];rw [Y7 (by simp;omega)]
      rfl) (fun o=>by simp only [Zx,dnl,Q4])
    rw [List.nil_append] at this;exact this
  have z:=Jl l;obtain ⟨ys,s,m,t⟩:=qnx (xsOf l) q0;have j : ys.length = (xsOf l).length:=m.length_eq;obtain ⟨w,a,c1,c2,c3,c4⟩:=qir t q0;obtain ⟨_,n,_⟩:=J6 (l:=xsOf l) q0
  have d : a.take w = Qs (xsOf l):=by
    refine qny (l:=xsOf l) ⟨c4.1,fun x=>?_⟩ n;rw [c4.2 x];exact m.mem_iff
  simp only [p,qk,u,s,K2,j,if_true,c1,c2,q14];rw [qr q0];simp only [qk,List.drop_zero,d]
theorem qfw (l : List qi) (g : l.length≤400) (x : Int) : loop (Uc l x) (0,[]) = some (covS l x):=by
  have:=Js l q0 (fun r=>if covR x r = true then [ysp r] else []) [] (fun o=>o) (Uc l x) (fun k a o d=>by
    have f : o.length≤k:=by rw [d,List.nil_append];have:=Uh (l.take k) x;rw [List.length_take,Nat.min_eq_left q0] at this;exact this
    simp only [Uc,dlt a,Q0,Qz a,qk,w64s a q0];by_cases b : l[k].X0≤x
    · by_cases c : x < l[k].X1
      · simp only [b,c,decide_true,Q0,qk,covR,Bool.and_self,if_true];rw [Y7 (by simp;omega)];rfl
      · simp only [b,c,decide_true,decide_false,Q0,Q4,qk,covR,Bool.and_false,if_false,Bool.false_eq_true,List.append_nil]
    · simp only [b,decide_false,Q4,qk,covR,Bool.false_and,if_false,Bool.false_eq_true,List.append_nil]) (fun o=>by simp only [Uc,dnl,Q4])
  rw [List.nil_append] at this;exact this
theorem qlb (l : List qi) (v : l.length≤400) (hv : ∀ r∈l,vR r) : q6h l = some (if 400 < (mrgR 2 l []).length then ([],4) else (mrgR 2 l [],0)):=by
  unfold q6h;rw [qtj l v];simp only [qk];have c : Qs (xsOf l ++ xsOf []) = Qs (xsOf l):=by simp [xsOf]
  obtain ⟨_,o,a⟩:=q8i (p:=l) (q:=[]) (by simp;omega);have g:=fun i=>qln 2 (p:=l) (q:=[]) (by simp;omega) i;rw [c] at o a;have a : (Qs (xsOf l)).length≤2 * l.length:=by simpa using a
  have d : loop (q30 (Qs (xsOf l)) l) (1,[],0,0,[]) = some ((mrg 2 l []).sec,((mrg 2 l []).done.length : Int),(mrg 2 l []).hi,mrgR 2 l []):=by
    unfold mrgR mrg;rw [c] at g ⊢;generalize h : Y6 (Qs (xsOf l)) (secJ 2 l []) = steps at g ⊢;have y : steps.length = (Qs (xsOf l)).length - 1:=by rw [← h];exact q7u _ _
    have j : Qy putR Qv (steps.take steps.length) = Qy putR Qv steps:=by rw [List.take_length]
    have key:=Zi (f:=q30 (Qs (xsOf l)) l) (fun k=>(((k + 1 : Nat) : Int),(Qy putR Qv (steps.take k)).sec,((Qy putR Qv (steps.take k)).done.length : Int),(Qy putR Qv (steps.take k)).hi,(Qy putR Qv (steps.take k)).flat putR))
      steps.length ((Qy putR Qv steps).sec,((Qy putR Qv steps).done.length : Int),(Qy putR Qv steps).hi,(Qy putR Qv steps).flat putR) (fun k s=>by
        have b : k + 1 < (Qs (xsOf l)).length:=by omega
        have x : steps[k] = ((Qs (xsOf l))[k],(Qs (xsOf l))[k + 1],secJ 2 l [] (Qs (xsOf l))[k]):=by
          subst h;exact q7t s b
        have z : idx (Qs (xsOf l)) (w64 (((k + 1 : Nat) : Int) - 1)) = some (Qs (xsOf l))[k]:=by rw [Qa q0];exact Jb q0 q0
        have ab:=Uh l (Qs (xsOf l))[k]
        have n : q7r (covS l (Qs (xsOf l))[k]) = some (secJ 2 l [] (Qs (xsOf l))[k],0):=by
          rw [qtk];unfold qfx;rw [qs q0,qr (qiz hv _)];rfl
        have m:=qgv 2 (p:=l) (q:=[]) (by simp;omega) (Qs (xsOf l))[k];have u:=g k;have hb:=qi6 (Qy putR Qv (steps.take k)) (Qs (xsOf l))[k] (Qs (xsOf l))[k + 1] (secJ 2 l [] (Qs (xsOf l))[k]) (by simp at m;omega);rw [q3t putR s,x];simp only [q30,dlt b,Q0,z,Qz b,qk,show idx [l] 0 = some l from rfl,qfw l v,n,hb]
        rw [w64s b q0]) (by
        rw [j];by_cases h0 : (Qs (xsOf l)).length = 0
        · have : decide (((steps.length + 1 : Nat) : Int) < ((Qs (xsOf l)).length : Int)) = false:=Q9 q0;simp only [q30,this,Q4]
        · have : decide (((steps.length + 1 : Nat) : Int) < ((Qs (xsOf l)).length : Int)) = false:=Q9 q0
          simp only [q30,this,Q4]) (Nat.zero_le _)
    exact key
  rw [d];simp only [qk];by_cases t : 400 < (mrgR 2 l []).length
  · rw [Qb (by omega : ((mrgR 2 l []).length : Int) > 400),qr t];rfl
  · rw [Q9 (by omega : ¬ ((mrgR 2 l []).length : Int) > 400),qs t];rfl
end Go.Sh
namespace Go.Sh
open Go Go.Am
theorem qvx {p q : List qi} (h : p.length + q.length≤490) : q94 p q = some (Qs (xsOf p ++ xsOf q)):=by
  have c : loop (q4b p) (0,[]) = some (xsOf p):=by
    have:=Js p q0 (fun r=>[r.X0,r.X1]) [] (fun o=>o) (q4b p) (fun k a o b=>by
      have d : o.length = 2 * k:=by rw [b,List.nil_append];have:=Jl (p.take k);rw [List.length_take,Nat.min_eq_left q0] at this;exact this
      simp only [q4b,dlt a,Q0,Qz a,qk,w64s a q0];rw [Y7 (by simp;omega)]
      rfl) (fun o=>by simp only [q4b,dnl,Q4])
    rw [List.nil_append] at this;exact this
  have f : loop (q4c q) (0,xsOf p) = some (xsOf p ++ xsOf q):=by
    have hp:=Jl p
    exact Js q q0 (fun r=>[r.X0,r.X1]) (xsOf p) (fun o=>o) (q4c q) (fun k a o b=>by
      have d : o.length = 2 * p.length + 2 * k:=by
        rw [b,List.length_append,hp];have:=Jl (q.take k);rw [List.length_take,Nat.min_eq_left q0] at this;unfold xsOf at this;omega
      simp only [q4c,dlt a,Q0,Qz a,qk,w64s a q0];rw [Y7 (by simp;omega)]
      rfl) (fun o=>by simp only [q4c,dnl,Q4])
  unfold q94;simp only [c,f,qk,(q8i h).1]
theorem qvz {p q : List qi} (h : p.length + q.length≤490) : q95 p q = some (Qs (ysOf p ++ ysOf q)):=by
  have c : loop (q4d p) (0,[]) = some (ysOf p):=by
    have:=Js p q0 (fun r=>[r.Y0,r.Y1]) [] (fun o=>o) (q4d p) (fun k a o b=>by
      have d : o.length = 2 * k:=by rw [b,List.nil_append];have:=qb3 (p.take k);rw [List.length_take,Nat.min_eq_left q0] at this;exact this
      simp only [q4d,dlt a,Q0,Qz a,qk,w64s a q0];rw [Y7 (by simp;omega)]
      rfl) (fun o=>by simp only [q4d,dnl,Q4])
    rw [List.nil_append] at this;exact this
  have f : loop (q4e q) (0,ysOf p) = some (ysOf p ++ ysOf q):=by
    have hp:=qb3 p
    exact Js q q0 (fun r=>[r.Y0,r.Y1]) (ysOf p) (fun o=>o) (q4e q) (fun k a o b=>by
      have d : o.length = 2 * p.length + 2 * k:=by
        rw [b,List.length_append,hp];have:=qb3 (q.take k);rw [List.length_take,Nat.min_eq_left q0] at this;unfold ysOf at this;omega
      simp only [q4e,dlt a,Q0,Qz a,qk,w64s a q0];rw [Y7 (by simp;omega)]
      rfl) (fun o=>by simp only [q4e,dnl,Q4])
  unfold q95;simp only [c,f,qk,(qet h).1]
open Classical in
theorem qmh (l : List qi) (x y : Int) (g : l.length≤1000000) : q5y l x y = some (decide (hasR l x y)):=by
  let c : qi→Bool:=fun r=>decide (r.X0≤x) && (decide (x < r.X1) && (decide (r.Y0≤y) && decide (y < r.Y1)))
  have hs : ∀ (k : Nat) (h : k < l.length),q2u l x y (k : Int) = some (if c l[k] = true then .inr (.inr true) else .inl ((k + 1 : Nat) : Int)):=by
    intro k h;simp only [q2u,dlt h,Q0,Qz h,qk,w64s h g,c];by_cases d : l[k].X0≤x <;> by_cases a : x < l[k].X1 <;> by_cases m : l[k].Y0≤y <;> by_cases q : y < l[k].Y1 <;> simp [d,a,m,q]
  have hd : q2u l x y (l.length : Int) = some (.inr (.inl ())):=by simp only [q2u,dnl,Q4]
  unfold q5y;rcases Ui l c (fun _ _=>true) () (q2u l x y) hs hd with ⟨d,a⟩ | ⟨k,n,b,_,a⟩
  · rw [a]
    have : ¬ hasR l x y:=by
      rintro ⟨r,j,o,p,s,f⟩;have:=d r j;simp [c,o,p,s,f] at this
    simp [this]
  · rw [a]
    have : hasR l x y:=by
      simp only [c,Bool.and_eq_true,decide_eq_true_eq] at b;exact ⟨l[k],Yf n,b.1,b.2.1,b.2.2.1,b.2.2.2⟩
    simp [this]
theorem qfj {kind : Int} {a b : Prop} (h : Kw kind a b) : a∨b:=by
  rcases h with ⟨_,h,_⟩ | ⟨_,h⟩ | ⟨_,_,h,_⟩
  · exact .inl h
  · exact h
  · exact .inl h
theorem qkk {kind : Int} {a b a' c : Prop} (d : a↔a') (f : b↔c) : Kw kind a b↔Kw kind a' c:=by
  unfold Kw;rw [d,f]
open Classical in
theorem qpv (kind : Int) {p q : List qi} (h : p.length + q.length≤490) (x : Int) :
    q45 (Qs (ysOf p ++ ysOf q)) ((Qs (ysOf p ++ ysOf q)).map fun y=>decide (Kw kind (hasR p x y) (hasR q x y))) = some (secJ kind p q x):=by
  obtain ⟨_,a,g⟩:=qet h;generalize Qs (ysOf p ++ ysOf q) = ys at a g ⊢;obtain ⟨c,o,k⟩:=qic ys (ys.map fun y=>decide (Kw kind (hasR p x y) (hasR q x y))) a.1 q0 qe;rw [o];have s:=Uh p x;have r:=Uh q x;have m:=(q5k kind (covS p x) (covS q x) q0 q0).2;have mp : ∀ z∈ends (covS p x),z∈ys:=fun z j=>(a.2 z).2 (List.mem_append.2 (.inl (qj9 j)));have mq : ∀ z∈ends (covS q x),z∈ys:=fun z j=>(a.2 z).2 (List.mem_append.2 (.inr (qj9 j)));congr 1;refine q58 k.can m.can fun z=>?_;unfold secJ;rw [k.pts z,m.pts z];constructor
  · rintro ⟨i,hi,n,_,f,b,d⟩;simp only [List.getElem_map,decide_eq_true_eq] at f;refine (qkk ?_ ?_).2 f
    · rw [q33 a.1 mp hi b d,Ut]
    · rw [q33 a.1 mq hi b d,Ut]
  · intro l
    have : ∃ i,∃ (h : i + 1 < ys.length),ys[i]≤z∧z < ys[i + 1]:=by
      rcases qfj l with h | h
      · exact qc2 a.1 mp h
      · exact qc2 a.1 mq h
    obtain ⟨i,hi,b,d⟩:=this;refine ⟨i,hi,by simp;omega,q0,?_,b,d⟩;simp only [List.getElem_map,decide_eq_true_eq];refine (qkk ?_ ?_).1 l
    · rw [q33 a.1 mp hi b d,Ut]
    · rw [q33 a.1 mq hi b d,Ut]
open Classical in
theorem qt2 (kind : Int) {p q : List qi} (h : p.length + q.length≤490) (ys xs : List Int) (d : ys.length≤1000000) (i : Nat) (hi : i < xs.length) (a : List qj × Int × Int × List qi) (f : a.2.2.1 = i) :
    loop (q49 ys xs a p q kind) (0,[]) = some (ys.map fun y=>decide (Kw kind (hasR p xs[i] y) (hasR q xs[i] y))):=by
  have:=q5n ys (fun y=>decide (Kw kind (hasR p xs[i] y) (hasR q xs[i] y))) [] (fun o=>o) (q49 ys xs a p q kind) (fun k b o c=>by
    simp only [q49,dlt b,Q0,f,Qz b,Qz hi,qk,qmh p _ _ q0,qmh q _ _ q0,qkl,w64s b d];rw [Y7 (by simp at c ⊢;omega)]
    rfl) (fun o=>by simp only [q49,dnl,Q4])
  rw [List.nil_append] at this;exact this
theorem qt3 (kind : Int) {p q : List qi} (h : p.length + q.length≤490) {xs : List Int} (hx : xs.length≤1000000) {i : Nat} (hi : i + 1 < xs.length) (s : Mg qj qi) (hl : (s.flat putR).length + (secJ kind p q xs[i]).length≤1000000)
    (h0 : i = 0→s.sec = []) (h1 : 0 < i→s.hi = xs[i]) :
    q2v xs (Qs (ysOf p ++ ysOf q)) p q kind (s.sec,(s.done.length : Int),(i : Int),s.flat putR) =
      some (.inl ((addM putR s xs[i] xs[i + 1] (secJ kind p q xs[i])).sec,((addM putR s xs[i] xs[i + 1] (secJ kind p q xs[i])).done.length : Int),((i + 1 : Nat) : Int),(addM putR s xs[i] xs[i + 1] (secJ kind p q xs[i])).flat putR)):=by
  have j : i < xs.length:=by omega
  have y : w64 ((i : Int) + 1) = ((i + 1 : Nat) : Int):=w64s j hx;have hy:=(qet h).2.2;have af : (s.flat putR).length = s.done.length + s.sec.length:=by simp [Mg.flat]
  have t:=qt2 kind h (Qs (ysOf p ++ ysOf q)) xs q0 i j (s.sec,(s.done.length : Int),(i : Int),s.flat putR) rfl;unfold q2v;simp only [y,dlt hi,Q0,t,qk,qpv kind h];generalize hc : secJ kind p q xs[i] = c at hl ⊢;by_cases a : 0 < i∧c = s.sec
  · obtain ⟨b,l⟩:=a;have hb : decide ((i : Int) > 0) = true:=Qb q0
    have d:=q5b (fun v : qi=>({X0:=v.X0,Y0:=v.Y0,X1:=xs[i + 1],Y1:=v.Y1} : qi)) s.done (s.sec.map (putR s.lo s.hi)) (by simp;omega) (q4a xs (s.sec,(s.done.length : Int),(i : Int),s.flat putR)) (fun k o f ho=>by
      have h5 : (s.done ++ s.sec.map (putR s.lo s.hi)).length = (s.flat putR).length:=rfl
      simp only [q4a,dlt f,Q0,Qz f,Qz hi,y,qk,w64s f q0,Int.toNat_natCast]) (fun o=>by simp only [q4a,dnl,Q4])
    have z : q5x c s.sec = some true:=by rw [qn4 _ _ q0];simp [l]
    have d : loop (q4a xs (s.sec,(s.done.length : Int),(i : Int),s.flat putR)) ((s.done.length : Int),s.flat putR) = _:=d;simp only [hb,Q0,z,qk,d];rcases U4 putR s xs[i] xs[i + 1] c with ⟨_,_,_,g⟩ | ⟨h3,g⟩
    · rw [g];simp only [Mg.flat,List.map_map];rfl
    · have m : c = []:=Classical.byContradiction fun hn=>h3 ⟨hn,l,h1 b⟩;rw [g];simp [Mg.flat,← l,m]
  · have r : (cond (decide ((i : Int) > 0)) ((q5x c s.sec).bind fun n=>some n) (some false)) = some false:=by
      by_cases b : 0 < i
      · have hb : decide ((i : Int) > 0) = true:=Qb q0;have u : c≠s.sec:=fun h=>a ⟨b,h⟩;rw [hb,Q0,qn4 _ _ q0];simp [u]
      · have hb : decide ((i : Int) > 0) = false:=Q9 q0;rw [hb,Q4]
    have x:=q5n c (putR xs[i] xs[i + 1]) (s.flat putR) (fun o=>(c,((s.flat putR).length : Int),o)) (q5z c xs (s.sec,(s.done.length : Int),(i : Int),s.flat putR)) (fun k f o ho=>by
      simp only [q5z,dlt f,Q0,Qz f,Qz j,Qz hi,y,qk,w64s f q0];rw [Y7 (by simp;omega)]
      rfl) (fun o=>by simp only [q5z,dnl,Q4])
    have g : addM putR s xs[i] xs[i + 1] c = ⟨s.flat putR,c,xs[i],xs[i + 1]⟩:=by
      rcases U4 putR s xs[i] xs[i + 1] c with ⟨g1,g2,_,_⟩ | ⟨_,g⟩
      · refine absurd ?_ a;refine ⟨Nat.pos_of_ne_zero fun h=>g1 ?_,g2⟩;rw [g2,h0 h]
      · exact g
    rw [g];simp only [r,qk,Q4,x];simp [Mg.flat]
theorem q60 (kind : Int) {p q : List qi} (h : p.length + q.length≤490) : Jf kind p q = some (mrgR kind p q):=by
  unfold Jf;rw [qvx h,qvz h];simp only [qk];obtain ⟨_,g,d⟩:=q8i h;have b:=fun i=>qln kind h i;unfold mrgR mrg;generalize Qs (xsOf p ++ xsOf q) = xs at g d b ⊢;generalize a : Y6 xs (secJ kind p q) = steps at b ⊢;have t : steps.length = xs.length - 1:=by rw [← a];exact q7u _ _
  have key:=Zi (f:=q2v xs (Qs (ysOf p ++ ysOf q)) p q kind) (fun k=>((Qy putR Qv (steps.take k)).sec,((Qy putR Qv (steps.take k)).done.length : Int),(k : Int),(Qy putR Qv (steps.take k)).flat putR))
    steps.length ((Qy putR Qv steps).flat putR) (fun k j=>by
      have c : k + 1 < xs.length:=by omega
      have s : steps[k] = (xs[k],xs[k + 1],secJ kind p q xs[k]):=by subst a;exact q7t j c
      have o:=qgv kind (p:=p) (q:=q) q0 xs[k];have n:=b k
      have:=qt3 kind h (xs:=xs) q0 c (Qy putR Qv (steps.take k)) q0 (fun r=>by subst r;rfl) (fun l=>by
        obtain ⟨m,rfl⟩ : ∃ m,k = m + 1:=⟨k - 1,q0⟩
        rw [q3t putR q0,qe4];subst a
        rw [q7t q0 q0])
      rw [this,q3t putR j,s]) (by
      rw [List.take_length]
      have hb : decide (w64 ((steps.length : Int) + 1) < (xs.length : Int)) = false:=by
        rw [Qa q0];exact Q9 q0
      unfold q2v
      simp only [hb,Q4]) (Nat.zero_le _)
  have key : loop (q2v xs (Qs (ysOf p ++ ysOf q)) p q kind) ([],0,0,[]) = some ((Qy putR Qv steps).flat putR):=key;rw [key];rfl
end Go.Sh
namespace Go.Sh
open Go Go.Am
noncomputable def Yj (l : List qi) : Int:=if 400 < l.length then 4 else if ∀ r∈l,vR r then (if mrgR 2 l [] = l then 0 else 8) else 8
theorem qqm {l : List qi} (h : Yj l = 0) : l.length≤400∧(∀ r∈l,vR r)∧mrgR 2 l [] = l:=by
  unfold Yj at h;split at h
  · omega
  · split at h
    · split at h
      · rename_i a b c;exact ⟨q0,b,c⟩
      · omega
    · omega
theorem qwu (l : List qi) (d : l.length≤1000000) : q9l l (fun x0=>q2x x0) = some (decide (¬ ∀ r∈l,vR r)):=by
  have hs : ∀ (k : Nat) (h : k < l.length),q4l l (fun x0=>q2x x0) (k : Int) = some (if (fun r=>!decide (vR r)) l[k] = true then .inr (.inr (k : Int)) else .inl ((k + 1 : Nat) : Int)):=by
    intro k h;simp only [q4l,dlt h,Q0,Qz h,qk,w64s h d,q2x,qov];by_cases c : vR l[k] <;> simp [c]
  have hd : q4l l (fun x0=>q2x x0) (l.length : Int) = some (.inr (.inl ())):=by simp only [q4l,dnl,Q4]
  unfold q9l qda;rcases Ui l (fun r=>!decide (vR r)) (fun k _=>(k : Int)) () _ hs hd with ⟨g,a⟩ | ⟨k,b,j,_,a⟩
  · rw [a];have : ∀ r∈l,vR r:=fun r f=>by simpa using g r f
    simp [];omega
  · rw [a];have : ¬ ∀ r∈l,vR r:=fun h=>by simp [h _ (Yf b)] at j
    simp only [qk];rw [Qb this,Qb q0]
theorem qwo (l : List qi) : q6c l = some (Yj l):=by
  unfold q6c Yj;by_cases d : 400 < l.length
  · rw [Qb (by omega : (l.length : Int) > 400),Q0,qr d]
  rw [Q9 (by omega : ¬ (l.length : Int) > 400),Q4,qs d,qwu l q0,qk];by_cases a : ∀ r∈l,vR r
  · rw [Q9 (fun h=>h a),Q4,qlb l q0 a,qr a,qk];by_cases b : 400 < (mrgR 2 l []).length
    · have c : mrgR 2 l []≠l:=fun h=>by rw [h] at b;exact d b
      rw [qr b,qs c];rfl
    · rw [qs b];simp only [qev (mrgR 2 l []) l q0];by_cases f : mrgR 2 l [] = l <;> simp [f]
  · rw [Qb a,Q0,qs a]
def putB (a b : Int) (r : qi) : qg:={Lo:={X:=r.X0,Y:=r.Y0,Z:=a},Hi:={X:=r.X1,Y:=r.Y1,Z:=b}}
def qjj (z : Int) : Prop:=-1000000≤z∧z≤1000000
instance (z : Int) : Decidable (qjj z):=by unfold qjj;infer_instance
end Go.Sh
namespace Go.Sh
open Go Go.Am
def covB (z : Int) (b : qg) : Bool:=decide (b.Lo.Z≤z) && decide (z < b.Hi.Z)
def Zw (b : qg) : qi:={X0:=b.Lo.X,Y0:=b.Lo.Y,X1:=b.Hi.X,Y1:=b.Hi.Y}
def atB (l : List qg) (z : Int) : List qi:=l.flatMap fun b=>if covB z b = true then [Zw b] else []
theorem J3 (l : List qg) (x : Int) : (atB l x).length≤l.length:=by
  unfold atB
  induction l with
  | nil=>simp
  | cons r l ih=>
    simp only [List.flatMap_cons,List.length_append,List.length_cons];have : (if covB x r = true then [Zw r] else []).length≤1:=by split <;> simp
    omega
theorem qco (l : List qg) (d : l.length≤1000000) (z : Int) : U1 l z = some (atB l z):=by
  have:=Js l d (fun b=>if covB z b = true then [Zw b] else []) [] (fun o=>o) (q62 l z) (fun k a o g=>by
    have h : o.length≤k:=by rw [g,List.nil_append];have:=J3 (l.take k) z;rw [List.length_take,Nat.min_eq_left q0] at this;exact this
    simp only [q62,dlt a,Q0,Qz a,qk,w64s a d];by_cases c : l[k].Lo.Z≤z
    · by_cases f : z < l[k].Hi.Z
      · simp only [c,f,decide_true,Q0,qk,covB,Bool.and_self,if_true];rw [Y7 (by simp;omega)];rfl
      · simp only [c,f,decide_true,decide_false,Q0,Q4,qk,covB,Bool.and_false,if_false,Bool.false_eq_true,List.append_nil]
    · simp only [c,decide_false,Q4,qk,covB,Bool.false_and,if_false,Bool.false_eq_true,List.append_nil]) (fun o=>by simp only [q62,dnl,Q4])
  rw [List.nil_append] at this;unfold U1;rw [this];rfl
def zsOf (l : List qg) : List Int:=l.flatMap fun b=>[b.Lo.Z,b.Hi.Z]
theorem Z9 (l : List qg) : (zsOf l).length = 2 * l.length:=by
  unfold zsOf;induction l with
  | nil=>rfl
  | cons r l ih=>simp only [List.flatMap_cons,List.length_append,List.length_cons,List.length_nil];omega
theorem qw3 {p q : List qg} (h : p.length + q.length≤100000) : q96 p q = some (Qs (zsOf p ++ zsOf q)):=by
  have c : loop (q4f p) (0,[]) = some (zsOf p):=by
    have:=Js p q0 (fun r=>[r.Lo.Z,r.Hi.Z]) [] (fun o=>o) (q4f p) (fun k a o b=>by
      have d : o.length = 2 * k:=by rw [b,List.nil_append];have:=Z9 (p.take k);rw [List.length_take,Nat.min_eq_left q0] at this;exact this
      simp only [q4f,dlt a,Q0,Qz a,qk,w64s a q0];rw [Y7 (by simp;omega)]
      rfl) (fun o=>by simp only [q4f,dnl,Q4])
    rw [List.nil_append] at this;exact this
  have f : loop (q4g q) (0,zsOf p) = some (zsOf p ++ zsOf q):=by
    have hp:=Z9 p
    exact Js q q0 (fun r=>[r.Lo.Z,r.Hi.Z]) (zsOf p) (fun o=>o) (q4g q) (fun k a o b=>by
      have d : o.length = 2 * p.length + 2 * k:=by
        rw [b,List.length_append,hp];have:=Z9 (q.take k);rw [List.length_take,Nat.min_eq_left q0] at this;unfold zsOf at this;omega
      simp only [q4g,dlt a,Q0,Qz a,qk,w64s a q0];rw [Y7 (by simp;omega)]
      rfl) (fun o=>by simp only [q4g,dnl,Q4])
  have j:=Z9 p;have g:=Z9 q;unfold q96;simp only [c,f,qk,(J6 (l:=zsOf p ++ zsOf q) (by simp;omega)).1]
structure qhp (kind : Int) (p q : List qg) (z : Int) : Prop where
  n : (atB p z).length + (atB q z).length≤490
  m : (mrgR kind (atB p z) (atB q z)).length≤400
  mp : (mrgR 2 (atB p z) []).length≤400
  mq : (mrgR 2 (atB q z) []).length≤400
noncomputable def secB (kind : Int) (p q : List qg) (z : Int) : List qi:=mrgR kind (atB p z) (atB q z)
theorem qt1 (kind : Int) {p q : List qg} (h : p.length + q.length≤100000) {xs : List Int} (hx : xs.length≤1000000) {i : Nat} (hi : i + 1 < xs.length) (y : qhp kind p q xs[i]) (s : Mg qi qg) (hl : (s.flat putB).length + 400≤1000000)
    (h0 : i = 0→s.sec = []) (h1 : 0 < i→s.hi = xs[i]) :
    q1r xs p q kind (s.sec,(s.done.length : Int),(i : Int),s.flat putB) =
      some (.inl ((addM putB s xs[i] xs[i + 1] (secB kind p q xs[i])).sec,((addM putB s xs[i] xs[i + 1] (secB kind p q xs[i])).done.length : Int),((i + 1 : Nat) : Int),(addM putB s xs[i] xs[i + 1] (secB kind p q xs[i])).flat putB)):=by
  have g : i < xs.length:=by omega
  have x : w64 ((i : Int) + 1) = ((i + 1 : Nat) : Int):=w64s g hx;have ar : (s.flat putB).length = s.done.length + s.sec.length:=by simp [Mg.flat]
  obtain ⟨hn,hm,ai,au⟩:=y;have ap : U1 p xs[i] = some (atB p xs[i]):=qco p q0 _;have aq : U1 q xs[i] = some (atB q xs[i]):=qco q q0 _;have jj : Jf kind (atB p xs[i]) (atB q xs[i]) = some (secB kind p q xs[i]):=q60 kind hn;have jp : Jf 2 (atB p xs[i]) [] = some (mrgR 2 (atB p xs[i]) []):=q60 2 (by simp;omega);have jq : Jf 2 (atB q xs[i]) [] = some (mrgR 2 (atB q xs[i]) []):=q60 2 (by simp;omega);have hm : (secB kind p q xs[i]).length≤400:=hm;have d1 : decide (((secB kind p q xs[i]).length : Int) > 400) = false:=Q9 q0;have d2 : decide (((mrgR 2 (atB p xs[i]) []).length : Int) > 400) = false:=Q9 q0;have d3 : decide (((mrgR 2 (atB q xs[i]) []).length : Int) > 400) = false:=Q9 q0;unfold q1r;simp only [x,dlt hi,Q0,Qz g,ap,aq,jj,jp,jq,d1,d2,d3,Q4,qk];generalize hc : secB kind p q xs[i] = c at hm ⊢;by_cases a : 0 < i∧c = s.sec
  · obtain ⟨b,l⟩:=a;have hb : decide ((i : Int) > 0) = true:=Qb q0
    have d:=q5b (fun v : qg=>({Lo:=v.Lo,Hi:=({X:=v.Hi.X,Y:=v.Hi.Y,Z:=xs[i + 1]} : ql)} : qg)) s.done (s.sec.map (putB s.lo s.hi)) (by simp;omega) (q4i xs (s.sec,(s.done.length : Int),(i : Int),s.flat putB)) (fun k o j ho=>by
      have h5 : (s.done ++ s.sec.map (putB s.lo s.hi)).length = (s.flat putB).length:=rfl
      simp only [q4i,dlt j,Q0,Qz j,Qz hi,x,qk,w64s j q0,Int.toNat_natCast]) (fun o=>by simp only [q4i,dnl,Q4])
    have z : q2w c s.sec = some true:=by rw [qcz _ _ q0];simp [l]
    have d : loop (q4i xs (s.sec,(s.done.length : Int),(i : Int),s.flat putB)) ((s.done.length : Int),s.flat putB) = _:=d;simp only [hb,Q0,z,qk,d];rcases U4 putB s xs[i] xs[i + 1] c with ⟨_,_,_,f⟩ | ⟨h3,f⟩
    · rw [f];simp only [Mg.flat,List.map_map];rfl
    · have m : c = []:=Classical.byContradiction fun hn=>h3 ⟨hn,l,h1 b⟩;rw [f];simp [Mg.flat,← l,m]
  · have n : (cond (decide ((i : Int) > 0)) ((q2w c s.sec).bind fun r=>some r) (some false)) = some false:=by
      by_cases b : 0 < i
      · have hb : decide ((i : Int) > 0) = true:=Qb q0;have t : c≠s.sec:=fun h=>a ⟨b,h⟩;rw [hb,Q0,qcz _ _ q0];simp [t]
      · have hb : decide ((i : Int) > 0) = false:=Q9 q0;rw [hb,Q4]
    have u:=q5n c (putB xs[i] xs[i + 1]) (s.flat putB) (fun o=>(c,((s.flat putB).length : Int),o)) (q65 c xs (s.sec,(s.done.length : Int),(i : Int),s.flat putB)) (fun k j o ho=>by
      simp only [q65,dlt j,Q0,Qz j,Qz g,Qz hi,x,qk,w64s j q0];rw [Y7 (by simp;omega)]
      rfl) (fun o=>by simp only [q65,dnl,Q4])
    have f : addM putB s xs[i] xs[i + 1] c = ⟨s.flat putB,c,xs[i],xs[i + 1]⟩:=by
      rcases U4 putB s xs[i] xs[i + 1] c with ⟨g1,g2,_,_⟩ | ⟨_,f⟩
      · refine absurd ?_ a;refine ⟨Nat.pos_of_ne_zero fun h=>g1 ?_,g2⟩;rw [g2,h0 h]
      · exact f
    rw [f];simp only [n,qk,Q4,u];simp [Mg.flat]
noncomputable def mrgB (kind : Int) (p q : List qg) : List qg:=(Qy putB Qv (Y6 (Qs (zsOf p ++ zsOf q)) (secB kind p q))).flat putB
section
variable {σ β : Type} (put : Int→Int→σ→β)
def Alike (s t : Mg σ β) : Prop:=s = t∨(s.flat put = t.flat put∧s.sec = []∧t.sec = [])
theorem Alike.flat {s t : Mg σ β} (h : Alike put s t) : s.flat put = t.flat put:=by
  rcases h with rfl | h
  · rfl
  · exact h.1
end
section
variable {σ β : Type} [DecidableEq σ] (put : Int→Int→σ→β)
def runM (sec : Int→List σ) : Mg σ β→List Int→Mg σ β
  | s,a::b::r=>runM sec (addM put s a b (sec a)) (b::r)
  | s,_=>s
theorem qjs (sec : Int→List σ) : ∀ (c : List Int) (s : Mg σ β),Qy put s (Y6 c sec) = runM put sec s c
  | [],s=>rfl
  | [a],s=>rfl
  | a::b::r,s=>by
    have:=qjs sec (b::r) (addM put s a b (sec a))
    simp only [runM,← this]
    rfl
theorem Alike.add {s t : Mg σ β} (h : Alike put s t) (a b : Int) (c : List σ) : Alike put (addM put s a b c) (addM put t a b c):=by
  rcases h with rfl | ⟨m,k,n⟩
  · exact .inl rfl
  · refine .inl ?_;rcases U4 put s a b c with ⟨g,f,_,_⟩ | ⟨_,d⟩
    · exact absurd (f.trans k) g
    · rcases U4 put t a b c with ⟨j,o,_,_⟩ | ⟨_,l⟩
      · exact absurd (o.trans n) j
      · rw [d,l,m]
end
end Go.Sh
namespace Go.Sh
open Go Go.Am
structure Grp (σ : Type) where
  lo : Int
  hi : Int
  sec : List σ
section
variable {σ β : Type}
def CanG (gs : List (Grp σ)) : Prop:=(∀ g∈gs,g.lo < g.hi∧g.sec≠[])∧gs.Pairwise (fun g h=>g.hi≤h.lo∧(g.hi = h.lo→g.sec≠h.sec))
def secG : List (Grp σ)→Int→List σ
  | [],_=>[]
  | g::r,x=>if g.lo≤x∧x < g.hi then g.sec else secG r x
def Kz (put : Int→Int→σ→β) (gs : List (Grp σ)) : List β:=gs.flatMap fun g=>g.sec.map (put g.lo g.hi)
theorem qrq (put : Int→Int→σ→β) (a b : List (Grp σ)) : Kz put (a ++ b) = Kz put a ++ Kz put b:=by simp [Kz]
theorem q32 {y x : Int} : ∀ {r : List (Grp σ)},(∀ h∈r,y≤h.lo)→x < y→secG r x = []
  | [],_,_=>rfl
  | g::r,h,hx=>by
    have:=h g qe
    rw [secG,qs q0]
    exact q32 (fun k a=>h k (by simp [a])) hx
theorem q6n {y x : Int} : ∀ {r : List (Grp σ)},(∀ h∈r,h.hi≤y)→y≤x→secG r x = []
  | [],_,_=>rfl
  | g::r,h,hx=>by
    have:=h g qe
    rw [secG,qs q0]
    exact q6n (fun k a=>h k (by simp [a])) hx
theorem q9i {x : Int} : ∀ {a b : List (Grp σ)},secG a x = []→(∀ g∈a,g.sec≠[])→secG (a ++ b) x = secG b x
  | [],_,_,_=>rfl
  | g::a,b,h,hne=>by
    rw [secG] at h
    split at h
    · exact absurd h (hne g qe)
    · rename_i d
      rw [List.cons_append,secG,qs d]
      exact q9i h fun k c=>hne k (by simp [c])
theorem qgs {y x : Int} {a b : List (Grp σ)} (hb : ∀ h∈b,y≤h.lo) (c : x < y) : secG (a ++ b) x = secG a x:=by
  induction a with
  | nil=>exact q32 hb c
  | cons g a ih=>simp only [List.cons_append,secG,ih]
theorem CanG.tail {g : Grp σ} {r : List (Grp σ)} (h : CanG (g::r)) : CanG r:=⟨fun k a=>h.1 k (by simp [a]),(List.pairwise_cons.1 h.2).2⟩
theorem CanG.nxt {g : Grp σ} {r : List (Grp σ)} (h : CanG (g::r)) : ∀ k∈r,g.hi≤k.lo∧(g.hi = k.lo→g.sec≠k.sec):=(List.pairwise_cons.1 h.2).1
theorem q31 {g : Grp σ} {r : List (Grp σ)} {x : Int} (a : g.lo≤x) (b : x < g.hi) : secG (g::r) x = g.sec:=by rw [secG,qr ⟨a,b⟩]
theorem qyq {g : Grp σ} {r : List (Grp σ)} (h : CanG (g::r)) : secG (g::r) g.hi≠g.sec:=by
  rw [secG,qs q0]
  cases r with
  | nil=>exact fun e=>(h.1 g qe).2 e.symm
  | cons k r=>
    have b:=h.nxt k qe;have c:=h.tail.1 k qe;by_cases d : g.hi = k.lo
    · rw [q31 q0 q0];exact fun e=>b.2 d e.symm
    · rw [secG,qs q0,q32 (y:=k.hi) (fun m a=>(h.tail.nxt m a).1) q0];exact fun e=>(h.1 g qe).2 e.symm
theorem qeh : ∀ {a b : List (Grp σ)},CanG a→CanG b→(∀ x,secG a x = secG b x)→a = b
  | [],[],_,_,_=>rfl
  | [],g::r,_,hb,h=>by
    have:=h g.lo
    rw [q31 (Int.le_refl _) (hb.1 g qe).1] at this
    exact absurd this.symm (hb.1 g qe).2
  | g::r,[],c,_,h=>by
    have:=h g.lo
    rw [q31 (Int.le_refl _) (c.1 g qe).1] at this
    exact absurd this (c.1 g qe).2
  | g::r,k::s,c,hb,h=>by
    have q:=c.1 g qe
    have t:=hb.1 k qe
    have low : ∀ {g k : Grp σ} {r s : List (Grp σ)},CanG (g::r)→CanG (k::s)→(∀ x,secG (g::r) x = secG (k::s) x)→k.lo≤g.lo:=by
      intro g k r s c hb h;refine Int.not_lt.1 fun f=>?_;have d:=h g.lo;rw [q31 (Int.le_refl _) (c.1 g qe).1,q32 (y:=k.lo) (fun m j=>?_) f] at d
      · exact (c.1 g qe).2 d
      · rcases List.mem_cons.1 j with rfl | j
        · exact Int.le_refl _
        · have:=(hb.nxt m j).1;have:=(hb.1 k qe).1;omega
    have n : g.lo = k.lo:=Int.le_antisymm (low hb c fun x=>(h x).symm) (low c hb h)
    have l : g.sec = k.sec:=by
      have d:=h g.lo
      rwa [q31 (Int.le_refl _) q.1,q31 q0 q0] at d
    have hi : ∀ {g k : Grp σ} {r s : List (Grp σ)},CanG (g::r)→CanG (k::s)→(∀ x,secG (g::r) x = secG (k::s) x)→g.lo = k.lo→g.sec = k.sec→k.hi≤g.hi:=by
      intro g k r s c hb h n l;refine Int.not_lt.1 fun f=>?_;have d:=h g.hi;have:=(c.1 g qe).1;rw [q31 (g:=k) q0 f,← l] at d;exact qyq c d
    have p : g.hi = k.hi:=Int.le_antisymm (hi hb c (fun x=>(h x).symm) n.symm l.symm) (hi c hb h n l)
    have e : g = k:=by cases g;cases k;simp at n l p;simp [n,l,p]
    subst e
    have : r = s:=qeh c.tail hb.tail fun x=>by
      by_cases o : x < g.hi
      · rw [q32 (y:=g.hi) (fun m j=>(c.nxt m j).1) o,q32 (y:=g.hi) (fun m j=>(hb.nxt m j).1) o]
      · have d:=h x
        rwa [secG,secG,qs q0,qs q0] at d
    rw [this]
def curG (s : Mg σ β) : List (Grp σ):=if s.sec = [] then [] else [⟨s.lo,s.hi,s.sec⟩]
def secC (sec : Int→List σ) : List Int→Int→List σ
  | a::b::r,x=>if a≤x∧x < b then sec a else secC sec (b::r) x
  | _,_=>[]
theorem qjq (put : Int→Int→σ→β) (s : Mg σ β) (a : List (Grp σ)) (h : s.done = Kz put a) : s.flat put = Kz put (a ++ curG s):=by
  rw [qrq,Mg.flat,h];unfold curG;split
  · rename_i b;simp [b,Kz]
  · simp [Kz]
theorem qc9 {s : Mg σ β} {g : Grp σ} (h : g∈curG s) : s.sec≠[]∧g = ⟨s.lo,s.hi,s.sec⟩:=by
  unfold curG at h;split at h
  · cases h
  · rename_i a;exact ⟨a,by simpa using h⟩
theorem qd1 (sec : Int→List σ) {x : Int} : ∀ {d : List Int},d.Pairwise (· < ·)→
    (∀ a∈d,a≤x→(∀ c∈d,c≤a∨x < c)→sec a = sec x)→((∀ c∈d,x < c)→sec x = [])→((∀ c∈d,c≤x)→sec x = [])→secC sec d x = sec x
  | [],_,_,h2,_=>(h2 qe).symm
  | [a],_,_,h2,h3=>by
    rw [secC]
    · by_cases k : x < a
      · exact (h2 (by simpa using k)).symm
      · exact (h3 (by simpa using k)).symm
    · intro a b r h;simp at h
  | a::b::r,hp,h1,h2,h3=>by
    have o : a < b:=(List.pairwise_cons.1 hp).1 b qe
    have m:=(List.pairwise_cons.1 (List.pairwise_cons.1 hp).2).1
    rw [secC]
    split
    · rename_i k
      refine h1 a qe k.1 fun c f=>?_
      rcases List.mem_cons.1 f with rfl | f
      · exact .inl (Int.le_refl _)
      · rcases List.mem_cons.1 f with rfl | f
        · exact .inr k.2
        · have:=m c f;exact .inr q0
    · rename_i k
      by_cases n : x < a
      · have e : sec x = []:=h2 fun c f=>by
          rcases List.mem_cons.1 f with rfl | f
          · exact n
          · have:=(List.pairwise_cons.1 hp).1 c f;omega
        have:=qd1 sec (x:=x) (List.pairwise_cons.1 hp).2 (fun a' j l _=>by
          exfalso;have:=(List.pairwise_cons.1 hp).1 a' j;omega) (fun _=>e) (fun _=>e)
        exact this
      · have p : b≤x:=by omega
        exact qd1 sec (List.pairwise_cons.1 hp).2 (fun a' j l g=>h1 a' (by simp [j]) l fun c f=>by
          rcases List.mem_cons.1 f with rfl | f
          · have:=(List.pairwise_cons.1 hp).1 a' j;exact .inl q0
          · exact g c f) (fun g=>by have:=g b qe;omega) (fun g=>h3 fun c f=>by
          rcases List.mem_cons.1 f with rfl | f
          · omega
          · exact g c f)
variable [DecidableEq σ] (put : Int→Int→σ→β)
structure InvG (s : Mg σ β) (gs : List (Grp σ)) (c : Int) : Prop where
  done : s.done = Kz put gs
  can : CanG (gs ++ curG s)
  le : ∀ g∈gs ++ curG s,g.hi≤c
  gap : s.sec = []→∀ g∈gs,g.hi = c→False
theorem qsv {s : Mg σ β} {l : List (Grp σ)} {a b : Int} {c : List σ} (v : a < b) (hi : InvG put s l a) :
    ∃ p,InvG put (addM put s a b c) p b∧∀ x,secG (p ++ curG (addM put s a b c)) x = if a≤x∧x < b then c else secG (l ++ curG s) x:=by
  rcases U4 put s a b c with ⟨h1,h2,h3,h4⟩ | ⟨h1,h4⟩
  · rw [h4];have hs : s.sec≠[]:=h2 ▸ h1;have c1 : curG s = [⟨s.lo,s.hi,s.sec⟩]:=by unfold curG;rw [qs hs]
    have c2 : curG (⟨s.done,s.sec,s.lo,b⟩ : Mg σ β) = [⟨s.lo,b,s.sec⟩]:=by unfold curG;rw [qs hs]
    have f:=hi.can;rw [c1] at f;have aj : s.lo < s.hi:=(f.1 ⟨s.lo,s.hi,s.sec⟩ qe).1;refine ⟨l,⟨hi.done,?_,?_,fun h=>absurd h hs⟩,?_⟩
    · rw [c2];refine ⟨fun g d=>?_,?_⟩
      · rcases List.mem_append.1 d with d | d
        · exact f.1 g (by simp [d])
        · obtain rfl:=List.mem_singleton.1 d;exact ⟨by simp only;omega,hs⟩
      · have:=List.pairwise_append.1 f.2;refine List.pairwise_append.2 ⟨this.1,qe,fun g d k z=>?_⟩;obtain rfl:=List.mem_singleton.1 z;exact this.2.2 g d ⟨s.lo,s.hi,s.sec⟩ qe
    · rw [c2];intro g d;rcases List.mem_append.1 d with d | d
      · have:=hi.le g (by simp [d]);omega
      · obtain rfl:=List.mem_singleton.1 d;exact Int.le_refl _
    · intro x;rw [c1,c2];have ae : ∀ g∈l,g.hi≤s.lo:=fun g d=>((List.pairwise_append.1 f.2).2.2 g d ⟨s.lo,s.hi,s.sec⟩ qe).1;have r : ∀ g∈l,g.sec≠[]:=fun g d=>(f.1 g (by simp [d])).2;by_cases n : x < s.lo
      · rw [qs q0,qgs (y:=s.lo) qe n,qgs (y:=s.lo) qe n]
      · have e : secG l x = []:=q6n ae q0;rw [q9i e r,q9i e r];simp only [secG];by_cases u : x < s.hi
        · rw [qr ⟨q0,q0⟩,qs q0,qr ⟨q0,u⟩]
        · by_cases o : x < b
          · rw [qr ⟨q0,o⟩,qr ⟨q0,o⟩,h2]
          · rw [qs q0,qs q0,qs q0]
  · rw [h4];have hd : s.flat put = Kz put (l ++ curG s):=qjq put s l hi.done;refine ⟨l ++ curG s,⟨hd,?_,?_,?_⟩,?_⟩
    · by_cases m : c = []
      · have : curG (⟨s.flat put,c,a,b⟩ : Mg σ β) = []:=by unfold curG;rw [qr m]
        rw [this,List.append_nil];exact hi.can
      · have : curG (⟨s.flat put,c,a,b⟩ : Mg σ β) = [⟨a,b,c⟩]:=by unfold curG;rw [qs m]
        rw [this];refine ⟨fun g d=>?_,List.pairwise_append.2 ⟨hi.can.2,qe,fun g d k z=>?_⟩⟩
        · rcases List.mem_append.1 d with d | d
          · exact hi.can.1 g d
          · obtain rfl:=List.mem_singleton.1 d;exact ⟨v,m⟩
        · obtain rfl:=List.mem_singleton.1 z;refine ⟨hi.le g d,fun t q=>?_⟩;rcases List.mem_append.1 d with j | j
          · by_cases hs : s.sec = []
            · exact hi.gap hs g j t
            · have h5 : (⟨s.lo,s.hi,s.sec⟩ : Grp σ)∈curG s:=by unfold curG;rw [qs hs];simp
              have h6:=((List.pairwise_append.1 hi.can.2).2.2 g j _ h5).1;have h7:=(hi.can.1 _ (List.mem_append.2 (.inr h5))).1;have h8:=hi.le _ (List.mem_append.2 (.inr h5));simp only at t h6 h7 h8;omega
          · obtain ⟨hs,rfl⟩:=qc9 j;exact h1 ⟨m,q.symm,t⟩
    · intro g d;rcases List.mem_append.1 d with d | d
      · have:=hi.le g d;omega
      · obtain ⟨_,rfl⟩:=qc9 d;exact Int.le_refl _
    · intro m g d t;have:=hi.le g d;omega
    · intro x;by_cases n : a≤x∧x < b
      · rw [qr n,q9i (q6n hi.le n.1) fun g d=>(hi.can.1 g d).2];unfold curG;split
        · rename_i m;simp only at m;rw [m];rfl
        · simp only [secG];rw [qr n]
      · rw [qs n];by_cases ad : x < a
        · exact qgs (y:=a) (fun g d=>by obtain ⟨_,rfl⟩:=qc9 d;exact Int.le_refl _) ad
        · have e:=q6n (x:=x) hi.le q0;rw [q9i e fun g d=>(hi.can.1 g d).2,e];exact q6n (y:=b) (fun g d=>by obtain ⟨_,rfl⟩:=qc9 d;exact Int.le_refl _) q0
theorem qn2 (sec : Int→List σ) : ∀ (d : List Int) (c : Int) (s : Mg σ β) (h : List (Grp σ)),(c::d).Pairwise (· < ·)→InvG put s h c→
    ∃ f,(runM put sec s (c::d)).flat put = Kz put f∧CanG f∧∀ x,secG f x = if x < c then secG (h ++ curG s) x else secC sec (c::d) x
  | [],c,s,h,_,hi=>by
    refine ⟨h ++ curG s,qjq put s h hi.done,hi.can,fun x=>?_⟩
    by_cases k : x < c
    · rw [qr k]
    · rw [qs k];exact q6n hi.le q0
  | b::d,a,s,h,hp,hi=>by
    have n : a < b:=(List.pairwise_cons.1 hp).1 b qe
    obtain ⟨f,l,j⟩:=qsv (b:=b) (c:=sec a) put n hi
    obtain ⟨m,o,q,p⟩:=qn2 sec d b _ f (List.pairwise_cons.1 hp).2 l
    refine ⟨m,o,q,fun x=>?_⟩
    rw [p x]
    by_cases k : x < a
    · rw [qr q0,qr k,j,qs q0]
    · rw [qs k]
      simp only [secC]
      by_cases g : x < b
      · rw [qr g,j,qr ⟨q0,g⟩,qr ⟨q0,g⟩]
      · rw [qs g,qs q0]
theorem qli (sec : Int→List σ) {a : List Int} (f : a.Pairwise (· < ·)) :
    ∃ d,(Qy put Qv (Y6 a sec)).flat put = Kz put d∧CanG d∧∀ x,secG d x = secC sec a x:=by
  rw [qjs]
  cases a with
  | nil=>exact ⟨[],rfl,⟨qe,qe⟩,fun x=>rfl⟩
  | cons c a=>
    obtain ⟨d,h,k,j⟩:=qn2 put sec a c (Qv : Mg σ β) [] f ⟨rfl,⟨by simp [curG,Qv],by simp [curG,Qv]⟩,by simp [curG,Qv],qe⟩;refine ⟨d,h,k,fun x=>?_⟩;rw [j x];split
    · rename_i g
      have : ∀ (a : List Int) (c : Int),(c::a).Pairwise (· < ·)→x < c→secC sec (c::a) x = []:=by
        intro a
        induction a with
        | nil=>intros;rfl
        | cons b r ih=>
          intro c hp g;rw [secC,qs q0];exact ih b (List.pairwise_cons.1 hp).2 (by have:=(List.pairwise_cons.1 hp).1 b qe;omega)
      rw [this a c f g];rfl
    · rfl
end
end Go.Sh
namespace Go.Sh
open Go Go.Am
section
variable {σ : Type}
theorem qgu {x : Int} : ∀ (b : List (Grp σ)),secG b x = []∨∃ g∈b,g.lo≤x∧x < g.hi∧secG b x = g.sec
  | []=>.inl rfl
  | g::r=>by
    by_cases a : g.lo≤x∧x < g.hi
    · exact .inr ⟨g,qe,a.1,a.2,by rw [secG,qr a]⟩
    · rw [secG,qs a]
      rcases qgu r with h | ⟨k,c,h⟩
      · exact .inl h
      · exact .inr ⟨k,by simp [c],h⟩
theorem qgt : ∀ {b : List (Grp σ)},CanG b→∀ g∈b,∀ x,g.lo≤x→x < g.hi→secG b x = g.sec
  | k::r,h,g,a,x,h1,h2=>by
    rcases List.mem_cons.1 a with rfl | a
    · exact q31 h1 h2
    · have:=(h.nxt g a).1
      rw [secG,qs q0]
      exact qgt h.tail g a x h1 h2
end
theorem qku (kind : Int) : Jc kind [] [] = []:=by
  have a:=(q5k kind [] [] qe qe).2;refine q58 a.can ⟨qe,qe⟩ fun x=>?_;rw [a.pts];have:=q1l x;unfold Kw;simp [this]
theorem qr2 (a b : List qi) (x : Int) : covS (a ++ b) x = covS a x ++ covS b x:=by simp [covS]
theorem qr3 (s : List qj) (lo hi x : Int) : covS (s.map (putR lo hi)) x = if lo≤x∧x < hi then s else []:=by
  induction s with
  | nil=>simp [covS]
  | cons t s ih=>
    have e : covS (List.map (putR lo hi) (t::s)) x = (if covR x (putR lo hi t) = true then [t] else []) ++ covS (s.map (putR lo hi)) x:=rfl;rw [e,ih];have : covR x (putR lo hi t) = (decide (lo≤x) && decide (x < hi)):=rfl;rw [this];by_cases a : lo≤x <;> by_cases b : x < hi <;> simp [a,b]
theorem q8h : ∀ {b : List (Grp qj)},CanG b→∀ x,covS (Kz putR b) x = secG b x
  | [],_,x=>rfl
  | g::r,h,x=>by
    have e : Kz putR (g::r) = g.sec.map (putR g.lo g.hi) ++ Kz putR r:=rfl
    rw [e,qr2,qr3,q8h h.tail x]
    by_cases a : g.lo≤x∧x < g.hi
    · rw [qr a,secG,qr a,q32 (y:=g.hi) (fun m c=>(h.nxt m c).1) a.2,List.append_nil]
    · rw [qs a,secG,qs a,List.nil_append]
theorem qix {l : List qi} {a x : Int} (h : ∀ r∈l,covR a r = covR x r) : covS l a = covS l x:=by
  induction l with
  | nil=>rfl
  | cons r l ih=>
    have e : ∀ y,covS (r::l) y = (if covR y r = true then [ysp r] else []) ++ covS l y:=fun _=>rfl;rw [e,e,h r qe,ih fun k b=>h k (by simp [b])]
theorem qbn {l : List qi} {x : Int} (h : ∀ r∈l,covR x r = false) : covS l x = []:=by
  induction l with
  | nil=>rfl
  | cons r l ih=>
    have e : covS (r::l) x = (if covR x r = true then [ysp r] else []) ++ covS l x:=rfl;rw [e,h r qe,ih fun k a=>h k (by simp [a])];rfl
theorem q3p {x : Int} {r : qi} : covR x r = true↔r.X0≤x∧x < r.X1:=by simp [covR]
theorem qlg {p q : List qi} {r : qi} (h : r∈p∨r∈q) : r.X0∈xsOf p ++ xsOf q∧r.X1∈xsOf p ++ xsOf q:=by
  unfold xsOf;simp only [List.mem_append,List.mem_flatMap];rcases h with h | h
  · exact ⟨.inl ⟨r,h,qe⟩,.inl ⟨r,h,qe⟩⟩
  · exact ⟨.inr ⟨r,h,qe⟩,.inr ⟨r,h,qe⟩⟩
theorem qll (kind : Int) {p q : List qi} (h : p.length + q.length≤100000) :
    ∃ f,mrgR kind p q = Kz putR f∧CanG f∧∀ x,secG f x = secJ kind p q x:=by
  have t:=Jl p;have u:=Jl q;have hs:=(J6 (l:=xsOf p ++ xsOf q) (by simp;omega)).2.1;obtain ⟨f,k,n,m⟩:=qli putR (secJ kind p q) hs.1;refine ⟨f,k,n,fun x=>?_⟩;rw [m]
  have g : ∀ r,(r∈p∨r∈q)→r.X0∈Qs (xsOf p ++ xsOf q)∧r.X1∈Qs (xsOf p ++ xsOf q):=fun r b=>
    ⟨(hs.2 _).2 (qlg b).1,(hs.2 _).2 (qlg b).2⟩
  refine qd1 _ hs.1 (fun a _ o c=>?_) (fun c=>?_) (fun c=>?_)
  · have d : ∀ r,(r∈p∨r∈q)→covR a r = covR x r:=fun r b=>by
      have j:=c _ (g r b).1;have s:=c _ (g r b).2;rw [Bool.eq_iff_iff,q3p,q3p];omega
    unfold secJ;rw [qix fun r b=>d r (.inl b),qix fun r b=>d r (.inr b)]
  · have d : ∀ r,(r∈p∨r∈q)→covR x r = false:=fun r b=>by
      have j:=c _ (g r b).1;rw [← Bool.not_eq_true,q3p];omega
    unfold secJ;rw [qbn fun r b=>d r (.inl b),qbn fun r b=>d r (.inr b),qku]
  · have d : ∀ r,(r∈p∨r∈q)→covR x r = false:=fun r b=>by
      have j:=c _ (g r b).2;rw [← Bool.not_eq_true,q3p];omega
    unfold secJ;rw [qbn fun r b=>d r (.inl b),qbn fun r b=>d r (.inr b),qku]
def CanR (l : List qi) : Prop:=∃ gs : List (Grp qj),l = Kz putR gs∧CanG gs∧∀ g∈gs,Can g.sec
theorem qia : Can []:=⟨qe,qe⟩
theorem CanR.nil : CanR []:=⟨[],rfl,⟨qe,qe⟩,qe⟩
theorem CanR.cov {l : List qi} (h : CanR l) (x : Int) : Can (covS l x):=by
  obtain ⟨b,rfl,c,a⟩:=h;rw [q8h c];rcases qgu (x:=x) b with e | ⟨g,d,_,_,e⟩
  · rw [e];exact qia
  · rw [e];exact a g d
theorem qei {a b : List qi} (c : CanR a) (hb : CanR b) (h : ∀ x y,hasR a x y↔hasR b x y) : a = b:=by
  have g : ∀ x,covS a x = covS b x:=fun x=>q58 (c.cov x) (hb.cov x) fun y=>by rw [Ut,Ut];exact h x y
  obtain ⟨j,rfl,f,_⟩:=c;obtain ⟨k,rfl,d,_⟩:=hb;rw [qeh f d fun x=>by rw [← q8h f,← q8h d];exact g x]
theorem qgw (kind : Int) {p q : List qi} (h : p.length + q.length≤100000) (x : Int) : qe2 kind (covS p x) (covS q x) (secJ kind p q x):=by
  have a:=Uh p x;have b:=Uh q x;exact (q5k kind (covS p x) (covS q x) q0 q0).2
theorem qcc (kind : Int) {p q : List qi} (h : p.length + q.length≤100000) : CanR (mrgR kind p q):=by
  obtain ⟨f,c,a,d⟩:=qll kind h;refine ⟨f,c,a,fun g b=>?_⟩;have:=d g.lo;rw [qgt a g b _ (Int.le_refl _) (a.1 g b).1] at this;rw [this];exact (qgw kind h _).can
theorem qiy (kind : Int) {p q : List qi} (h : p.length + q.length≤100000) (x : Int) : covS (mrgR kind p q) x = secJ kind p q x:=by
  obtain ⟨d,a,c,b⟩:=qll kind h;rw [a,q8h c,b]
theorem qc0 (kind : Int) {p q : List qi} (h : p.length + q.length≤100000) (x y : Int) : hasR (mrgR kind p q) x y↔Kw kind (hasR p x y) (hasR q x y):=by
  rw [← Ut,qiy kind h,(qgw kind h x).pts,Ut,Ut]
theorem qfc (x y : Int) : ¬ hasR [] x y:=by rintro ⟨r,h,_⟩;cases h
theorem q8q {a b : Prop} : Kw 2 a b↔a∨b:=by unfold Kw;simp
theorem qse {l : List qi} (h : l.length≤100000) (x y : Int) : hasR (mrgR 2 l []) x y↔hasR l x y:=by
  rw [qc0 2 (by simpa using h),q8q];simp [qfc]
theorem qlm {l : List qi} (a : l.length≤100000) (h : CanR l) : mrgR 2 l [] = l:=
  qei (qcc 2 (by simpa using a)) h fun x y=>qse a x y
theorem q5q {σ β : Type} {put : Int→Int→σ→β} {a : List (Grp σ)} {r : β} : r∈Kz put a↔∃ g∈a,∃ t∈g.sec,r = put g.lo g.hi t:=by
  unfold Kz;simp only [List.mem_flatMap,List.mem_map];exact ⟨fun ⟨g,hg,t,ht,e⟩=>⟨g,hg,t,ht,e.symm⟩,fun ⟨g,hg,t,ht,e⟩=>⟨g,hg,t,ht,e.symm⟩⟩
theorem CanR.lt {l : List qi} (h : CanR l) : ∀ r∈l,r.X0 < r.X1∧r.Y0 < r.Y1:=by
  obtain ⟨j,rfl,d,b⟩:=h;intro r c;obtain ⟨g,a,t,f,rfl⟩:=q5q.1 c;exact ⟨(d.1 g a).1,(b g a).1 t f⟩
def InR (l : List qi) : Prop:=∀ x y,hasR l x y→(-1000000≤x∧x < 1000000)∧(-1000000≤y∧y < 1000000)
theorem CanR.vR {l : List qi} (h : CanR l) (hi : InR l) : ∀ r∈l,vR r:=by
  intro r a;have c:=h.lt r a;have b:=hi r.X0 r.Y0 ⟨r,a,q0⟩;have d:=hi (r.X1 - 1) (r.Y1 - 1) ⟨r,a,q0⟩;unfold Go.Sh.vR;omega
theorem InR.mrg {kind : Int} {p q : List qi} (h : p.length + q.length≤100000) (hp : InR p) (hq : InR q) : InR (mrgR kind p q):=fun x y b=>by
  rcases qfj ((qc0 kind h x y).1 b) with a | a
  · exact hp x y a
  · exact hq x y a
theorem InR.nil : InR []:=fun x y h=>absurd h (qfc x y)
theorem q8d {l : List qi} : Yj l = 0↔l.length≤400∧(∀ r∈l,vR r)∧CanR l:=by
  constructor
  · intro h;obtain ⟨c,b,a⟩:=qqm h;exact ⟨c,b,a ▸ qcc 2 (by simp;omega)⟩
  · rintro ⟨c,b,a⟩;unfold Yj;rw [qs q0,qr b,qr (qlm q0 a)]
end Go.Sh
namespace Go.Sh
open Go Go.Am
def hasB (l : List qg) (x y z : Int) : Prop:=∃ b∈l,(b.Lo.X≤x∧x < b.Hi.X)∧(b.Lo.Y≤y∧y < b.Hi.Y)∧(b.Lo.Z≤z∧z < b.Hi.Z)
theorem U6 {z : Int} {b : qg} : covB z b = true↔b.Lo.Z≤z∧z < b.Hi.Z:=by simp [covB]
theorem qg1 {l : List qg} {z : Int} {r : qi} : r∈atB l z↔∃ b∈l,(b.Lo.Z≤z∧z < b.Hi.Z)∧r = Zw b:=by
  unfold atB;rw [List.mem_flatMap];constructor
  · rintro ⟨b,hb,h⟩;split at h
    · rename_i a;exact ⟨b,hb,U6.1 a,by simpa using h⟩
    · cases h
  · rintro ⟨b,hb,a,rfl⟩;exact ⟨b,hb,by rw [qr (U6.2 a)];simp⟩
theorem q3w {l : List qg} {x y z : Int} : hasR (atB l z) x y↔hasB l x y z:=by
  constructor
  · rintro ⟨r,h,d,a,f,c⟩;obtain ⟨b,hb,g,rfl⟩:=qg1.1 h;exact ⟨b,hb,⟨d,a⟩,⟨f,c⟩,g⟩
  · rintro ⟨b,hb,⟨d,a⟩,⟨f,c⟩,g⟩;exact ⟨Zw b,qg1.2 ⟨b,hb,g,rfl⟩,d,a,f,c⟩
theorem qfb (x y z : Int) : ¬ hasB [] x y z:=by rintro ⟨r,h,_⟩;cases h
theorem qpg (a b : List qg) (z : Int) : atB (a ++ b) z = atB a z ++ atB b z:=by simp [atB]
theorem qph (s : List qi) (lo hi z : Int) : atB (s.map (putB lo hi)) z = if lo≤z∧z < hi then s else []:=by
  induction s with
  | nil=>simp [atB]
  | cons t s ih=>
    have e : atB (List.map (putB lo hi) (t::s)) z = (if covB z (putB lo hi t) = true then [t] else []) ++ atB (s.map (putB lo hi)) z:=rfl;rw [e,ih];have : covB z (putB lo hi t) = (decide (lo≤z) && decide (z < hi)):=rfl;rw [this];by_cases a : lo≤z <;> by_cases b : z < hi <;> simp [a,b]
theorem q8a : ∀ {b : List (Grp qi)},CanG b→∀ z,atB (Kz putB b) z = secG b z
  | [],_,z=>rfl
  | g::r,h,z=>by
    have e : Kz putB (g::r) = g.sec.map (putB g.lo g.hi) ++ Kz putB r:=rfl
    rw [e,qpg,qph,q8a h.tail z]
    by_cases a : g.lo≤z∧z < g.hi
    · rw [qr a,secG,qr a,q32 (y:=g.hi) (fun m c=>(h.nxt m c).1) a.2,List.append_nil]
    · rw [qs a,secG,qs a,List.nil_append]
theorem qi2 {l : List qg} {a x : Int} (h : ∀ r∈l,covB a r = covB x r) : atB l a = atB l x:=by
  induction l with
  | nil=>rfl
  | cons r l ih=>
    have e : ∀ y,atB (r::l) y = (if covB y r = true then [Zw r] else []) ++ atB l y:=fun _=>rfl;rw [e,e,h r qe,ih fun k b=>h k (by simp [b])]
theorem qbd {l : List qg} {x : Int} (h : ∀ r∈l,covB x r = false) : atB l x = []:=by
  induction l with
  | nil=>rfl
  | cons r l ih=>
    have e : atB (r::l) x = (if covB x r = true then [Zw r] else []) ++ atB l x:=rfl;rw [e,h r qe,ih fun k a=>h k (by simp [a])];rfl
theorem qlh {p q : List qg} {r : qg} (h : r∈p∨r∈q) : r.Lo.Z∈zsOf p ++ zsOf q∧r.Hi.Z∈zsOf p ++ zsOf q:=by
  unfold zsOf;simp only [List.mem_append,List.mem_flatMap];rcases h with h | h
  · exact ⟨.inl ⟨r,h,qe⟩,.inl ⟨r,h,qe⟩⟩
  · exact ⟨.inr ⟨r,h,qe⟩,.inr ⟨r,h,qe⟩⟩
theorem qg5 (kind : Int) : mrgR kind [] [] = []:=by
  refine qei (qcc kind qe) .nil fun x y=>?_;rw [qc0 kind qe];have:=qfc x y;unfold Kw;simp [this]
theorem qlk (kind : Int) {p q : List qg} (h : p.length + q.length≤100000) :
    ∃ f,mrgB kind p q = Kz putB f∧CanG f∧∀ z,secG f z = secB kind p q z:=by
  have t:=Z9 p;have u:=Z9 q;have hs:=(J6 (l:=zsOf p ++ zsOf q) (by simp;omega)).2.1;obtain ⟨f,m,k,n⟩:=qli putB (secB kind p q) hs.1;refine ⟨f,m,k,fun x=>?_⟩;rw [n]
  have g : ∀ r,(r∈p∨r∈q)→r.Lo.Z∈Qs (zsOf p ++ zsOf q)∧r.Hi.Z∈Qs (zsOf p ++ zsOf q):=fun r b=>
    ⟨(hs.2 _).2 (qlh b).1,(hs.2 _).2 (qlh b).2⟩
  refine qd1 _ hs.1 (fun a _ o c=>?_) (fun c=>?_) (fun c=>?_)
  · have d : ∀ r,(r∈p∨r∈q)→covB a r = covB x r:=fun r b=>by
      have j:=c _ (g r b).1;have s:=c _ (g r b).2;rw [Bool.eq_iff_iff,U6,U6];omega
    unfold secB;rw [qi2 fun r b=>d r (.inl b),qi2 fun r b=>d r (.inr b)]
  · have d : ∀ r,(r∈p∨r∈q)→covB x r = false:=fun r b=>by
      have j:=c _ (g r b).1;rw [← Bool.not_eq_true,U6];omega
    unfold secB;rw [qbd fun r b=>d r (.inl b),qbd fun r b=>d r (.inr b),qg5]
  · have d : ∀ r,(r∈p∨r∈q)→covB x r = false:=fun r b=>by
      have j:=c _ (g r b).2;rw [← Bool.not_eq_true,U6];omega
    unfold secB;rw [qbd fun r b=>d r (.inl b),qbd fun r b=>d r (.inr b),qg5]
def CanB (l : List qg) : Prop:=∃ gs : List (Grp qi),l = Kz putB gs∧CanG gs∧∀ g∈gs,CanR g.sec
theorem CanB.nil : CanB []:=⟨[],rfl,⟨qe,qe⟩,qe⟩
theorem CanB.at {l : List qg} (h : CanB l) (z : Int) : CanR (atB l z):=by
  obtain ⟨b,rfl,c,a⟩:=h;rw [q8a c];rcases qgu (x:=z) b with e | ⟨g,d,_,_,e⟩
  · rw [e];exact .nil
  · rw [e];exact a g d
theorem qi9 {a b : List qg} (c : CanB a) (hb : CanB b) (h : ∀ x y z,hasB a x y z↔hasB b x y z) : a = b:=by
  have g : ∀ z,atB a z = atB b z:=fun z=>qei (c.at z) (hb.at z) fun x y=>by rw [q3w,q3w];exact h x y z
  obtain ⟨j,rfl,f,_⟩:=c;obtain ⟨k,rfl,d,_⟩:=hb;rw [qeh f d fun x=>by rw [← q8a f,← q8a d];exact g x]
theorem qi4 {p q : List qg} (h : p.length + q.length≤100000) (z : Int) : (atB p z).length + (atB q z).length≤100000:=by
  have:=J3 p z;have:=J3 q z;omega
theorem q8x (kind : Int) {p q : List qg} (h : p.length + q.length≤100000) : CanB (mrgB kind p q):=by
  obtain ⟨f,c,a,d⟩:=qlk kind h;refine ⟨f,c,a,fun g b=>?_⟩;have:=d g.lo;rw [qgt a g b _ (Int.le_refl _) (a.1 g b).1] at this;rw [this];exact qcc kind (qi4 h _)
theorem qi3 (kind : Int) {p q : List qg} (h : p.length + q.length≤100000) (z : Int) : atB (mrgB kind p q) z = secB kind p q z:=by
  obtain ⟨d,a,c,b⟩:=qlk kind h;rw [a,q8a c,b]
theorem qbz (kind : Int) {p q : List qg} (h : p.length + q.length≤100000) (x y z : Int) : hasB (mrgB kind p q) x y z↔Kw kind (hasB p x y z) (hasB q x y z):=by
  rw [← q3w,qi3 kind h,secB,qc0 kind (qi4 h z),q3w,q3w]
theorem qsc {l : List qg} (h : l.length≤100000) (x y z : Int) : hasB (mrgB 2 l []) x y z↔hasB l x y z:=by
  rw [qbz 2 (by simpa using h),q8q];simp [qfb]
theorem qtu {l : List qg} (a : l.length≤100000) (h : CanB l) : mrgB 2 l [] = l:=
  qi9 (q8x 2 (by simpa using a)) h fun x y z=>qsc a x y z
theorem CanB.lt {l : List qg} (h : CanB l) : ∀ b∈l,b.Lo.X < b.Hi.X∧b.Lo.Y < b.Hi.Y∧b.Lo.Z < b.Hi.Z:=by
  obtain ⟨k,rfl,f,c⟩:=h;intro r d;obtain ⟨g,a,t,j,rfl⟩:=q5q.1 d;have:=(c g a).lt t j;exact ⟨this.1,this.2,(f.1 g a).1⟩
def vB (b : qg) : Prop:=(b.Lo.X < b.Hi.X∧b.Lo.Y < b.Hi.Y∧b.Lo.Z < b.Hi.Z)∧(-1000000≤b.Lo.X∧-1000000≤b.Lo.Y∧-1000000≤b.Lo.Z)∧b.Hi.X≤1000000∧b.Hi.Y≤1000000∧b.Hi.Z≤1000000
instance (b : qg) : Decidable (vB b):=by unfold vB;infer_instance
def InB (l : List qg) : Prop:=∀ x y z,hasB l x y z→(-1000000≤x∧x < 1000000)∧(-1000000≤y∧y < 1000000)∧(-1000000≤z∧z < 1000000)
theorem qot {l : List qg} (h : ∀ r∈l,vB r) : InB l:=by
  rintro x y z ⟨r,a,b⟩;have:=h r a;unfold vB at this;omega
theorem CanB.vB {l : List qg} (h : CanB l) (hi : InB l) : ∀ r∈l,vB r:=by
  intro r a;have c:=h.lt r a;have b:=hi r.Lo.X r.Lo.Y r.Lo.Z ⟨r,a,q0⟩;have d:=hi (r.Hi.X - 1) (r.Hi.Y - 1) (r.Hi.Z - 1) ⟨r,a,q0⟩;unfold Go.Sh.vB;omega
theorem InB.mrg {kind : Int} {p q : List qg} (h : p.length + q.length≤100000) (hp : InB p) (hq : InB q) : InB (mrgB kind p q):=fun x y z b=>by
  rcases qfj ((qbz kind h x y z).1 b) with a | a
  · exact hp x y z a
  · exact hq x y z a
theorem InB.nil : InB []:=fun x y z h=>absurd h (qfb x y z)
theorem qou {l : List qg} (h : ∀ b∈l,vB b) (z : Int) : ∀ r∈atB l z,vR r:=by
  intro r a;obtain ⟨b,hb,_,rfl⟩:=qg1.1 a;have:=h b hb;unfold vB at this;unfold vR Zw;simp only;omega
theorem InB.at {l : List qg} (h : InB l) (z : Int) : InR (atB l z):=fun x y a=>by
  have:=h x y z (q3w.1 a);exact ⟨this.1,this.2.1⟩
noncomputable def K9 (l : List qg) : Int:=if 400 < l.length then 4 else if ∀ b∈l,vB b then (if mrgB 2 l [] = l then 0 else 8) else 8
theorem Zp {l : List qg} : K9 l = 0↔l.length≤400∧(∀ b∈l,vB b)∧CanB l:=by
  unfold K9;constructor
  · intro h;split at h
    · exact absurd h qw
    · rename_i d;split at h
      · rename_i c;split at h
        · rename_i a;exact ⟨q0,c,a ▸ q8x 2 (by simp;omega)⟩
        · exact absurd h qw
      · exact absurd h qw
  · rintro ⟨d,c,a⟩;rw [qs q0,qr c,qr (qtu q0 a)]
theorem qn8 (kind : Int) {p q : List qg} (h : p.length + q.length≤100000) (z : Int) : (secB kind p q z).length≤(mrgB kind p q).length:=by
  rw [← qi3 kind h];exact J3 _ _
theorem qyr (kind : Int) {p q : List qi} (h : p.length + q.length≤100000) (x : Int) : (secJ kind p q x).length≤(mrgR kind p q).length:=by
  rw [← qiy kind h];exact Uh _ _
noncomputable def mkB (l : List qg) : List qg × Int:=if 400 < l.length then ([],4) else if ∀ b∈l,vB b then (if 400 < (mrgB 2 l []).length then ([],4) else (mrgB 2 l [],0)) else ([],8)
noncomputable def jB (kind : Int) (p q : List qg) : List qg × Int:=
  if K9 p≠0 then ([],K9 p) else if K9 q≠0 then ([],K9 q) else if 400 < (mrgB kind p q).length then ([],4) else (mrgB kind p q,0)
noncomputable def mkR (l : List qi) : List qi × Int:=if 400 < l.length then ([],4) else if ∀ b∈l,vR b then (if 400 < (mrgR 2 l []).length then ([],4) else (mrgR 2 l [],0)) else ([],8)
noncomputable def jR (kind : Int) (p q : List qi) : List qi × Int:=
  if Yj p≠0 then ([],Yj p) else if Yj q≠0 then ([],Yj q) else if 400 < (mrgR kind p q).length then ([],4) else (mrgR kind p q,0)
end Go.Sh
namespace Go.Sh
open Go Go.Am
def ofR (q : Rat) : Y3:={Num:=q.num,Den:=(q.den : Int)}
theorem q2d (q : Rat) : (0 : Int) < (q.den : Int):=by have:=q.den_pos;omega
theorem qbw (q : Rat) : fr q.num (q.den : Int) = q:=by
  unfold fr;rw [← Rat.divInt_eq_div];exact Rat.num_divInt_den q
theorem qtf (q : Rat) : LowT q.num (q.den : Int):=⟨q2d q,by
  have:=q.reduced
  unfold Int.gcd;simpa [Nat.Coprime] using this⟩
theorem qg8 {a b : Int} (h : LowT a b) : ofR (fr a b) = {Num:=a,Den:=b}:=by
  obtain ⟨c,d⟩:=qtg (qtf (fr a b)) h (qbw _);unfold ofR;rw [c,d]
theorem qt8 (a b : Rat) : a.num * (b.den : Int) < b.num * (a.den : Int)↔a < b:=by
  rw [← q5f (q2d a) (q2d b),qbw,qbw]
theorem qrz (n m : Int) : fr (-n) (-m) = fr n m:=by
  unfold fr;rw [Rat.intCast_neg,Rat.intCast_neg];grind
theorem qg7 {n m N M : Int} (o : 0 < m) (v : -N≤n∧n≤N) (t : m≤M) : (-N≤(fr n m).num∧(fr n m).num≤N)∧1≤((fr n m).den : Int)∧((fr n m).den : Int)≤M:=by
  obtain ⟨r,k⟩:=ql9 (n:=n) o;have e:=qg8 r;rw [k] at e;have d : (fr n m).num = n / (Int.gcd n m : Int):=congrArg Y3.Num e;have f : ((fr n m).den : Int) = m / (Int.gcd n m : Int):=congrArg Y3.Den e;have u : 0 < Int.gcd n m:=Int.gcd_pos_of_ne_zero_right n q0;obtain ⟨a,p⟩:=Int.gcd_dvd_left (a:=n) (b:=m);obtain ⟨b,hb⟩:=Int.gcd_dvd_right (a:=n) (b:=m);have hp:=q2d (fr n m);generalize Int.gcd n m = g at *;have s : n / (g : Int) = a:=by rw [p];exact Int.mul_ediv_cancel_left a q0
  have j : m / (g : Int) = b:=by rw [hb];exact Int.mul_ediv_cancel_left b q0
  rw [s] at d;rw [j] at f;rw [d,f];have c : (1 : Int)≤g:=by omega
  have h : 0 < b:=by omega
  have q : b≤m:=by
    have : 1 * b≤(g : Int) * b:=Int.mul_le_mul_of_nonneg_right c q0;omega
  refine ⟨?_,q0,q0⟩;by_cases l : 0≤a
  · have : 1 * a≤(g : Int) * a:=Int.mul_le_mul_of_nonneg_right c l;omega
  · have : 1 * (-a)≤(g : Int) * (-a):=Int.mul_le_mul_of_nonneg_right c q0;simp only [Int.mul_neg] at this;omega
end Go.Sh
