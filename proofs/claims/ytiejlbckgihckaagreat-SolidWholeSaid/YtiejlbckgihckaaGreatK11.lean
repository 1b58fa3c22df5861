/- Pt1 Pt2 Pt3 Pt4 Pt5 Pt6 Pt7 Qa1 Qa2 Qa3 -/
import Derived.Test.YtiejlbckgihckaaGreatK10
namespace Go.Sh
open Go Go.Am
theorem Zv {α β : Type} {f : α→Option (α ⊕ β)} (st : Nat→α) (n : Nat) (b : β) (hs : ∀ k,k < n→f (st k) = some (.inl (st (k + 1)))) (hd : f (st n) = some (.inr b)) : ∀ {k : Nat},k≤n→loop f (st k) = some b:=by
  have key : ∀ m k,n - k = m→k≤n→loop f (st k) = some b:=by
    intro m
    induction m with
    | zero => intro k c a; obtain rfl : k = n := by omega
              exact Kn hd
    | succ m ih=>intro k c a;rw [Y9 (hs k q0)];exact ih (k + 1) q0 q0
  intro k a;exact key _ k rfl a
theorem w64s {k : Nat} {n : Nat} (h : k < n) (a : n≤1000000) : w64 ((k : Int) + 1) = ((k + 1 : Nat) : Int):=by rw [Qb q0];omega
theorem dlt {k n : Nat} (h : k < n) : decide ((k : Int) < (n : Int)) = true:=Qf q0
theorem dnl {n : Nat} : decide ((n : Int) < (n : Int)) = false:=Qj q0
theorem U1 {α β γ : Type} (src : List α) (b : src.length≤1000000) (h : α→List γ) (out : List γ) (fin : List γ→β) (f : Int × List γ→Option ((Int × List γ) ⊕ β))
    (hs : ∀ (k : Nat) (a : k < src.length) (o : List γ),o = out ++ (src.take k).flatMap h→f ((k : Int),o) = some (.inl (((k + 1 : Nat) : Int),o ++ h src[k])))
    (hd : ∀ o,f ((src.length : Int),o) = some (.inr (fin o))) : loop f (0,out) = some (fin (out ++ src.flatMap h)):=by
  have e : ∀ k (a : k < src.length),(src.take (k + 1)).flatMap h = (src.take k).flatMap h ++ h src[k]:=fun k a=>by
    rw [List.take_succ_eq_append_getElem a,List.flatMap_append,List.flatMap_cons,List.flatMap_nil,List.append_nil]
  have:=Zv (f:=f) (fun k=>((k : Int),out ++ (src.take k).flatMap h)) src.length (fin (out ++ src.flatMap h)) (fun k a=>by
    rw [hs k a _ rfl,e k a,List.append_assoc]) (by simp only [List.take_length];exact hd _) (Nat.zero_le _)
  simpa using this
theorem q9e {α β γ : Type} (src : List α) (h : α→γ) (out : List γ) (fin : List γ→β) (f : Int × List γ→Option ((Int × List γ) ⊕ β))
    (hs : ∀ (k : Nat) (a : k < src.length) (o : List γ),o.length = out.length + k→f ((k : Int),o) = some (.inl (((k + 1 : Nat) : Int),o ++ [h src[k]])))
    (hd : ∀ o,f ((src.length : Int),o) = some (.inr (fin o))) : loop f (0,out) = some (fin (out ++ src.map h)):=by
  have e : ∀ k (a : k < src.length),(src.take (k + 1)).map h = (src.take k).map h ++ [h src[k]]:=fun k a=>by
    rw [List.take_succ_eq_append_getElem a,List.map_append,List.map_cons,List.map_nil]
  have:=Zv (f:=f) (fun k=>((k : Int),out ++ (src.take k).map h)) src.length (fin (out ++ src.map h)) (fun k a=>by
    rw [hs k a _ (by simp;omega),e k a,List.append_assoc]) (by simp only [List.take_length];exact hd _) (Nat.zero_le _)
  simpa using this
theorem qc0 {γ : Type} (g : γ→γ) (a b : List γ) (l : (a ++ b).length≤1000000) (f : Int × List γ→Option ((Int × List γ) ⊕ (List γ)))
    (hs : ∀ (k : Nat) (o : List γ) (h : k < o.length),o.length = (a ++ b).length→f ((k : Int),o) = some (.inl (((k + 1 : Nat) : Int),o.set k (g o[k]))))
    (hd : ∀ o : List γ,f ((o.length : Int),o) = some (.inr o)) : loop f ((a.length : Int),a ++ b) = some (a ++ b.map g):=by
  have m : a.length + b.length≤1000000:=by simpa using l
  have key:=Zv (f:=f) (fun k=>(((a.length + k : Nat) : Int),a ++ ((b.take k).map g ++ b.drop k))) b.length (a ++ b.map g) (fun k h=>by
    have c : (a ++ ((b.take k).map g ++ b.drop k)).length = (a ++ b).length:=by simp;omega
    have d : a.length + k < (a ++ ((b.take k).map g ++ b.drop k)).length:=by rw [c];simp;omega
    rw [hs (a.length + k) _ d c];have j : ((b.take k).map g).length = k:=by simp;omega
    have e : (a ++ ((b.take k).map g ++ b.drop k))[a.length + k]'d = b[k]:=by
      rw [List.getElem_append_right q0];rw [List.getElem_append_right (by rw [j];omega)];simp [List.length_take,Nat.min_eq_left (Nat.le_of_lt h)]
    rw [e];congr 4;rw [List.set_append,qq q0,List.set_append,qq (by rw [j];omega),j];have z : a.length + k - a.length - k = 0:=by omega
    rw [z,List.take_succ_eq_append_getElem h,List.drop_eq_getElem_cons h,List.set_cons_zero,List.map_append,List.map_cons,List.map_nil,List.append_assoc]
    rfl) (by
    simp only [List.take_length,List.drop_length,List.append_nil];have:=hd (a ++ b.map g)
    simpa using this) (Nat.zero_le _)
  simpa using key
theorem q2u {α γ υ : Type} (l : List α) (c : α→Bool) (n : (k : Nat)→k < l.length→γ) (u : υ) (f : Int→Option (Int ⊕ (υ ⊕ γ)))
    (hs : ∀ (k : Nat) (h : k < l.length),f (k : Int) = some (if c l[k] = true then .inr (.inr (n k h)) else .inl ((k + 1 : Nat) : Int))) (hd : f (l.length : Int) = some (.inr (.inl u))) :
    ((∀ v∈l,c v = false)∧loop f 0 = some (.inl u))∨∃ k,∃ h : k < l.length,c l[k] = true∧(∀ j (d : j < k),c (l[j]'(q0)) = false)∧loop f 0 = some (.inr (n k h)):=by
  by_cases q : ∀ v∈l,c v = false
  · refine .inl ⟨q,?_⟩;exact Zv (f:=f) (fun k=>(k : Int)) l.length _ (fun k b=>by rw [hs k b,q _ (Ki b)];rfl) hd (Nat.zero_le _)
  · refine .inr ?_
    have : ∃ k,∃ h : k < l.length,c l[k] = true:=by
      refine Classical.byContradiction fun r=>q fun v s=>?_;obtain ⟨k,b,rfl⟩:=List.getElem_of_mem s;cases o : c l[k]
      · rfl
      · exact absurd ⟨k,b,o⟩ r
    have m : ∃ k,(∃ h : k < l.length,c l[k] = true)∧∀ j,j < k→¬ ∃ h : j < l.length,c l[j] = true:=by
      obtain ⟨k,b⟩:=this
      induction k using Nat.strongRecOn with
      | _ k ih=>
        by_cases d : ∃ j,j < k∧∃ h : j < l.length,c l[j] = true
        · obtain ⟨j,p,m⟩:=d;exact ih j p m
        · exact ⟨k,b,fun j p m=>d ⟨j,p,m⟩⟩
    obtain ⟨k,⟨b,o⟩,g⟩:=m
    have a : ∀ j (d : j < k),c (l[j]'(q0)) = false:=fun j d=>by
      cases h : c (l[j]'(q0))
      · rfl
      · exact absurd ⟨q0,h⟩ (g j d)
    refine ⟨k,b,o,a,?_⟩;exact Zv (f:=f) (fun k=>(k : Int)) k _ (fun j d=>by rw [hs j q0,a j d];rfl) (by rw [hs k b,qr o]) (Nat.zero_le _)
theorem qoj : ∀ {l a b : List Int},Z4 l a→Z4 l b→a = b:=by
  have key : ∀ (a b : List Int),a.Pairwise (· < ·)→b.Pairwise (· < ·)→(∀ x,x∈a↔x∈b)→a = b:=by
    intro a
    induction a with
    | nil=>intro b _ _ h;cases b with
      | nil=>rfl
      | cons y b=>exact absurd ((h y).2 qd) qd
    | cons x a ih=>
      intro b d hb h
      cases b with
      | nil=>exact absurd ((h x).1 qd) qd
      | cons y b=>
        rw [List.pairwise_cons] at d hb
        have g : x = y:=by
          rcases List.mem_cons.1 ((h x).1 qd) with c | c
          · exact c
          · rcases List.mem_cons.1 ((h y).2 qd) with j | j
            · exact j.symm
            · have:=hb.1 _ c;have:=d.1 _ j;omega
        subst g;rw [ih b d.2 hb.2 fun z=>?_];constructor
        · intro f;rcases List.mem_cons.1 ((h z).1 (by simp [f])) with c | c
          · have:=d.1 _ f;omega
          · exact c
        · intro f;rcases List.mem_cons.1 ((h z).2 (by simp [f])) with c | c
          · have:=hb.1 _ f;omega
          · exact c
  intro l a b d hb;exact key a b d.1 hb.1 fun x=>(d.2 x).trans (hb.2 x).symm
def ltI (a b : Int) : Bool:=decide (a < b)
theorem swoI : Sort.SWO ltI where
  irrefl:=by intro x;simp [ltI]
  trans:=by intro x y z;simp only [ltI,decide_eq_true_eq];omega
  ntrans:=by intro x y z;simp only [ltI,decide_eq_false_iff_not];omega
theorem cmpI : Kw qO ltI (fun _=>True):=by
  intro x y _ _;refine ⟨sg x y,rfl,?_⟩;rw [Ja];rfl
theorem qoi (l : List Int) (c : l.length≤1000000) : ∃ ys,Ud l = some ys∧ys.Perm l∧ys.Pairwise (·≤·):=by
  obtain ⟨ys,g,f,d⟩:=qoh cmpI swoI l c (fun _ _=>trivial);refine ⟨ys,by rw [q109];exact g,f,d.imp ?_⟩;intro a b h;simp only [ltI,decide_eq_false_iff_not] at h;omega
end Go.Sh
namespace Go.Sh
open Go Go.Am
structure CInv (p : List Int) (k k2 i : Nat) (a : List Int) : Prop where
  len : a.length = p.length
  hi : i≤k + k2 - 1
  same : ∀ j (h : j < p.length),k + k2 - 1≤j→a[j]? = some p[j]
  so : Z4 (p.take (k + k2)) (a.take i)
theorem qrr {p : List Int} (hp : p.Pairwise (·≤·)) (hl : p.length≤1000000) {k b i : Nat} {a : List Int} (hk : 0 < k) (h2 : 0 < b) (s : k + b < p.length) (h : CInv p k b i a) :
    ∃ (i' : Nat) (a' : List Int),q2b ((i : Int),(k,p.length - k),(b : Int),a) = some (.inl ((i' : Int),(k,p.length - k),((b + 1 : Nat) : Int),a'))∧CInv p k (b + 1) i' a':=by
  obtain ⟨h1,h3,o,h5,v⟩:=h;have hb : decide ((b : Int) < ((p.length - k : Nat) : Int)) = true:=dlt q0
  have z : idxW a (k,p.length - k) (b : Int) = some (p[k + b]):=by
    unfold idxW;rw [qr ⟨q0,q0⟩];simp only [Int.toNat_natCast];exact o (k + b) s q0
  have r2 : idxW a (k,p.length - k) (w64 ((b : Int) - 1)) = some (p[k + b - 1]):=by
    rw [Qb q0];have e : (b : Int) - 1 = ((b - 1 : Nat) : Int):=by omega
    rw [e];unfold idxW;rw [qr ⟨q0,q0⟩];simp only [Int.toNat_natCast];have:=o (k + b - 1) q0 q0;rw [show k + (b - 1) = k + b - 1 by omega];exact this
  have ah : p[k + b - 1]≤p[k + b]:=List.pairwise_iff_getElem.1 hp _ _ q0 s q0
  have d : p[k + b - 1]∈p.take (k + b):=by
    rw [List.mem_take_iff_getElem];exact ⟨k + b - 1,q0,rfl⟩
  have f : p.take (k + (b + 1)) = p.take (k + b) ++ [p[k + b]]:=by rw [← Nat.add_assoc,List.take_succ_eq_append_getElem s]
  have hw : w64 ((b : Int) + 1) = ((b + 1 : Nat) : Int):=w64s (n:=p.length) q0 hl;by_cases r : p[k + b] = p[k + b - 1]
  · refine ⟨i,a,?_,h1,q0,fun j q t=>o j q q0,?_⟩
    · have c : (p[k + b] != p[k + b - 1]) = false:=by rw [r];simp
      simp only [q2b,hb,Q2,z,r2,qk,c,Q3,hw]
    · rw [f];refine ⟨h5,fun x=>?_⟩;rw [v x];constructor
      · intro m;exact List.mem_append.2 (.inl m)
      · intro m;rcases List.mem_append.1 m with h | h
        · exact h
        · simp only [List.mem_singleton] at h;rw [h,r];exact d
  · have c : (p[k + b] != p[k + b - 1]) = true:=by simpa using r
    have g : i < a.length:=by omega
    have r3 : idx a (i : Int) = some a[i]:=Qx g;have u : w64 ((i : Int) + 1) = ((i + 1 : Nat) : Int):=w64s (n:=p.length) q0 hl;refine ⟨i + 1,a.set i p[k + b],?_,by simpa using h1,q0,fun j q t=>?_,?_⟩
    · simp only [q2b,hb,Q2,z,r2,qk,c,r3,hw,u,Int.toNat_natCast]
    · rw [List.getElem?_set_ne q0];exact o j q q0
    · have e : (a.set i p[k + b]).take (i + 1) = a.take i ++ [p[k + b]]:=by
        rw [List.take_succ_eq_append_getElem (by simpa using g)];simp [List.take_set_of_le]
      rw [e,f];refine ⟨?_,fun x=>?_⟩
      · rw [List.pairwise_append];refine ⟨h5,qd,fun x m y hy=>?_⟩;simp only [List.mem_singleton] at hy;subst hy;have l:=(v x).1 m;rw [List.mem_take_iff_getElem] at l;obtain ⟨j,q,rfl⟩:=l
        have : p[j]≤p[k + b - 1]:=by
          by_cases w : j = k + b - 1
          · subst w;exact Int.le_refl _
          · exact List.pairwise_iff_getElem.1 hp _ _ q0 q0 q0
        omega
      · rw [List.mem_append,List.mem_append,v x]
theorem qrq {p : List Int} (hp : p.Pairwise (·≤·)) (r : p.length≤1000000) {k : Nat} (v : 0 < k) (q : k < p.length) (s : Z4 (p.take (k + 1)) (p.take k)) :
    ∃ i : Nat,∃ a : List Int,loop q2b ((k : Int),(k,p.length - k),1,p) = some ((i : Int),a)∧a.length = p.length∧i≤p.length∧Z4 p (a.take i):=by
  have h:=Zz (f:=q2b) (mk:=fun d (c : Nat × List Int)=>((c.1 : Int),(k,p.length - k),((d : Nat) : Int),c.2)) (p.length - k) (fun d c=>0 < d∧CInv p k d c.1 c.2)
    (fun b=>∃ i : Nat,∃ a : List Int,b = ((i : Int),a)∧a.length = p.length∧i≤p.length∧Z4 p (a.take i))
    (fun d c u g=>by
      obtain ⟨o,a',y,x⟩:=qrr hp r v g.1 q0 g.2
      exact .inl ⟨(o,a'),y,q0,x⟩)
    (fun c g=>by
      obtain ⟨l,n,z,h4,w⟩:=g;refine ⟨((c.1 : Int),c.2),?_,c.1,c.2,rfl,n,q0,?_⟩
      · simp only [q2b,dnl,Q3]
      · rwa [List.take_of_length_le q0] at w)
    (k0:=1) (c0:=(k,p)) q0 ⟨q0,rfl,qd,fun j t _=>by simp [t],s⟩
  obtain ⟨b,hb,i,a,rfl,m⟩:=h;exact ⟨i,a,hb,m⟩
theorem qj9 {p : List Int} (hp : p.Pairwise (·≤·)) (y : p.length≤1000000) :
    ∃ w a,q1g p = some ((0,w),a)∧a.length = p.length∧w≤p.length∧Z4 p (a.take w):=by
  unfold q1g;by_cases hs : p.length < 2
  · rw [Qf (by omega : (p.length : Int) < 2),Q2];refine ⟨p.length,p,rfl,rfl,Nat.le_refl _,?_⟩;rw [List.take_length];refine ⟨?_,fun x=>Iff.rfl⟩
    match p,hs with
    | [],_=>simp
    | [x],_=>simp
  rw [Qj (by omega : ¬ (p.length : Int) < 2),Q3]
  have b : ∀ k,k≤p.length→(∀ j (n : j < k),0 < j→∀ h : j < p.length,p[j]≠p[j - 1])→Z4 (p.take k) (p.take k):=by
    intro k o q;refine ⟨?_,fun x=>Iff.rfl⟩;rw [List.pairwise_iff_getElem];intro i j hi n ae;simp only [List.length_take] at hi n;simp only [List.getElem_take];have m : p[j - 1]≤p[j]:=List.pairwise_iff_getElem.1 hp _ _ q0 q0 q0;have r:=q j q0 q0 q0
    have h3 : p[i]≤p[j - 1]:=by
      by_cases e : i = j - 1
      · subst e;exact Int.le_refl _
      · exact List.pairwise_iff_getElem.1 hp _ _ q0 q0 q0
    omega
  have c : ∀ k,0 < k→∀ h : k < p.length,p[k]≠p[k - 1]→Js p (k : Int) = some (.inl ((k + 1 : Nat) : Int)):=by
    intro k l h q;have t : idx p (w64 ((k : Int) - 1)) = some (p[k - 1]):=by rw [Qb q0];exact Jh q0 q0
    have hb : (p[k] == p[k - 1]) = false:=by simpa using q
    simp only [Js,dlt h,Q2,Qx h,t,qk,hb,Q3,w64s h y]
  by_cases u : ∀ j,0 < j→∀ h : j < p.length,p[j]≠p[j - 1]
  · have m : loop (Js p) 1 = some (.inl ()):=by
      exact Zv (f:=Js p) (fun k=>((k + 1 : Nat) : Int)) (p.length - 1) _ (fun k o=>by
        exact c (k + 1) q0 q0 (u (k + 1) q0 q0)) (by
        show Js p (((p.length - 1) + 1 : Nat) : Int) = _;rw [show p.length - 1 + 1 = p.length by omega]
        simp only [Js,dnl,Q3]) (Nat.zero_le _)
    rw [m];refine ⟨p.length,p,rfl,rfl,Nat.le_refl _,?_⟩;have:=b p.length (Nat.le_refl _) fun j _ l h=>u j l h;rw [List.take_length] at this ⊢;exact this
  · have r : ∃ k,(0 < k∧∃ h : k < p.length,p[k] = p[k - 1])∧∀ j,j < k→¬ (0 < j∧∃ h : j < p.length,p[j] = p[j - 1]):=by
      have : ∃ k,0 < k∧∃ h : k < p.length,p[k] = p[k - 1]:=by
        refine Classical.byContradiction fun hn=>u fun j l h g=>hn ⟨j,l,h,g⟩
      obtain ⟨k,o⟩:=this
      induction k using Nat.strongRecOn with
      | _ k ih=>
        by_cases n : ∃ j,j < k∧(0 < j∧∃ h : j < p.length,p[j] = p[j - 1])
        · obtain ⟨j,m,r⟩:=n;exact ih j m r
        · exact ⟨k,o,fun j m r=>n ⟨j,m,r⟩⟩
    obtain ⟨k,⟨l,o,g⟩,d⟩:=r;have v : Z4 (p.take k) (p.take k):=b k q0 fun j n l h g=>d j n ⟨l,h,g⟩
    have s : Z4 (p.take (k + 1)) (p.take k):=by
      refine ⟨v.1,fun x=>?_⟩;rw [List.take_succ_eq_append_getElem o,List.mem_append];refine ⟨.inl,fun h=>h.elim id fun h=>?_⟩;simp only [List.mem_singleton] at h;rw [h,g,List.mem_take_iff_getElem];exact ⟨k - 1,q0,rfl⟩
    obtain ⟨i,a,e1,e2,e3,e4⟩:=qrq hp y l o s;have s1 : sub2 p.length (k : Int) (p.length : Int) = some (k,p.length - k):=by unfold sub2;rw [qr ⟨q0,q0,q0⟩];simp
    have z : sub2 a.length (i : Int) (a.length : Int) = some (i,a.length - i):=by unfold sub2;rw [qr ⟨q0,q0,q0⟩];simp
    have s3 : sub2 a.length 0 (i : Int) = some (0,i):=by unfold sub2;rw [qr ⟨q0,q0,q0⟩];simp
    have t : idx p (w64 ((k : Int) - 1)) = some (p[k - 1]):=by rw [Qb q0];exact Jh q0 q0
    have m : loop (Js p) 1 = some (.inr ((0,i),clrw a (i,a.length - i) 0)):=by
      exact Zv (f:=Js p) (fun k=>((k + 1 : Nat) : Int)) (k - 1) _ (fun j n=>by
        exact c (j + 1) q0 q0 fun g=>d (j + 1) q0 ⟨q0,q0,g⟩) (by
        show Js p (((k - 1) + 1 : Nat) : Int) = _;rw [show k - 1 + 1 = k by omega];have hb : (p[k] == p[k - 1]) = true:=by simpa using g
        simp only [Js,dlt o,Q2,Qx o,t,qk,hb,s1,e1,z,s3]) (Nat.zero_le _)
    rw [m];refine ⟨i,clrw a (i,a.length - i) 0,rfl,by rw [qiy (by simp;omega)];exact e2,e3,?_⟩
    have : (clrw a (i,a.length - i) 0).take i = a.take i:=by
      unfold clrw splice;rw [List.append_assoc,List.take_append_of_le_length (by simp;omega)];simp [List.take_take]
    rw [this];exact e4
end Go.Sh
namespace Go.Sh
open Go Go.Am
theorem q93 {α : Type} [DecidableEq α] (e : α→α→Bool) (d : ∀ v w,e v w = decide (v = w)) (p q : List α) (n : p.length≤1000000) (f : Int→Option (Int ⊕ (Unit ⊕ Bool)))
    (j : ∀ k,f k = cond (decide (k < (p.length : Int))) ((idx p k).bind fun v=>(idx q k).bind fun w=>cond (!(e v w)) (some (.inr (.inr false))) (some (.inl (w64 (k + 1))))) (some (.inr (.inl ())))) :
    cond ((p.length : Int) != (q.length : Int)) (some false) ((loop f 0).bind fun m=>(match m with | .inl _=>some true | .inr x=>some x)) = some (decide (p = q)):=by
  by_cases a : p.length = q.length
  · have : ((p.length : Int) != (q.length : Int)) = false:=by rw [a];simp
    rw [this,Q3]
    let c : Nat→Bool:=fun k=>if h : k < p.length then !(e p[k] (q[k]'(q0))) else false
    have hs : ∀ (k : Nat) (h : k < (List.range p.length).length),f (k : Int) = some (if c (List.range p.length)[k] = true then .inr (.inr false) else .inl ((k + 1 : Nat) : Int)):=by
      intro k h;have h : k < p.length:=by simpa using h
      rw [j];simp only [dlt h,Q2,Qx h,Qx (xs:=q) (k:=k) q0,qk,List.getElem_range,c,dif_pos h,w64s h n];cases e p[k] (q[k]'(q0)) <;> simp
    have hd : f ((List.range p.length).length : Int) = some (.inr (.inl ())):=by rw [j];simp []
    rcases q2u (List.range p.length) c (fun _ _=>false) () f hs hd with ⟨o,b⟩ | ⟨k,s,l,_,b⟩
    · rw [b]
      have : p = q:=by
        refine List.ext_getElem a fun k g t=>?_;have:=o k (by simpa using g);simp only [c,dif_pos g,d,Bool.not_eq_false',decide_eq_true_eq] at this;exact this
      simp [this]
    · rw [b];have r : k < p.length:=by simpa using s
      have : p≠q:=by
        intro h;simp only [List.getElem_range,c,d,h] at l;simp at l
      simp [this]
  · have : ((p.length : Int) != (q.length : Int)) = true:=by simpa using (fun h : (p.length : Int) = q.length=>a q0)
    rw [this,Q2];have : p≠q:=fun h=>a (by rw [h]);simp [this]
theorem qjt (p q : List qj) (a : p.length≤1000000) : qa6 p q = some (decide (p = q)):=
  q93 (fun v w=>((v.Lo == w.Lo) && ((v.Hi == w.Hi) && true))) (fun v w=>by cases v;cases w;rw [Bool.eq_iff_iff];simp) p q a (qd9 p q) (fun _=>rfl)
theorem qne (p q : List qj) (a : p.length≤1000000) : q6k p q = some (decide (p = q)):=
  q93 (fun v w=>((v.Lo == w.Lo) && ((v.Hi == w.Hi) && true))) (fun v w=>by cases v;cases w;rw [Bool.eq_iff_iff];simp) p q a (qcs p q) (fun _=>rfl)
theorem qf7 (p q : List qi) (a : p.length≤1000000) : q76 p q = some (decide (p = q)):=
  q93 (fun v w=>((v.X0 == w.X0) && ((v.Y0 == w.Y0) && ((v.X1 == w.X1) && ((v.Y1 == w.Y1) && true))))) (fun v w=>by cases v;cases w;rw [Bool.eq_iff_iff];simp) p q a (qd7 p q) (fun _=>rfl)
theorem qnd (p q : List qi) (a : p.length≤1000000) : q6o p q = some (decide (p = q)):=
  q93 (fun v w=>((v.X0 == w.X0) && ((v.Y0 == w.Y0) && ((v.X1 == w.X1) && ((v.Y1 == w.Y1) && true))))) (fun v w=>by cases v;cases w;rw [Bool.eq_iff_iff];simp) p q a (qct p q) (fun _=>rfl)
theorem sameBox (p q : List qe) (a : p.length≤1000000) : q4l p q = some (decide (p = q)):=
  q93 (fun v w=>((v.Lo.X == w.Lo.X) && ((v.Lo.Y == w.Lo.Y) && ((v.Lo.Z == w.Lo.Z) && ((v.Hi.X == w.Hi.X) && ((v.Hi.Y == w.Hi.Y) && ((v.Hi.Z == w.Hi.Z) && true))))))) (fun v w=>by rcases v with ⟨⟨_,_,_⟩,⟨_,_,_⟩⟩;rcases w with ⟨⟨_,_,_⟩,⟨_,_,_⟩⟩;rw [Bool.eq_iff_iff];simp [and_assoc]) p q a (qcw p q) (fun _=>rfl)
structure Mg (σ β : Type) where
  done : List β
  sec : List σ
  lo : Int
  hi : Int
section
variable {σ β : Type} [DecidableEq σ] (put : Int→Int→σ→β)
def Mg.flat (s : Mg σ β) : List β:=s.done ++ s.sec.map (put s.lo s.hi)
def addM (s : Mg σ β) (a b : Int) (c : List σ) : Mg σ β:=if c≠[]∧c = s.sec∧s.hi = a then ⟨s.done,s.sec,s.lo,b⟩ else ⟨s.flat put,c,a,b⟩
def Qy : Mg σ β:=⟨[],[],0,0⟩
def Qz (s0 : Mg σ β) (steps : List (Int × Int × List σ)) : Mg σ β:=steps.foldl (fun s t=>addM put s t.1 t.2.1 t.2.2) s0
theorem q3y {s0 : Mg σ β} {steps : List (Int × Int × List σ)} {i : Nat} (h : i < steps.length) : Qz put s0 (steps.take (i + 1)) = addM put (Qz put s0 (steps.take i)) steps[i].1 steps[i].2.1 steps[i].2.2:=by
  unfold Qz;rw [List.take_succ_eq_append_getElem h,List.foldl_append];rfl
theorem qhz (s : Mg σ β) (a b : Int) (c : List σ) : (addM put s a b c).hi = b:=by unfold addM;split <;> rfl
theorem qpr (s : Mg σ β) (a b : Int) (c : List σ) : ((addM put s a b c).flat put).length≤(s.flat put).length + c.length:=by
  unfold addM;split
  · simp [Mg.flat]
  · simp [Mg.flat];omega
theorem qc1 {s0 : Mg σ β} {M : Nat} : ∀ {steps : List (Int × Int × List σ)},(∀ t∈steps,t.2.2.length≤M)→((Qz put s0 steps).flat put).length≤(s0.flat put).length + steps.length * M:=by
  intro steps
  induction steps generalizing s0 with
  | nil=>intro _;simp [Qz]
  | cons t r ih=>
    intro h;have f:=ih (s0:=addM put s0 t.1 t.2.1 t.2.2) fun u a=>h u (by simp [a]);have d:=qpr put s0 t.1 t.2.1 t.2.2;have c:=h t qd;have b : Qz put s0 (t::r) = Qz put (addM put s0 t.1 t.2.1 t.2.2) r:=rfl;rw [b];simp only [List.length_cons,Nat.succ_mul];omega
end
section
variable {σ : Type}
def Yt (cuts : List Int) (sec : Int→List σ) : List (Int × Int × List σ):=(cuts.zip cuts.tail).map fun c=>(c.1,c.2,sec c.1)
theorem q8l (a : List Int) (sec : Int→List σ) : (Yt a sec).length = a.length - 1:=by simp [Yt]
theorem q8k {a : List Int} {sec : Int→List σ} {i : Nat} (h : i < (Yt a sec).length) (b : i + 1 < a.length) : (Yt a sec)[i] = (a[i],a[i + 1],sec a[i]):=by
  simp [Yt]
theorem q132 {a : List Int} {sec : Int→List σ} {M : Nat} (h : ∀ x,(sec x).length≤M) : ∀ t∈Yt a sec,t.2.2.length≤M:=by
  intro t b;simp only [Yt,List.mem_map] at b;obtain ⟨c,_,rfl⟩:=b;exact h _
end
theorem q1m {σ β : Type} [DecidableEq σ] (put : Int→Int→σ→β) (s : Mg σ β) (a b : Int) (c : List σ) : (c≠[]∧c = s.sec∧s.hi = a∧addM put s a b c = ⟨s.done,s.sec,s.lo,b⟩)∨(¬ (c≠[]∧c = s.sec∧s.hi = a)∧addM put s a b c = ⟨s.flat put,c,a,b⟩):=by
  unfold addM;split
  · rename_i h;exact .inl ⟨h.1,h.2.1,h.2.2,rfl⟩
  · rename_i h;exact .inr ⟨h,rfl⟩
def putR (a b : Int) (t : qj) : qi:={X0:=a,Y0:=t.Lo,X1:=b,Y1:=t.Hi}
theorem qij (s : Mg qj qi) (a b : Int) (c : List qj) (z : (s.flat putR).length + c.length≤1000000) :
    q6x (s.flat putR) s.sec (s.done.length : Int) s.hi a b c = some ((addM putR s a b c).sec,((addM putR s a b c).done.length : Int),(addM putR s a b c).hi,(addM putR s a b c).flat putR):=by
  have d : s.sec.length≤1000000:=by have : (s.flat putR).length = s.done.length + s.sec.length:=(by simp [Mg.flat]);omega
  unfold q6x;rcases q1m putR s a b c with ⟨q,r,x,n⟩ | ⟨q,n⟩
  · have hb : decide ((c.length : Int) > 0) = true:=Qf (by have:=List.length_pos_iff.2 q;omega);have t : (s.hi == a) = true:=by simpa using x
    rw [r] at hb;rw [n,r];simp only [hb,Q2,t,qk,qjt _ _ d,decide_true]
    have:=qc0 (fun v : qi=>({X0:=v.X0,Y0:=v.Y0,X1:=b,Y1:=v.Y1} : qi)) s.done (s.sec.map (putR s.lo s.hi)) (by have : (s.done ++ s.sec.map (putR s.lo s.hi)).length = (s.flat putR).length:=rfl;omega) (q6y b) (fun k o f u=>by
      have l : (s.done ++ s.sec.map (putR s.lo s.hi)).length = (s.flat putR).length:=rfl
      simp only [q6y,dlt f,Q2,Qx f,qk,w64s f q0,Int.toNat_natCast]) (fun o=>by simp only [q6y,dnl,Q3])
    rw [show s.flat putR = s.done ++ s.sec.map (putR s.lo s.hi) from rfl,this];simp only [qk,Mg.flat,List.map_map];rfl
  · rw [n]
    have y : ((cond (decide ((c.length : Int) > 0)) (some (s.hi == a)) (some false)).bind fun j=>(cond j ((qa6 s.sec c).bind fun g=>some g) (some false))) = some false:=by
      by_cases l : c = []
      · subst l;simp
      · have hb : decide ((c.length : Int) > 0) = true:=Qf (by have:=List.length_pos_iff.2 l;omega);simp only [hb,Q2,qk,qjt _ _ d];by_cases p : s.hi = a
        · have w : s.sec≠c:=fun h=>q ⟨l,h.symm,p⟩;simp [p,w]
        · have : (s.hi == a) = false:=by simpa using p
          simp [this]
    have m:=q9e c (putR a b) (s.flat putR) (fun o=>(c,((s.flat putR).length : Int),b,o)) (q6z c a b (s.flat putR)) (fun k f o u=>by
      simp only [q6z,dlt f,Q2,Qx f,qk,w64s f q0];rw [Y4 (by simp;omega)]
      rfl) (fun o=>by simp only [q6z,dnl,Q3])
    rw [← Option.bind_assoc,y];simp only [qk,Q3,m];simp [Mg.flat]
end Go.Sh
namespace Go.Sh
open Go Go.Am
def vR (r : qi) : Prop:=r.X0 < r.X1∧r.Y0 < r.Y1∧-1000000≤r.X0∧r.X0≤1000000∧-1000000≤r.X1∧r.X1≤1000000∧-1000000≤r.Y0∧r.Y0≤1000000∧-1000000≤r.Y1∧r.Y1≤1000000
instance (r : qi) : Decidable (vR r):=by unfold vR;infer_instance
theorem qsk (x : Int) : q3c x = some (decide (-1000000≤x∧x≤1000000)):=by
  unfold q3c;by_cases h : x ≥ -1000000 <;> by_cases a : x≤1000000 <;> simp [h,a] <;> omega
theorem qpd (r : qi) : q72 r = some (decide (vR r)):=by
  unfold q72;simp only [qsk,qrs,qk,vR];by_cases f : r.X0 < r.X1 <;> by_cases b : r.Y0 < r.Y1 <;> by_cases a : -1000000≤r.X0∧r.X0≤1000000 <;> by_cases c : -1000000≤r.X1∧r.X1≤1000000 <;> by_cases g : -1000000≤r.Y0∧r.Y0≤1000000 <;> by_cases d : -1000000≤r.Y1∧r.Y1≤1000000 <;> simp [f,b,a,c,g,d] <;> omega
def covR (x : Int) (r : qi) : Bool:=decide (r.X0≤x) && decide (x < r.X1)
def ysp (r : qi) : qj:={Lo:=r.Y0,Hi:=r.Y1}
def covS (l : List qi) (x : Int) : List qj:=l.flatMap fun r=>if covR x r = true then [ysp r] else []
def hasR (l : List qi) (x y : Int) : Prop:=∃ r∈l,r.X0≤x∧x < r.X1∧r.Y0≤y∧y < r.Y1
theorem qcd {l : List qi} {x : Int} {t : qj} : t∈covS l x↔∃ r∈l,covR x r = true∧t = ysp r:=by
  unfold covS;rw [List.mem_flatMap];constructor
  · rintro ⟨r,a,h⟩;split at h
    · rename_i b;simp only [List.mem_singleton] at h;exact ⟨r,a,b,h⟩
    · cases h
  · rintro ⟨r,a,b,rfl⟩;exact ⟨r,a,by simp [b]⟩
theorem U8 {l : List qi} {x y : Int} : has (covS l x) y↔hasR l x y:=by
  unfold has hasR;constructor
  · rintro ⟨t,h,c,b⟩;obtain ⟨r,a,d,rfl⟩:=qcd.1 h;simp only [covR,Bool.and_eq_true,decide_eq_true_eq] at d;exact ⟨r,a,d.1,d.2,c,b⟩
  · rintro ⟨r,a,c,b,f,g⟩;exact ⟨ysp r,qcd.2 ⟨r,a,by simp [covR,c,b],rfl⟩,f,g⟩
theorem q11 (l : List qi) (x : Int) : (covS l x).length≤l.length:=by
  unfold covS
  induction l with
  | nil=>simp
  | cons r l ih=>
    simp only [List.flatMap_cons,List.length_append,List.length_cons];have : (if covR x r = true then [ysp r] else []).length≤1:=by split <;> simp
    omega
theorem qji {l : List qi} (h : ∀ r∈l,vR r) (x : Int) : ∀ t∈covS l x,vld t:=by
  intro t f;obtain ⟨r,a,_,rfl⟩:=qcd.1 f;obtain ⟨_,c,_,_,_,_,b,_,_,d⟩:=h r a;exact ⟨c,b,d⟩
def xsOf (l : List qi) : List Int:=l.flatMap fun r=>[r.X0,r.X1]
def ysOf (l : List qi) : List Int:=l.flatMap fun r=>[r.Y0,r.Y1]
theorem Ug (l : List qi) : (xsOf l).length = 2 * l.length:=by
  unfold xsOf;induction l with
  | nil=>rfl
  | cons r l ih=>simp only [List.flatMap_cons,List.length_append,List.length_cons,List.length_nil];omega
theorem qbe (l : List qi) : (ysOf l).length = 2 * l.length:=by
  unfold ysOf;induction l with
  | nil=>rfl
  | cons r l ih=>simp only [List.flatMap_cons,List.length_append,List.length_cons,List.length_nil];omega
theorem qjr {l : List qi} {x y : Int} (h : y∈ends (covS l x)) : y∈ysOf l:=by
  obtain ⟨t,b,h⟩:=q9g.1 h;obtain ⟨r,a,_,rfl⟩:=qcd.1 b;unfold ysOf;rw [List.mem_flatMap];exact ⟨r,a,by rcases h with h | h <;> simp [h,ysp]⟩
noncomputable def Qw (l : List Int) : List Int:=(Ub l).getD []
theorem U6 {l : List Int} (a : l.length≤1000000) : Ub l = some (Qw l)∧Z4 l (Qw l)∧(Qw l).length≤l.length:=by
  obtain ⟨t,d,c,b⟩:=qok l a;unfold Qw;rw [d];exact ⟨rfl,c,b⟩
noncomputable def secJ (kind : Int) (p q : List qi) (x : Int) : List qj:=Jj kind (covS p x) (covS q x)
theorem qh6 (kind : Int) {p q : List qi} (h : p.length + q.length≤100000) (x : Int) : (secJ kind p q x).length≤2 * (p.length + q.length):=by
  have b:=q11 p x;have a:=q11 q x;have:=(q64 kind (covS p x) (covS q x) q0 q0).2.len;unfold secJ;omega
noncomputable def mrg (kind : Int) (p q : List qi) : Mg qj qi:=Qz putR Qy (Yt (Qw (xsOf p ++ xsOf q)) (secJ kind p q))
noncomputable def mrgR (kind : Int) (p q : List qi) : List qi:=(mrg kind p q).flat putR
theorem qbv {p q : List qi} (h : p.length + q.length≤490) : Ub (xsOf p ++ xsOf q) = some (Qw (xsOf p ++ xsOf q))∧Z4 (xsOf p ++ xsOf q) (Qw (xsOf p ++ xsOf q))∧(Qw (xsOf p ++ xsOf q)).length≤2 * (p.length + q.length):=by
  have f:=Ug p;have d:=Ug q;obtain ⟨a,b,c⟩:=U6 (l:=xsOf p ++ xsOf q) (by simp;omega);exact ⟨a,b,by simp at c;omega⟩
theorem qf4 {p q : List qi} (h : p.length + q.length≤490) : Ub (ysOf p ++ ysOf q) = some (Qw (ysOf p ++ ysOf q))∧Z4 (ysOf p ++ ysOf q) (Qw (ysOf p ++ ysOf q))∧(Qw (ysOf p ++ ysOf q)).length≤2 * (p.length + q.length):=by
  have f:=qbe p;have d:=qbe q;obtain ⟨a,b,c⟩:=U6 (l:=ysOf p ++ ysOf q) (by simp;omega);exact ⟨a,b,by simp at c;omega⟩
theorem qlx (kind : Int) {p q : List qi} (h : p.length + q.length≤490) (i : Nat) :
    ((Qz putR Qy ((Yt (Qw (xsOf p ++ xsOf q)) (secJ kind p q)).take i)).flat putR).length≤980 * 980:=by
  have f:=qc1 putR (s0:=Qy) (M:=980) (steps:=(Yt (Qw (xsOf p ++ xsOf q)) (secJ kind p q)).take i) (fun t b=>by
    have:=q132 (M:=2 * (p.length + q.length)) (fun x=>qh6 kind q0 x) t (List.mem_of_mem_take b)
    omega)
  have a : ((Yt (Qw (xsOf p ++ xsOf q)) (secJ kind p q)).take i).length≤980:=by
    have:=(qbv h).2.2;rw [List.length_take,q8l];omega
  have c : (Qy.flat putR : List qi).length = 0:=rfl;have d : ((Yt (Qw (xsOf p ++ xsOf q)) (secJ kind p q)).take i).length * 980≤980 * 980:=Nat.mul_le_mul_right _ a;omega
theorem qu4 (l : List qi) (hl : l.length≤400) :
    (((idx [l] 0).bind fun j=>(loop (J9 j) (0,[])).bind fun u=>some u).bind fun f=>(Ud f).bind fun c=>(K1 c.length f.length).bind fun n=>(q1g c).bind fun b=>(K1 b.2.length c.length).bind fun q=>(q1j b.2.length b.1).bind fun p=>some ((b.2.drop b.1.1).take b.1.2)) = some (Qw (xsOf l)):=by
  have y : idx [l] 0 = some l:=rfl
  have e1 : loop (J9 l) (0,[]) = some (xsOf l):=by
    have:=U1 l q0 (fun r=>[r.X0,r.X1]) [] (fun o=>o) (J9 l) (fun k h o v=>by
      have h8 : o.length = 2 * k:=by rw [v,List.nil_append];have:=Ug (l.take k);rw [List.length_take,Nat.min_eq_left q0] at this;exact this
      simp only [J9,dlt h,Q2,Qx h,qk,w64s h q0];rw [Y4 (by simp;omega)]
      rfl) (fun o=>by simp only [J9,dnl,Q3])
    rw [List.nil_append] at this;exact this
  have hx:=Ug l;obtain ⟨ys,t,m,z⟩:=qoi (xsOf l) q0;have g : ys.length = (xsOf l).length:=m.length_eq;obtain ⟨w,a,c1,c2,c3,c4⟩:=qj9 z q0;obtain ⟨_,s,_⟩:=U6 (l:=xsOf l) q0
  have d : a.take w = Qw (xsOf l):=by
    refine qoj (l:=xsOf l) ⟨c4.1,fun x=>?_⟩ s;rw [c4.2 x];exact m.mem_iff
  simp only [y,qk,e1,t,K1,g,if_true,c1,c2,q1j];rw [qr q0];simp only [qk,List.drop_zero,d]
theorem qg0 (l : List qi) (f : l.length≤400) (x : Int) : loop (Uu l x) (0,[]) = some (covS l x):=by
  have:=U1 l q0 (fun r=>if covR x r = true then [ysp r] else []) [] (fun o=>o) (Uu l x) (fun k a o d=>by
    have g : o.length≤k:=by rw [d,List.nil_append];have:=q11 (l.take k) x;rw [List.length_take,Nat.min_eq_left q0] at this;exact this
    simp only [Uu,dlt a,Q2,Qx a,qk,w64s a q0];by_cases b : l[k].X0≤x
    · by_cases c : x < l[k].X1
      · simp only [b,c,decide_true,Q2,qk,covR,Bool.and_self,if_true];rw [Y4 (by simp;omega)];rfl
      · simp only [b,c,decide_true,decide_false,Q2,Q3,qk,covR,Bool.and_false,if_false,Bool.false_eq_true,List.append_nil]
    · simp only [b,decide_false,Q3,qk,covR,Bool.false_and,if_false,Bool.false_eq_true,List.append_nil]) (fun o=>by simp only [Uu,dnl,Q3])
  rw [List.nil_append] at this;exact this
theorem qlg (l : List qi) (s : l.length≤400) (z : ∀ r∈l,vR r) : q71 l = some (if 400 < (mrgR 2 l []).length then ([],4) else (mrgR 2 l [],0)):=by
  unfold q71;rw [qu4 l s];simp only [qk];have c : Qw (xsOf l ++ xsOf []) = Qw (xsOf l):=by simp [xsOf]
  obtain ⟨_,o,a⟩:=qbv (p:=l) (q:=[]) (by simp;omega);have g:=fun i=>qlx 2 (p:=l) (q:=[]) (by simp;omega) i;rw [c] at o a;have a : (Qw (xsOf l)).length≤2 * l.length:=by simpa using a
  have d : loop (q3d (Qw (xsOf l)) l) (1,[],0,0,[]) = some ((mrg 2 l []).sec,((mrg 2 l []).done.length : Int),(mrg 2 l []).hi,mrgR 2 l []):=by
    unfold mrgR mrg;rw [c] at g ⊢;generalize h : Yt (Qw (xsOf l)) (secJ 2 l []) = steps at g ⊢;have x : steps.length = (Qw (xsOf l)).length - 1:=by rw [← h];exact q8l _ _
    have j : Qz putR Qy (steps.take steps.length) = Qz putR Qy steps:=by rw [List.take_length]
    have key:=Zv (f:=q3d (Qw (xsOf l)) l) (fun k=>(((k + 1 : Nat) : Int),(Qz putR Qy (steps.take k)).sec,((Qz putR Qy (steps.take k)).done.length : Int),(Qz putR Qy (steps.take k)).hi,(Qz putR Qy (steps.take k)).flat putR))
      steps.length ((Qz putR Qy steps).sec,((Qz putR Qy steps).done.length : Int),(Qz putR Qy steps).hi,(Qz putR Qy steps).flat putR) (fun k v=>by
        have b : k + 1 < (Qw (xsOf l)).length:=by omega
        have hg : steps[k] = ((Qw (xsOf l))[k],(Qw (xsOf l))[k + 1],secJ 2 l [] (Qw (xsOf l))[k]):=by
          subst h;exact q8k v b
        have y : idx (Qw (xsOf l)) (w64 (((k + 1 : Nat) : Int) - 1)) = some (Qw (xsOf l))[k]:=by rw [Qb q0];exact Jh q0 q0
        have w:=q11 l (Qw (xsOf l))[k]
        have m : q8g (covS l (Qw (xsOf l))[k]) = some (secJ 2 l [] (Qw (xsOf l))[k],0):=by
          rw [qu5];unfold qg1;rw [qq q0,qr (qji z _)];rfl
        have n:=qh6 2 (p:=l) (q:=[]) (by simp;omega) (Qw (xsOf l))[k];have u:=g k;have hb:=qij (Qz putR Qy (steps.take k)) (Qw (xsOf l))[k] (Qw (xsOf l))[k + 1] (secJ 2 l [] (Qw (xsOf l))[k]) (by simp at n;omega);rw [q3y putR v,hg];simp only [q3d,dlt b,Q2,y,Qx b,qk,show idx [l] 0 = some l from rfl,qg0 l s,m,hb,Bool.not_true,Q3]
        rw [w64s b q0]) (by
        rw [j];by_cases h0 : (Qw (xsOf l)).length = 0
        · have : decide (((steps.length + 1 : Nat) : Int) < ((Qw (xsOf l)).length : Int)) = false:=Qj q0;simp only [q3d,this,Q3]
        · have : decide (((steps.length + 1 : Nat) : Int) < ((Qw (xsOf l)).length : Int)) = false:=Qj q0
          simp only [q3d,this,Q3]) (Nat.zero_le _)
    exact key
  rw [d];simp only [qk];by_cases t : 400 < (mrgR 2 l []).length
  · rw [Qf (by omega : ((mrgR 2 l []).length : Int) > 400),qr t];rfl
  · rw [Qj (by omega : ¬ ((mrgR 2 l []).length : Int) > 400),qq t];rfl
end Go.Sh
namespace Go.Sh
open Go Go.Am
theorem qwn {p q : List qi} (h : p.length + q.length≤490) : q9q p q = some (Qw (xsOf p ++ xsOf q)):=by
  have d : loop (q4c p) (0,[]) = some (xsOf p):=by
    have:=U1 p q0 (fun r=>[r.X0,r.X1]) [] (fun o=>o) (q4c p) (fun k a o b=>by
      have f : o.length = 2 * k:=by rw [b,List.nil_append];have:=Ug (p.take k);rw [List.length_take,Nat.min_eq_left q0] at this;exact this
      simp only [q4c,dlt a,Q2,Qx a,qk,w64s a q0];rw [Y4 (by simp;omega)]
      rfl) (fun o=>by simp only [q4c,dnl,Q3])
    rw [List.nil_append] at this;exact this
  have c : loop (q4d q) (0,xsOf p) = some (xsOf p ++ xsOf q):=by
    have hp:=Ug p
    exact U1 q q0 (fun r=>[r.X0,r.X1]) (xsOf p) (fun o=>o) (q4d q) (fun k a o b=>by
      have f : o.length = 2 * p.length + 2 * k:=by
        rw [b,List.length_append,hp];have:=Ug (q.take k);rw [List.length_take,Nat.min_eq_left q0] at this;unfold xsOf at this;omega
      simp only [q4d,dlt a,Q2,Qx a,qk,w64s a q0];rw [Y4 (by simp;omega)]
      rfl) (fun o=>by simp only [q4d,dnl,Q3])
  unfold q9q;simp only [d,c,qk,(qbv h).1]
theorem qwp {p q : List qi} (h : p.length + q.length≤490) : q9r p q = some (Qw (ysOf p ++ ysOf q)):=by
  have d : loop (q4e p) (0,[]) = some (ysOf p):=by
    have:=U1 p q0 (fun r=>[r.Y0,r.Y1]) [] (fun o=>o) (q4e p) (fun k a o b=>by
      have f : o.length = 2 * k:=by rw [b,List.nil_append];have:=qbe (p.take k);rw [List.length_take,Nat.min_eq_left q0] at this;exact this
      simp only [q4e,dlt a,Q2,Qx a,qk,w64s a q0];rw [Y4 (by simp;omega)]
      rfl) (fun o=>by simp only [q4e,dnl,Q3])
    rw [List.nil_append] at this;exact this
  have c : loop (q4f q) (0,ysOf p) = some (ysOf p ++ ysOf q):=by
    have hp:=qbe p
    exact U1 q q0 (fun r=>[r.Y0,r.Y1]) (ysOf p) (fun o=>o) (q4f q) (fun k a o b=>by
      have f : o.length = 2 * p.length + 2 * k:=by
        rw [b,List.length_append,hp];have:=qbe (q.take k);rw [List.length_take,Nat.min_eq_left q0] at this;unfold ysOf at this;omega
      simp only [q4f,dlt a,Q2,Qx a,qk,w64s a q0];rw [Y4 (by simp;omega)]
      rfl) (fun o=>by simp only [q4f,dnl,Q3])
  unfold q9r;simp only [d,c,qk,(qf4 h).1]
open Classical in
theorem qmr (l : List qi) (x y : Int) (m : l.length≤1000000) : q6l l x y = some (decide (hasR l x y)):=by
  let c : qi→Bool:=fun r=>decide (r.X0≤x) && (decide (x < r.X1) && (decide (r.Y0≤y) && decide (y < r.Y1)))
  have hs : ∀ (k : Nat) (h : k < l.length),q38 l x y (k : Int) = some (if c l[k] = true then .inr (.inr true) else .inl ((k + 1 : Nat) : Int)):=by
    intro k h;simp only [q38,dlt h,Q2,Qx h,qk,w64s h m,c];by_cases d : l[k].X0≤x <;> by_cases a : x < l[k].X1 <;> by_cases j : l[k].Y0≤y <;> by_cases p : y < l[k].Y1 <;> simp [d,a,j,p]
  have hd : q38 l x y (l.length : Int) = some (.inr (.inl ())):=by simp only [q38,dnl,Q3]
  unfold q6l;rcases q2u l c (fun _ _=>true) () (q38 l x y) hs hd with ⟨d,a⟩ | ⟨k,q,b,_,a⟩
  · rw [a]
    have : ¬ hasR l x y:=by
      rintro ⟨r,f,g,o,s,n⟩;have:=d r f;simp [c,g,o,s,n] at this
    simp [this]
  · rw [a]
    have : hasR l x y:=by
      simp only [c,Bool.and_eq_true,decide_eq_true_eq] at b;exact ⟨l[k],Ki q,b.1,b.2.1,b.2.2.1,b.2.2.2⟩
    simp [this]
theorem qfq {kind : Int} {a b : Prop} (h : Ks kind a b) : a∨b:=by
  rcases h with ⟨_,h,_⟩ | ⟨_,h⟩ | ⟨_,_,h,_⟩
  · exact .inl h
  · exact h
  · exact .inl h
theorem qkv {kind : Int} {a b a' c : Prop} (f : a↔a') (d : b↔c) : Ks kind a b↔Ks kind a' c:=by
  unfold Ks;rw [f,d]
open Classical in
theorem qqk (kind : Int) {p q : List qi} (h : p.length + q.length≤490) (x : Int) :
    q46 (Qw (ysOf p ++ ysOf q)) ((Qw (ysOf p ++ ysOf q)).map fun y=>decide (Ks kind (hasR p x y) (hasR q x y))) = some (secJ kind p q x):=by
  obtain ⟨_,a,g⟩:=qf4 h;generalize Qw (ysOf p ++ ysOf q) = ys at a g ⊢;obtain ⟨c,o,k⟩:=qin ys (ys.map fun y=>decide (Ks kind (hasR p x y) (hasR q x y))) a.1 q0 qd;rw [o];have s:=q11 p x;have r:=q11 q x;have m:=(q64 kind (covS p x) (covS q x) q0 q0).2;have mp : ∀ z∈ends (covS p x),z∈ys:=fun z j=>(a.2 z).2 (List.mem_append.2 (.inl (qjr j)));have mq : ∀ z∈ends (covS q x),z∈ys:=fun z j=>(a.2 z).2 (List.mem_append.2 (.inr (qjr j)));congr 1;refine q5m k.can m.can fun z=>?_;unfold secJ;rw [k.pts z,m.pts z];constructor
  · rintro ⟨i,hi,n,_,f,b,d⟩;simp only [List.getElem_map,decide_eq_true_eq] at f;refine (qkv ?_ ?_).2 f
    · rw [q3f a.1 mp hi b d,U8]
    · rw [q3f a.1 mq hi b d,U8]
  · intro l
    have : ∃ i,∃ (h : i + 1 < ys.length),ys[i]≤z∧z < ys[i + 1]:=by
      rcases qfq l with h | h
      · exact qc8 a.1 mp h
      · exact qc8 a.1 mq h
    obtain ⟨i,hi,b,d⟩:=this;refine ⟨i,hi,by simp;omega,q0,?_,b,d⟩;simp only [List.getElem_map,decide_eq_true_eq];refine (qkv ?_ ?_).1 l
    · rw [q3f a.1 mp hi b d,U8]
    · rw [q3f a.1 mq hi b d,U8]
open Classical in
theorem qtq (kind : Int) {p q : List qi} (h : p.length + q.length≤490) (ys xs : List Int) (c : ys.length≤1000000) (i : Nat) (hi : i < xs.length) (a : List qj × Int × Int × List qi) (d : a.2.2.1 = i) :
    loop (q4a ys xs a p q kind) (0,[]) = some (ys.map fun y=>decide (Ks kind (hasR p xs[i] y) (hasR q xs[i] y))):=by
  have:=q9e ys (fun y=>decide (Ks kind (hasR p xs[i] y) (hasR q xs[i] y))) [] (fun o=>o) (q4a ys xs a p q kind) (fun k b o f=>by
    simp only [q4a,dlt b,Q2,d,Qx b,Qx hi,qk,qmr p _ _ q0,qmr q _ _ q0,qkw,w64s b c];rw [Y4 (by simp at f ⊢;omega)]
    rfl) (fun o=>by simp only [q4a,dnl,Q3])
  rw [List.nil_append] at this;exact this
theorem qtr (kind : Int) {p q : List qi} (h : p.length + q.length≤490) {xs : List Int} (hx : xs.length≤1000000) {i : Nat} (hi : i + 1 < xs.length) (s : Mg qj qi) (hl : (s.flat putR).length + (secJ kind p q xs[i]).length≤1000000)
    (h0 : i = 0→s.sec = []) (h1 : 0 < i→s.hi = xs[i]) :
    q39 xs (Qw (ysOf p ++ ysOf q)) p q kind (s.sec,(s.done.length : Int),(i : Int),s.flat putR) =
      some (.inl ((addM putR s xs[i] xs[i + 1] (secJ kind p q xs[i])).sec,((addM putR s xs[i] xs[i + 1] (secJ kind p q xs[i])).done.length : Int),((i + 1 : Nat) : Int),(addM putR s xs[i] xs[i + 1] (secJ kind p q xs[i])).flat putR)):=by
  have f : i < xs.length:=by omega
  have y : w64 ((i : Int) + 1) = ((i + 1 : Nat) : Int):=w64s f hx;have hy:=(qf4 h).2.2;have aa : (s.flat putR).length = s.done.length + s.sec.length:=by simp [Mg.flat]
  have n:=qtq kind h (Qw (ysOf p ++ ysOf q)) xs q0 i f (s.sec,(s.done.length : Int),(i : Int),s.flat putR) rfl;unfold q39;simp only [y,dlt hi,Q2,n,qk,qqk kind h];generalize hc : secJ kind p q xs[i] = c at hl ⊢;by_cases a : 0 < i∧c = s.sec
  · obtain ⟨d,j⟩:=a;have hb : decide ((i : Int) > 0) = true:=Qf q0
    have b:=qc0 (fun v : qi=>({X0:=v.X0,Y0:=v.Y0,X1:=xs[i + 1],Y1:=v.Y1} : qi)) s.done (s.sec.map (putR s.lo s.hi)) (by simp;omega) (q4b xs (s.sec,(s.done.length : Int),(i : Int),s.flat putR)) (fun k o l ho=>by
      have h5 : (s.done ++ s.sec.map (putR s.lo s.hi)).length = (s.flat putR).length:=rfl
      simp only [q4b,dlt l,Q2,Qx l,Qx hi,y,qk,w64s l q0,Int.toNat_natCast]) (fun o=>by simp only [q4b,dnl,Q3])
    have x : q6k c s.sec = some true:=by rw [qne _ _ q0];simp [j]
    have b : loop (q4b xs (s.sec,(s.done.length : Int),(i : Int),s.flat putR)) ((s.done.length : Int),s.flat putR) = _:=b;simp only [hb,Q2,x,qk,b];rcases q1m putR s xs[i] xs[i + 1] c with ⟨_,_,_,g⟩ | ⟨h3,g⟩
    · rw [g];simp only [Mg.flat,List.map_map];rfl
    · have m : c = []:=Classical.byContradiction fun hn=>h3 ⟨hn,j,h1 d⟩;rw [g];simp [Mg.flat,← j,m]
  · have r : (cond (decide ((i : Int) > 0)) ((q6k c s.sec).bind fun t=>some t) (some false)) = some false:=by
      by_cases d : 0 < i
      · have hb : decide ((i : Int) > 0) = true:=Qf q0;have u : c≠s.sec:=fun h=>a ⟨d,h⟩;rw [hb,Q2,qne _ _ q0];simp [u]
      · have hb : decide ((i : Int) > 0) = false:=Qj q0;rw [hb,Q3]
    have w:=q9e c (putR xs[i] xs[i + 1]) (s.flat putR) (fun o=>(c,((s.flat putR).length : Int),o)) (q6m c xs (s.sec,(s.done.length : Int),(i : Int),s.flat putR)) (fun k l o ho=>by
      simp only [q6m,dlt l,Q2,Qx l,Qx f,Qx hi,y,qk,w64s l q0];rw [Y4 (by simp;omega)]
      rfl) (fun o=>by simp only [q6m,dnl,Q3])
    have g : addM putR s xs[i] xs[i + 1] c = ⟨s.flat putR,c,xs[i],xs[i + 1]⟩:=by
      rcases q1m putR s xs[i] xs[i + 1] c with ⟨g1,z,_,_⟩ | ⟨_,g⟩
      · refine absurd ?_ a;refine ⟨Nat.pos_of_ne_zero fun h=>g1 ?_,z⟩;rw [z,h0 h]
      · exact g
    rw [g];simp only [r,qk,Q3,w];simp [Mg.flat]
theorem q6n (kind : Int) {p q : List qi} (h : p.length + q.length≤490) : Jq kind p q = some (mrgR kind p q):=by
  unfold Jq;rw [qwn h,qwp h];simp only [qk];obtain ⟨_,g,c⟩:=qbv h;have b:=fun i=>qlx kind h i;unfold mrgR mrg;generalize Qw (xsOf p ++ xsOf q) = xs at g c b ⊢;generalize a : Yt xs (secJ kind p q) = steps at b ⊢;have r : steps.length = xs.length - 1:=by rw [← a];exact q8l _ _
  have key:=Zv (f:=q39 xs (Qw (ysOf p ++ ysOf q)) p q kind) (fun k=>((Qz putR Qy (steps.take k)).sec,((Qz putR Qy (steps.take k)).done.length : Int),(k : Int),(Qz putR Qy (steps.take k)).flat putR))
    steps.length ((Qz putR Qy steps).flat putR) (fun k n=>by
      have d : k + 1 < xs.length:=by omega
      have t : steps[k] = (xs[k],xs[k + 1],secJ kind p q xs[k]):=by subst a;exact q8k n d
      have s:=qh6 kind (p:=p) (q:=q) q0 xs[k];have j:=b k
      have:=qtr kind h (xs:=xs) q0 d (Qz putR Qy (steps.take k)) q0 (fun o=>by subst o;rfl) (fun l=>by
        obtain ⟨m,rfl⟩ : ∃ m,k = m + 1:=⟨k - 1,q0⟩
        rw [q3y putR q0,qhz];subst a
        rw [q8k q0 q0])
      rw [this,q3y putR n,t]) (by
      rw [List.take_length]
      have hb : decide (w64 ((steps.length : Int) + 1) < (xs.length : Int)) = false:=by
        rw [Qb q0];exact Qj q0
      unfold q39
      simp only [hb,Q3]) (Nat.zero_le _)
  have key : loop (q39 xs (Qw (ysOf p ++ ysOf q)) p q kind) ([],0,0,[]) = some ((Qz putR Qy steps).flat putR):=key;rw [key];rfl
end Go.Sh
namespace Go.Sh
open Go Go.Am
noncomputable def Yj (l : List qi) : Int:=if 400 < l.length then 4 else if ∀ r∈l,vR r then (if mrgR 2 l [] = l then 0 else 8) else 8
theorem qra {l : List qi} (h : Yj l = 0) : l.length≤400∧(∀ r∈l,vR r)∧mrgR 2 l [] = l:=by
  unfold Yj at h;split at h
  · omega
  · split at h
    · split at h
      · rename_i a b c;exact ⟨q0,b,c⟩
      · omega
    · omega
theorem qxe (l : List qi) (m : l.length≤1000000) : qa4 l (fun a=>q3a a) = some (decide (¬ ∀ r∈l,vR r)):=by
  have hs : ∀ (k : Nat) (h : k < l.length),q4q l (fun a=>q3a a) (k : Int) = some (if (fun r=>!decide (vR r)) l[k] = true then .inr (.inr (k : Int)) else .inl ((k + 1 : Nat) : Int)):=by
    intro k h;simp only [q4q,dlt h,Q2,Qx h,qk,w64s h m,q3a,qpd];by_cases g : vR l[k] <;> simp [g]
  have hd : q4q l (fun a=>q3a a) (l.length : Int) = some (.inr (.inl ())):=by simp only [q4q,dnl,Q3]
  unfold qa4 qdc;rcases q2u l (fun r=>!decide (vR r)) (fun k _=>(k : Int)) () _ hs hd with ⟨f,b⟩ | ⟨k,d,j,_,b⟩
  · rw [b];have : ∀ r∈l,vR r:=fun r c=>by simpa using f r c
    simp [];omega
  · rw [b];have : ¬ ∀ r∈l,vR r:=fun h=>by simp [h _ (Ki d)] at j
    simp only [qk];rw [Qf this,Qf q0]
theorem qx6 (l : List qi) : q6u l = some (Yj l):=by
  unfold q6u Yj;by_cases d : 400 < l.length
  · rw [Qf (by omega : (l.length : Int) > 400),Q2,qr d]
  rw [Qj (by omega : ¬ (l.length : Int) > 400),Q3,qq d,qxe l q0,qk];by_cases a : ∀ r∈l,vR r
  · rw [Qj (fun h=>h a),Q3,qlg l q0 a,qr a,qk];by_cases b : 400 < (mrgR 2 l []).length
    · have c : mrgR 2 l []≠l:=fun h=>by rw [h] at b;exact d b
      rw [qr b,qq c];rfl
    · rw [qq b];simp only [qf7 (mrgR 2 l []) l q0];by_cases f : mrgR 2 l [] = l <;> simp [f]
  · rw [Qf a,Q2,qq a]
def putB (a b : Int) (r : qi) : qe:={Lo:={X:=r.X0,Y:=r.Y0,Z:=a},Hi:={X:=r.X1,Y:=r.Y1,Z:=b}}
def qk3 (z : Int) : Prop:=-1000000≤z∧z≤1000000
instance (z : Int) : Decidable (qk3 z):=by unfold qk3;infer_instance
end Go.Sh
namespace Go.Sh
open Go Go.Am
def covB (z : Int) (b : qe) : Bool:=decide (b.Lo.Z≤z) && decide (z < b.Hi.Z)
def Jr (b : qe) : qi:={X0:=b.Lo.X,Y0:=b.Lo.Y,X1:=b.Hi.X,Y1:=b.Hi.Y}
def atB (l : List qe) (z : Int) : List qi:=l.flatMap fun b=>if covB z b = true then [Jr b] else []
theorem Uh (l : List qe) (x : Int) : (atB l x).length≤l.length:=by
  unfold atB
  induction l with
  | nil=>simp
  | cons r l ih=>
    simp only [List.flatMap_cons,List.length_append,List.length_cons];have : (if covB x r = true then [Jr r] else []).length≤1:=by split <;> simp
    omega
theorem qcu (l : List qe) (d : l.length≤1000000) (z : Int) : Uc l z = some (atB l z):=by
  have:=U1 l d (fun b=>if covB z b = true then [Jr b] else []) [] (fun o=>o) (q6q l z) (fun k a o g=>by
    have h : o.length≤k:=by rw [g,List.nil_append];have:=Uh (l.take k) z;rw [List.length_take,Nat.min_eq_left q0] at this;exact this
    simp only [q6q,dlt a,Q2,Qx a,qk,w64s a d];by_cases c : l[k].Lo.Z≤z
    · by_cases f : z < l[k].Hi.Z
      · simp only [c,f,decide_true,Q2,qk,covB,Bool.and_self,if_true];rw [Y4 (by simp;omega)];rfl
      · simp only [c,f,decide_true,decide_false,Q2,Q3,qk,covB,Bool.and_false,if_false,Bool.false_eq_true,List.append_nil]
    · simp only [c,decide_false,Q3,qk,covB,Bool.false_and,if_false,Bool.false_eq_true,List.append_nil]) (fun o=>by simp only [q6q,dnl,Q3])
  rw [List.nil_append] at this;unfold Uc;rw [this];rfl
def zsOf (l : List qe) : List Int:=l.flatMap fun b=>[b.Lo.Z,b.Hi.Z]
theorem J0 (l : List qe) : (zsOf l).length = 2 * l.length:=by
  unfold zsOf;induction l with
  | nil=>rfl
  | cons r l ih=>simp only [List.flatMap_cons,List.length_append,List.length_cons,List.length_nil];omega
theorem qwv {p q : List qe} (h : p.length + q.length≤100000) : q9t p q = some (Qw (zsOf p ++ zsOf q)):=by
  have d : loop (q4h p) (0,[]) = some (zsOf p):=by
    have:=U1 p q0 (fun r=>[r.Lo.Z,r.Hi.Z]) [] (fun o=>o) (q4h p) (fun k a o b=>by
      have f : o.length = 2 * k:=by rw [b,List.nil_append];have:=J0 (p.take k);rw [List.length_take,Nat.min_eq_left q0] at this;exact this
      simp only [q4h,dlt a,Q2,Qx a,qk,w64s a q0];rw [Y4 (by simp;omega)]
      rfl) (fun o=>by simp only [q4h,dnl,Q3])
    rw [List.nil_append] at this;exact this
  have c : loop (q4i q) (0,zsOf p) = some (zsOf p ++ zsOf q):=by
    have hp:=J0 p
    exact U1 q q0 (fun r=>[r.Lo.Z,r.Hi.Z]) (zsOf p) (fun o=>o) (q4i q) (fun k a o b=>by
      have f : o.length = 2 * p.length + 2 * k:=by
        rw [b,List.length_append,hp];have:=J0 (q.take k);rw [List.length_take,Nat.min_eq_left q0] at this;unfold zsOf at this;omega
      simp only [q4i,dlt a,Q2,Qx a,qk,w64s a q0];rw [Y4 (by simp;omega)]
      rfl) (fun o=>by simp only [q4i,dnl,Q3])
  have j:=J0 p;have g:=J0 q;unfold q9t;simp only [d,c,qk,(U6 (l:=zsOf p ++ zsOf q) (by simp;omega)).1]
structure qhy (kind : Int) (p q : List qe) (z : Int) : Prop where
  n : (atB p z).length + (atB q z).length≤490
  m : (mrgR kind (atB p z) (atB q z)).length≤400
  mp : (mrgR 2 (atB p z) []).length≤400
  mq : (mrgR 2 (atB q z) []).length≤400
noncomputable def secB (kind : Int) (p q : List qe) (z : Int) : List qi:=mrgR kind (atB p z) (atB q z)
theorem qtp (kind : Int) {p q : List qe} (h : p.length + q.length≤100000) {xs : List Int} (hx : xs.length≤1000000) {i : Nat} (hi : i + 1 < xs.length) (t : qhy kind p q xs[i]) (s : Mg qi qe) (hl : (s.flat putB).length + 400≤1000000)
    (h0 : i = 0→s.sec = []) (h1 : 0 < i→s.hi = xs[i]) :
    q27 xs p q kind (s.sec,(s.done.length : Int),(i : Int),s.flat putB) =
      some (.inl ((addM putB s xs[i] xs[i + 1] (secB kind p q xs[i])).sec,((addM putB s xs[i] xs[i + 1] (secB kind p q xs[i])).done.length : Int),((i + 1 : Nat) : Int),(addM putB s xs[i] xs[i + 1] (secB kind p q xs[i])).flat putB)):=by
  have f : i < xs.length:=by omega
  have hw : w64 ((i : Int) + 1) = ((i + 1 : Nat) : Int):=w64s f hx;have ah : (s.flat putB).length = s.done.length + s.sec.length:=by simp [Mg.flat]
  obtain ⟨y,z,aj,ac⟩:=t;have ap : Uc p xs[i] = some (atB p xs[i]):=qcu p q0 _;have aq : Uc q xs[i] = some (atB q xs[i]):=qcu q q0 _;have jj : Jq kind (atB p xs[i]) (atB q xs[i]) = some (secB kind p q xs[i]):=q6n kind y;have jp : Jq 2 (atB p xs[i]) [] = some (mrgR 2 (atB p xs[i]) []):=q6n 2 (by simp;omega);have jq : Jq 2 (atB q xs[i]) [] = some (mrgR 2 (atB q xs[i]) []):=q6n 2 (by simp;omega);have z : (secB kind p q xs[i]).length≤400:=z;have d1 : decide (((secB kind p q xs[i]).length : Int) > 400) = false:=Qj q0;have d2 : decide (((mrgR 2 (atB p xs[i]) []).length : Int) > 400) = false:=Qj q0;have d3 : decide (((mrgR 2 (atB q xs[i]) []).length : Int) > 400) = false:=Qj q0;unfold q27;simp only [hw,dlt hi,Q2,Qx f,ap,aq,jj,jp,jq,d1,d2,d3,Q3,qk];generalize hc : secB kind p q xs[i] = c at z ⊢;by_cases a : 0 < i∧c = s.sec
  · obtain ⟨d,j⟩:=a;have hb : decide ((i : Int) > 0) = true:=Qf q0
    have b:=qc0 (fun v : qe=>({Lo:=v.Lo,Hi:=({X:=v.Hi.X,Y:=v.Hi.Y,Z:=xs[i + 1]} : Q6)} : qe)) s.done (s.sec.map (putB s.lo s.hi)) (by simp;omega) (q4k xs (s.sec,(s.done.length : Int),(i : Int),s.flat putB)) (fun k o l ho=>by
      have h5 : (s.done ++ s.sec.map (putB s.lo s.hi)).length = (s.flat putB).length:=rfl
      simp only [q4k,dlt l,Q2,Qx l,Qx hi,hw,qk,w64s l q0,Int.toNat_natCast]) (fun o=>by simp only [q4k,dnl,Q3])
    have w : q6o c s.sec = some true:=by rw [qnd _ _ q0];simp [j]
    have b : loop (q4k xs (s.sec,(s.done.length : Int),(i : Int),s.flat putB)) ((s.done.length : Int),s.flat putB) = _:=b;simp only [hb,Q2,w,qk,b];rcases q1m putB s xs[i] xs[i + 1] c with ⟨_,_,_,g⟩ | ⟨h3,g⟩
    · rw [g];simp only [Mg.flat,List.map_map];rfl
    · have m : c = []:=Classical.byContradiction fun y=>h3 ⟨y,j,h1 d⟩;rw [g];simp [Mg.flat,← j,m]
  · have n : (cond (decide ((i : Int) > 0)) ((q6o c s.sec).bind fun r=>some r) (some false)) = some false:=by
      by_cases d : 0 < i
      · have hb : decide ((i : Int) > 0) = true:=Qf q0;have x : c≠s.sec:=fun h=>a ⟨d,h⟩;rw [hb,Q2,qnd _ _ q0];simp [x]
      · have hb : decide ((i : Int) > 0) = false:=Qj q0;rw [hb,Q3]
    have u:=q9e c (putB xs[i] xs[i + 1]) (s.flat putB) (fun o=>(c,((s.flat putB).length : Int),o)) (q6s c xs (s.sec,(s.done.length : Int),(i : Int),s.flat putB)) (fun k l o ho=>by
      simp only [q6s,dlt l,Q2,Qx l,Qx f,Qx hi,hw,qk,w64s l q0];rw [Y4 (by simp;omega)]
      rfl) (fun o=>by simp only [q6s,dnl,Q3])
    have g : addM putB s xs[i] xs[i + 1] c = ⟨s.flat putB,c,xs[i],xs[i + 1]⟩:=by
      rcases q1m putB s xs[i] xs[i + 1] c with ⟨g1,g2,_,_⟩ | ⟨_,g⟩
      · refine absurd ?_ a;refine ⟨Nat.pos_of_ne_zero fun h=>g1 ?_,g2⟩;rw [g2,h0 h]
      · exact g
    rw [g];simp only [n,qk,Q3,u];simp [Mg.flat]
noncomputable def mrgB (kind : Int) (p q : List qe) : List qe:=(Qz putB Qy (Yt (Qw (zsOf p ++ zsOf q)) (secB kind p q))).flat putB
section
variable {σ β : Type} (put : Int→Int→σ→β)
def Alike (s t : Mg σ β) : Prop:=s = t∨(s.flat put = t.flat put∧s.sec = []∧t.sec = [])
theorem Alike.flat {s t : Mg σ β} (h : Alike put s t) : s.flat put = t.flat put:=by
  rcases h with rfl | h
  · rfl
  · exact h.1
end
section
variable {σ β : Type} [DecidableEq σ] (put : Int→Int→σ→β)
def runM (sec : Int→List σ) : Mg σ β→List Int→Mg σ β
  | s,a::b::r=>runM sec (addM put s a b (sec a)) (b::r)
  | s,_=>s
theorem qk7 (sec : Int→List σ) : ∀ (c : List Int) (s : Mg σ β),Qz put s (Yt c sec) = runM put sec s c
  | [],s=>rfl
  | [a],s=>rfl
  | a::b::r,s=>by
    have:=qk7 sec (b::r) (addM put s a b (sec a))
    simp only [runM,← this]
    rfl
theorem Alike.add {s t : Mg σ β} (h : Alike put s t) (a b : Int) (c : List σ) : Alike put (addM put s a b c) (addM put t a b c):=by
  rcases h with rfl | ⟨k,g,d⟩
  · exact .inl rfl
  · refine .inl ?_;rcases q1m put s a b c with ⟨m,o,_,_⟩ | ⟨_,j⟩
    · exact absurd (o.trans g) m
    · rcases q1m put t a b c with ⟨n,l,_,_⟩ | ⟨_,f⟩
      · exact absurd (l.trans d) n
      · rw [j,f,k]
end
end Go.Sh
namespace Go.Sh
open Go Go.Am
structure Grp (σ : Type) where
  lo : Int
  hi : Int
  sec : List σ
section
variable {σ β : Type}
def CanG (gs : List (Grp σ)) : Prop:=(∀ g∈gs,g.lo < g.hi∧g.sec≠[])∧gs.Pairwise (fun g h=>g.hi≤h.lo∧(g.hi = h.lo→g.sec≠h.sec))
def secG : List (Grp σ)→Int→List σ
  | [],_=>[]
  | g::r,x=>if g.lo≤x∧x < g.hi then g.sec else secG r x
def K5 (put : Int→Int→σ→β) (gs : List (Grp σ)) : List β:=gs.flatMap fun g=>g.sec.map (put g.lo g.hi)
theorem qsm (put : Int→Int→σ→β) (a b : List (Grp σ)) : K5 put (a ++ b) = K5 put a ++ K5 put b:=by simp [K5]
theorem Uv {y x : Int} : ∀ {r : List (Grp σ)},(∀ h∈r,y≤h.lo)→x < y→secG r x = []
  | [],_,_=>rfl
  | g::r,h,hx=>by
    have:=h g qd
    rw [secG,qq q0]
    exact Uv (fun k a=>h k (by simp [a])) hx
theorem q75 {y x : Int} : ∀ {r : List (Grp σ)},(∀ h∈r,h.hi≤y)→y≤x→secG r x = []
  | [],_,_=>rfl
  | g::r,h,hx=>by
    have:=h g qd
    rw [secG,qq q0]
    exact q75 (fun k a=>h k (by simp [a])) hx
theorem q9z {x : Int} : ∀ {a b : List (Grp σ)},secG a x = []→(∀ g∈a,g.sec≠[])→secG (a ++ b) x = secG b x
  | [],_,_,_=>rfl
  | g::a,b,h,hne=>by
    rw [secG] at h
    split at h
    · exact absurd h (hne g qd)
    · rename_i d
      rw [List.cons_append,secG,qq d]
      exact q9z h fun k c=>hne k (by simp [c])
theorem qh3 {y x : Int} {a b : List (Grp σ)} (hb : ∀ h∈b,y≤h.lo) (c : x < y) : secG (a ++ b) x = secG a x:=by
  induction a with
  | nil=>exact Uv hb c
  | cons g a ih=>simp only [List.cons_append,secG,ih]
theorem CanG.tail {g : Grp σ} {r : List (Grp σ)} (h : CanG (g::r)) : CanG r:=⟨fun k a=>h.1 k (by simp [a]),(List.pairwise_cons.1 h.2).2⟩
theorem CanG.nxt {g : Grp σ} {r : List (Grp σ)} (h : CanG (g::r)) : ∀ k∈r,g.hi≤k.lo∧(g.hi = k.lo→g.sec≠k.sec):=(List.pairwise_cons.1 h.2).1
theorem q3e {g : Grp σ} {r : List (Grp σ)} {x : Int} (b : g.lo≤x) (a : x < g.hi) : secG (g::r) x = g.sec:=by rw [secG,qr ⟨b,a⟩]
theorem qz4 {g : Grp σ} {r : List (Grp σ)} (h : CanG (g::r)) : secG (g::r) g.hi≠g.sec:=by
  rw [secG,qq q0]
  cases r with
  | nil=>exact fun e=>(h.1 g qd).2 e.symm
  | cons k r=>
    have c:=h.nxt k qd;have b:=h.tail.1 k qd;by_cases d : g.hi = k.lo
    · rw [q3e q0 q0];exact fun e=>c.2 d e.symm
    · rw [secG,qq q0,Uv (y:=k.hi) (fun m a=>(h.tail.nxt m a).1) q0];exact fun e=>(h.1 g qd).2 e.symm
theorem qem : ∀ {a b : List (Grp σ)},CanG a→CanG b→(∀ x,secG a x = secG b x)→a = b
  | [],[],_,_,_=>rfl
  | [],g::r,_,hb,h=>by
    have:=h g.lo
    rw [q3e (Int.le_refl _) (hb.1 g qd).1] at this
    exact absurd this.symm (hb.1 g qd).2
  | g::r,[],c,_,h=>by
    have:=h g.lo
    rw [q3e (Int.le_refl _) (c.1 g qd).1] at this
    exact absurd this (c.1 g qd).2
  | g::r,k::s,c,hb,h=>by
    have q:=c.1 g qd
    have t:=hb.1 k qd
    have low : ∀ {g k : Grp σ} {r s : List (Grp σ)},CanG (g::r)→CanG (k::s)→(∀ x,secG (g::r) x = secG (k::s) x)→k.lo≤g.lo:=by
      intro g k r s c hb h;refine Int.not_lt.1 fun j=>?_;have d:=h g.lo;rw [q3e (Int.le_refl _) (c.1 g qd).1,Uv (y:=k.lo) (fun m f=>?_) j] at d
      · exact (c.1 g qd).2 d
      · rcases List.mem_cons.1 f with rfl | f
        · exact Int.le_refl _
        · have:=(hb.nxt m f).1;have:=(hb.1 k qd).1;omega
    have n : g.lo = k.lo:=Int.le_antisymm (low hb c fun x=>(h x).symm) (low c hb h)
    have l : g.sec = k.sec:=by
      have d:=h g.lo
      rwa [q3e (Int.le_refl _) q.1,q3e q0 q0] at d
    have hi : ∀ {g k : Grp σ} {r s : List (Grp σ)},CanG (g::r)→CanG (k::s)→(∀ x,secG (g::r) x = secG (k::s) x)→g.lo = k.lo→g.sec = k.sec→k.hi≤g.hi:=by
      intro g k r s c hb h n l;refine Int.not_lt.1 fun j=>?_;have d:=h g.hi;have:=(c.1 g qd).1;rw [q3e (g:=k) q0 j,← l] at d;exact qz4 c d
    have o : g.hi = k.hi:=Int.le_antisymm (hi hb c (fun x=>(h x).symm) n.symm l.symm) (hi c hb h n l)
    have e : g = k:=by cases g;cases k;simp at n l o;simp [n,l,o]
    subst e
    have : r = s:=qem c.tail hb.tail fun x=>by
      by_cases p : x < g.hi
      · rw [Uv (y:=g.hi) (fun m f=>(c.nxt m f).1) p,Uv (y:=g.hi) (fun m f=>(hb.nxt m f).1) p]
      · have d:=h x
        rwa [secG,secG,qq q0,qq q0] at d
    rw [this]
def curG (s : Mg σ β) : List (Grp σ):=if s.sec = [] then [] else [⟨s.lo,s.hi,s.sec⟩]
def secC (sec : Int→List σ) : List Int→Int→List σ
  | a::b::r,x=>if a≤x∧x < b then sec a else secC sec (b::r) x
  | _,_=>[]
theorem qk4 (put : Int→Int→σ→β) (s : Mg σ β) (a : List (Grp σ)) (h : s.done = K5 put a) : s.flat put = K5 put (a ++ curG s):=by
  rw [qsm,Mg.flat,h];unfold curG;split
  · rename_i b;simp [b,K5]
  · simp [K5]
theorem qce {s : Mg σ β} {g : Grp σ} (h : g∈curG s) : s.sec≠[]∧g = ⟨s.lo,s.hi,s.sec⟩:=by
  unfold curG at h;split at h
  · cases h
  · rename_i a;exact ⟨a,by simpa using h⟩
theorem qd4 (sec : Int→List σ) {x : Int} : ∀ {d : List Int},d.Pairwise (· < ·)→
    (∀ a∈d,a≤x→(∀ c∈d,c≤a∨x < c)→sec a = sec x)→((∀ c∈d,x < c)→sec x = [])→((∀ c∈d,c≤x)→sec x = [])→secC sec d x = sec x
  | [],_,_,h2,_=>(h2 qd).symm
  | [a],_,_,h2,h3=>by
    rw [secC]
    · by_cases k : x < a
      · exact (h2 (by simpa using k)).symm
      · exact (h3 (by simpa using k)).symm
    · intro a b r h;simp at h
  | a::b::r,hp,h1,h2,h3=>by
    have o : a < b:=(List.pairwise_cons.1 hp).1 b qd
    have n:=(List.pairwise_cons.1 (List.pairwise_cons.1 hp).2).1
    rw [secC]
    split
    · rename_i k
      refine h1 a qd k.1 fun c g=>?_
      rcases List.mem_cons.1 g with rfl | g
      · exact .inl (Int.le_refl _)
      · rcases List.mem_cons.1 g with rfl | g
        · exact .inr k.2
        · have:=n c g;exact .inr q0
    · rename_i k
      by_cases m : x < a
      · have e : sec x = []:=h2 fun c g=>by
          rcases List.mem_cons.1 g with rfl | g
          · exact m
          · have:=(List.pairwise_cons.1 hp).1 c g;omega
        have:=qd4 sec (x:=x) (List.pairwise_cons.1 hp).2 (fun a' j l _=>by
          exfalso;have:=(List.pairwise_cons.1 hp).1 a' j;omega) (fun _=>e) (fun _=>e)
        exact this
      · have p : b≤x:=by omega
        exact qd4 sec (List.pairwise_cons.1 hp).2 (fun a' j l f=>h1 a' (by simp [j]) l fun c g=>by
          rcases List.mem_cons.1 g with rfl | g
          · have:=(List.pairwise_cons.1 hp).1 a' j;exact .inl q0
          · exact f c g) (fun f=>by have:=f b qd;omega) (fun f=>h3 fun c g=>by
          rcases List.mem_cons.1 g with rfl | g
          · omega
          · exact f c g)
variable [DecidableEq σ] (put : Int→Int→σ→β)
structure InvG (s : Mg σ β) (gs : List (Grp σ)) (c : Int) : Prop where
  done : s.done = K5 put gs
  can : CanG (gs ++ curG s)
  le : ∀ g∈gs ++ curG s,g.hi≤c
  gap : s.sec = []→∀ g∈gs,g.hi = c→False
theorem qtk {s : Mg σ β} {l : List (Grp σ)} {a b : Int} {c : List σ} (u : a < b) (hi : InvG put s l a) :
    ∃ p,InvG put (addM put s a b c) p b∧∀ x,secG (p ++ curG (addM put s a b c)) x = if a≤x∧x < b then c else secG (l ++ curG s) x:=by
  rcases q1m put s a b c with ⟨h1,h2,h3,w⟩ | ⟨h1,w⟩
  · rw [w];have hs : s.sec≠[]:=h2 ▸ h1;have c1 : curG s = [⟨s.lo,s.hi,s.sec⟩]:=by unfold curG;rw [qq hs]
    have c2 : curG (⟨s.done,s.sec,s.lo,b⟩ : Mg σ β) = [⟨s.lo,b,s.sec⟩]:=by unfold curG;rw [qq hs]
    have f:=hi.can;rw [c1] at f;have ah : s.lo < s.hi:=(f.1 ⟨s.lo,s.hi,s.sec⟩ qd).1;refine ⟨l,⟨hi.done,?_,?_,fun h=>absurd h hs⟩,?_⟩
    · rw [c2];refine ⟨fun g d=>?_,?_⟩
      · rcases List.mem_append.1 d with d | d
        · exact f.1 g (by simp [d])
        · obtain rfl:=List.mem_singleton.1 d;exact ⟨by simp only;omega,hs⟩
      · have:=List.pairwise_append.1 f.2;refine List.pairwise_append.2 ⟨this.1,qd,fun g d k hk=>?_⟩;obtain rfl:=List.mem_singleton.1 hk;exact this.2.2 g d ⟨s.lo,s.hi,s.sec⟩ qd
    · rw [c2];intro g d;rcases List.mem_append.1 d with d | d
      · have:=hi.le g (by simp [d]);omega
      · obtain rfl:=List.mem_singleton.1 d;exact Int.le_refl _
    · intro x;rw [c1,c2];have z : ∀ g∈l,g.hi≤s.lo:=fun g d=>((List.pairwise_append.1 f.2).2.2 g d ⟨s.lo,s.hi,s.sec⟩ qd).1;have o : ∀ g∈l,g.sec≠[]:=fun g d=>(f.1 g (by simp [d])).2;by_cases n : x < s.lo
      · rw [qq q0,qh3 (y:=s.lo) qd n,qh3 (y:=s.lo) qd n]
      · have e : secG l x = []:=q75 z q0;rw [q9z e o,q9z e o];simp only [secG];by_cases ad : x < s.hi
        · rw [qr ⟨q0,q0⟩,qq q0,qr ⟨q0,ad⟩]
        · by_cases q : x < b
          · rw [qr ⟨q0,q⟩,qr ⟨q0,q⟩,h2]
          · rw [qq q0,qq q0,qq q0]
  · rw [w];have hd : s.flat put = K5 put (l ++ curG s):=qk4 put s l hi.done;refine ⟨l ++ curG s,⟨hd,?_,?_,?_⟩,?_⟩
    · by_cases m : c = []
      · have : curG (⟨s.flat put,c,a,b⟩ : Mg σ β) = []:=by unfold curG;rw [qr m]
        rw [this,List.append_nil];exact hi.can
      · have : curG (⟨s.flat put,c,a,b⟩ : Mg σ β) = [⟨a,b,c⟩]:=by unfold curG;rw [qq m]
        rw [this];refine ⟨fun g d=>?_,List.pairwise_append.2 ⟨hi.can.2,qd,fun g d k hk=>?_⟩⟩
        · rcases List.mem_append.1 d with d | d
          · exact hi.can.1 g d
          · obtain rfl:=List.mem_singleton.1 d;exact ⟨u,m⟩
        · obtain rfl:=List.mem_singleton.1 hk;refine ⟨hi.le g d,fun t r=>?_⟩;rcases List.mem_append.1 d with j | j
          · by_cases hs : s.sec = []
            · exact hi.gap hs g j t
            · have h5 : (⟨s.lo,s.hi,s.sec⟩ : Grp σ)∈curG s:=by unfold curG;rw [qq hs];simp
              have h6:=((List.pairwise_append.1 hi.can.2).2.2 g j _ h5).1;have h7:=(hi.can.1 _ (List.mem_append.2 (.inr h5))).1;have h8:=hi.le _ (List.mem_append.2 (.inr h5));simp only at t h6 h7 h8;omega
          · obtain ⟨hs,rfl⟩:=qce j;exact h1 ⟨m,r.symm,t⟩
    · intro g d;rcases List.mem_append.1 d with d | d
      · have:=hi.le g d;omega
      · obtain ⟨_,rfl⟩:=qce d;exact Int.le_refl _
    · intro m g d t;have:=hi.le g d;omega
    · intro x;by_cases n : a≤x∧x < b
      · rw [qr n,q9z (q75 hi.le n.1) fun g d=>(hi.can.1 g d).2];unfold curG;split
        · rename_i m;simp only at m;rw [m];rfl
        · simp only [secG];rw [qr n]
      · rw [qq n];by_cases v : x < a
        · exact qh3 (y:=a) (fun g d=>by obtain ⟨_,rfl⟩:=qce d;exact Int.le_refl _) v
        · have e:=q75 (x:=x) hi.le q0;rw [q9z e fun g d=>(hi.can.1 g d).2,e];exact q75 (y:=b) (fun g d=>by obtain ⟨_,rfl⟩:=qce d;exact Int.le_refl _) q0
theorem qnb (sec : Int→List σ) : ∀ (d : List Int) (c : Int) (s : Mg σ β) (h : List (Grp σ)),(c::d).Pairwise (· < ·)→InvG put s h c→
    ∃ f,(runM put sec s (c::d)).flat put = K5 put f∧CanG f∧∀ x,secG f x = if x < c then secG (h ++ curG s) x else secC sec (c::d) x
  | [],c,s,h,_,hi=>by
    refine ⟨h ++ curG s,qk4 put s h hi.done,hi.can,fun x=>?_⟩
    by_cases j : x < c
    · rw [qr j]
    · rw [qq j];exact q75 hi.le q0
  | b::d,a,s,h,hp,hi=>by
    have n : a < b:=(List.pairwise_cons.1 hp).1 b qd
    obtain ⟨f,m,k⟩:=qtk (b:=b) (c:=sec a) put n hi
    obtain ⟨l,q,p,o⟩:=qnb sec d b _ f (List.pairwise_cons.1 hp).2 m
    refine ⟨l,q,p,fun x=>?_⟩
    rw [o x]
    by_cases j : x < a
    · rw [qr q0,qr j,k,qq q0]
    · rw [qq j]
      simp only [secC]
      by_cases g : x < b
      · rw [qr g,k,qr ⟨q0,g⟩,qr ⟨q0,g⟩]
      · rw [qq g,qq q0]
theorem qlp (sec : Int→List σ) {a : List Int} (f : a.Pairwise (· < ·)) :
    ∃ d,(Qz put Qy (Yt a sec)).flat put = K5 put d∧CanG d∧∀ x,secG d x = secC sec a x:=by
  rw [qk7]
  cases a with
  | nil=>exact ⟨[],rfl,⟨qd,qd⟩,fun x=>rfl⟩
  | cons c a=>
    obtain ⟨d,k,j,h⟩:=qnb put sec a c (Qy : Mg σ β) [] f ⟨rfl,⟨by simp [curG,Qy],by simp [curG,Qy]⟩,by simp [curG,Qy],qd⟩;refine ⟨d,k,j,fun x=>?_⟩;rw [h x];split
    · rename_i g
      have : ∀ (a : List Int) (c : Int),(c::a).Pairwise (· < ·)→x < c→secC sec (c::a) x = []:=by
        intro a
        induction a with
        | nil=>intros;rfl
        | cons b r ih=>
          intro c hp g;rw [secC,qq q0];exact ih b (List.pairwise_cons.1 hp).2 (by have:=(List.pairwise_cons.1 hp).1 b qd;omega)
      rw [this a c f g];rfl
    · rfl
end
end Go.Sh
namespace Go.Sh
open Go Go.Am
section
variable {σ : Type}
theorem qh5 {x : Int} : ∀ (b : List (Grp σ)),secG b x = []∨∃ g∈b,g.lo≤x∧x < g.hi∧secG b x = g.sec
  | []=>.inl rfl
  | g::r=>by
    by_cases a : g.lo≤x∧x < g.hi
    · exact .inr ⟨g,qd,a.1,a.2,by rw [secG,qr a]⟩
    · rw [secG,qq a]
      rcases qh5 r with h | ⟨k,c,h⟩
      · exact .inl h
      · exact .inr ⟨k,by simp [c],h⟩
theorem qh4 : ∀ {b : List (Grp σ)},CanG b→∀ g∈b,∀ x,g.lo≤x→x < g.hi→secG b x = g.sec
  | k::r,h,g,a,x,h1,h2=>by
    rcases List.mem_cons.1 a with rfl | a
    · exact q3e h1 h2
    · have:=(h.nxt g a).1
      rw [secG,qq q0]
      exact qh4 h.tail g a x h1 h2
end
theorem ql4 (kind : Int) : Jj kind [] [] = []:=by
  have a:=(q64 kind [] [] qd qd).2;refine q5m a.can ⟨qd,qd⟩ fun x=>?_;rw [a.pts];have:=q21 x;unfold Ks;simp [this]
theorem qjd (a b : List qi) (x : Int) : covS (a ++ b) x = covS a x ++ covS b x:=by simp [covS]
theorem qjh (s : List qj) (lo hi x : Int) : covS (s.map (putR lo hi)) x = if lo≤x∧x < hi then s else []:=by
  induction s with
  | nil=>simp [covS]
  | cons t s ih=>
    have e : covS (List.map (putR lo hi) (t::s)) x = (if covR x (putR lo hi t) = true then [t] else []) ++ covS (s.map (putR lo hi)) x:=rfl;rw [e,ih];have : covR x (putR lo hi t) = (decide (lo≤x) && decide (x < hi)):=rfl;rw [this];by_cases b : lo≤x <;> by_cases a : x < hi <;> simp [b,a]
theorem q5s : ∀ {b : List (Grp qj)},CanG b→∀ x,covS (K5 putR b) x = secG b x
  | [],_,x=>rfl
  | g::r,h,x=>by
    have e : K5 putR (g::r) = g.sec.map (putR g.lo g.hi) ++ K5 putR r:=rfl
    rw [e,qjd,qjh,q5s h.tail x]
    by_cases a : g.lo≤x∧x < g.hi
    · rw [qr a,secG,qr a,Uv (y:=g.hi) (fun m c=>(h.nxt m c).1) a.2,List.append_nil]
    · rw [qq a,secG,qq a,List.nil_append]
theorem qje {l : List qi} {a x : Int} (h : ∀ r∈l,covR a r = covR x r) : covS l a = covS l x:=by
  induction l with
  | nil=>rfl
  | cons r l ih=>
    have e : ∀ y,covS (r::l) y = (if covR y r = true then [ysp r] else []) ++ covS l y:=fun _=>rfl;rw [e,e,h r qd,ih fun k b=>h k (by simp [b])]
theorem qbu {l : List qi} {x : Int} (h : ∀ r∈l,covR x r = false) : covS l x = []:=by
  induction l with
  | nil=>rfl
  | cons r l ih=>
    have e : covS (r::l) x = (if covR x r = true then [ysp r] else []) ++ covS l x:=rfl;rw [e,h r qd,ih fun k a=>h k (by simp [a])];rfl
theorem q5r {x : Int} {r : qi} : covR x r = true↔r.X0≤x∧x < r.X1:=by simp [covR]
theorem qln {p q : List qi} {r : qi} (h : r∈p∨r∈q) : r.X0∈xsOf p ++ xsOf q∧r.X1∈xsOf p ++ xsOf q:=by
  unfold xsOf;simp only [List.mem_append,List.mem_flatMap];rcases h with h | h
  · exact ⟨.inl ⟨r,h,qd⟩,.inl ⟨r,h,qd⟩⟩
  · exact ⟨.inr ⟨r,h,qd⟩,.inr ⟨r,h,qd⟩⟩
theorem qlv (kind : Int) {p q : List qi} (h : p.length + q.length≤100000) :
    ∃ f,mrgR kind p q = K5 putR f∧CanG f∧∀ x,secG f x = secJ kind p q x:=by
  have t:=Ug p;have u:=Ug q;have hs:=(U6 (l:=xsOf p ++ xsOf q) (by simp;omega)).2.1;obtain ⟨f,o,n,m⟩:=qlp putR (secJ kind p q) hs.1;refine ⟨f,o,n,fun x=>?_⟩;rw [m]
  have g : ∀ r,(r∈p∨r∈q)→r.X0∈Qw (xsOf p ++ xsOf q)∧r.X1∈Qw (xsOf p ++ xsOf q):=fun r b=>
    ⟨(hs.2 _).2 (qln b).1,(hs.2 _).2 (qln b).2⟩
  refine qd4 _ hs.1 (fun a _ k c=>?_) (fun c=>?_) (fun c=>?_)
  · have d : ∀ r,(r∈p∨r∈q)→covR a r = covR x r:=fun r b=>by
      have j:=c _ (g r b).1;have s:=c _ (g r b).2;rw [Bool.eq_iff_iff,q5r,q5r];omega
    unfold secJ;rw [qje fun r b=>d r (.inl b),qje fun r b=>d r (.inr b)]
  · have d : ∀ r,(r∈p∨r∈q)→covR x r = false:=fun r b=>by
      have j:=c _ (g r b).1;rw [← Bool.not_eq_true,q5r];omega
    unfold secJ;rw [qbu fun r b=>d r (.inl b),qbu fun r b=>d r (.inr b),ql4]
  · have d : ∀ r,(r∈p∨r∈q)→covR x r = false:=fun r b=>by
      have j:=c _ (g r b).2;rw [← Bool.not_eq_true,q5r];omega
    unfold secJ;rw [qbu fun r b=>d r (.inl b),qbu fun r b=>d r (.inr b),ql4]
def CanR (l : List qi) : Prop:=∃ gs : List (Grp qj),l = K5 putR gs∧CanG gs∧∀ g∈gs,Can g.sec
theorem qqh : Can []:=⟨qd,qd⟩
theorem CanR.nil : CanR []:=⟨[],rfl,⟨qd,qd⟩,qd⟩
theorem CanR.cov {l : List qi} (h : CanR l) (x : Int) : Can (covS l x):=by
  obtain ⟨a,rfl,c,b⟩:=h;rw [q5s c];rcases qh5 (x:=x) a with e | ⟨g,d,_,_,e⟩
  · rw [e];exact qqh
  · rw [e];exact b g d
theorem qen {a b : List qi} (f : CanR a) (hb : CanR b) (h : ∀ x y,hasR a x y↔hasR b x y) : a = b:=by
  have g : ∀ x,covS a x = covS b x:=fun x=>q5m (f.cov x) (hb.cov x) fun y=>by rw [U8,U8];exact h x y
  obtain ⟨k,rfl,d,_⟩:=f;obtain ⟨j,rfl,c,_⟩:=hb;rw [qem d c fun x=>by rw [← q5s d,← q5s c];exact g x]
theorem qnj (kind : Int) {p q : List qi} (h : p.length + q.length≤100000) (x : Int) : qe7 kind (covS p x) (covS q x) (secJ kind p q x):=by
  have b:=q11 p x;have a:=q11 q x;exact (q64 kind (covS p x) (covS q x) q0 q0).2
theorem qcj (kind : Int) {p q : List qi} (h : p.length + q.length≤100000) : CanR (mrgR kind p q):=by
  obtain ⟨c,f,a,d⟩:=qlv kind h;refine ⟨c,f,a,fun g b=>?_⟩;have:=d g.lo;rw [qh4 a g b _ (Int.le_refl _) (a.1 g b).1] at this;rw [this];exact (qnj kind h _).can
theorem qjf (kind : Int) {p q : List qi} (h : p.length + q.length≤100000) (x : Int) : covS (mrgR kind p q) x = secJ kind p q x:=by
  obtain ⟨d,c,b,a⟩:=qlv kind h;rw [c,q5s b,a]
theorem qc7 (kind : Int) {p q : List qi} (h : p.length + q.length≤100000) (x y : Int) : hasR (mrgR kind p q) x y↔Ks kind (hasR p x y) (hasR q x y):=by
  rw [← U8,qjf kind h,(qnj kind h x).pts,U8,U8]
theorem qfn (x y : Int) : ¬ hasR [] x y:=by rintro ⟨r,h,_⟩;cases h
theorem q60 {a b : Prop} : Ks 2 a b↔a∨b:=by unfold Ks;simp
theorem qku {a b : Prop} : Ks 1 a b↔a∧b:=by unfold Ks;simp
theorem qt7 {l : List qi} (h : l.length≤100000) (x y : Int) : hasR (mrgR 2 l []) x y↔hasR l x y:=by
  rw [qc7 2 (by simpa using h),q60];simp [qfn]
theorem qlw {l : List qi} (a : l.length≤100000) (h : CanR l) : mrgR 2 l [] = l:=
  qen (qcj 2 (by simpa using a)) h fun x y=>qt7 a x y
theorem qll {σ β : Type} {put : Int→Int→σ→β} {a : List (Grp σ)} {r : β} : r∈K5 put a↔∃ g∈a,∃ t∈g.sec,r = put g.lo g.hi t:=by
  unfold K5;simp only [List.mem_flatMap,List.mem_map];exact ⟨fun ⟨g,hg,t,ht,e⟩=>⟨g,hg,t,ht,e.symm⟩,fun ⟨g,hg,t,ht,e⟩=>⟨g,hg,t,ht,e.symm⟩⟩
theorem CanR.lt {l : List qi} (h : CanR l) : ∀ r∈l,r.X0 < r.X1∧r.Y0 < r.Y1:=by
  obtain ⟨j,rfl,d,c⟩:=h;intro r b;obtain ⟨g,a,t,f,rfl⟩:=qll.1 b;exact ⟨(d.1 g a).1,(c g a).1 t f⟩
def InR (l : List qi) : Prop:=∀ x y,hasR l x y→(-1000000≤x∧x < 1000000)∧(-1000000≤y∧y < 1000000)
theorem CanR.vR {l : List qi} (h : CanR l) (hi : InR l) : ∀ r∈l,vR r:=by
  intro r a;have d:=h.lt r a;have c:=hi r.X0 r.Y0 ⟨r,a,q0⟩;have b:=hi (r.X1 - 1) (r.Y1 - 1) ⟨r,a,q0⟩;unfold Go.Sh.vR;omega
theorem InR.mrg {kind : Int} {p q : List qi} (h : p.length + q.length≤100000) (hp : InR p) (b : InR q) : InR (mrgR kind p q):=fun x y c=>by
  rcases qfq ((qc7 kind h x y).1 c) with a | a
  · exact hp x y a
  · exact b x y a
theorem InR.nil : InR []:=fun x y h=>absurd h (qfn x y)
theorem q8v {l : List qi} : Yj l = 0↔l.length≤400∧(∀ r∈l,vR r)∧CanR l:=by
  constructor
  · intro h;obtain ⟨c,b,a⟩:=qra h;exact ⟨c,b,a ▸ qcj 2 (by simp;omega)⟩
  · rintro ⟨c,b,a⟩;unfold Yj;rw [qq q0,qr b,qr (qlw q0 a)]
end Go.Sh
namespace Go.Sh
open Go Go.Am
def hasB (l : List qe) (x y z : Int) : Prop:=∃ b∈l,(b.Lo.X≤x∧x < b.Hi.X)∧(b.Lo.Y≤y∧y < b.Hi.Y)∧(b.Lo.Z≤z∧z < b.Hi.Z)
theorem q2t {z : Int} {b : qe} : covB z b = true↔b.Lo.Z≤z∧z < b.Hi.Z:=by simp [covB]
theorem qg5 {l : List qe} {z : Int} {r : qi} : r∈atB l z↔∃ b∈l,(b.Lo.Z≤z∧z < b.Hi.Z)∧r = Jr b:=by
  unfold atB;rw [List.mem_flatMap];constructor
  · rintro ⟨b,hb,h⟩;split at h
    · rename_i a;exact ⟨b,hb,q2t.1 a,by simpa using h⟩
    · cases h
  · rintro ⟨b,hb,a,rfl⟩;exact ⟨b,hb,by rw [qr (q2t.2 a)];simp⟩
theorem q20 {l : List qe} {x y z : Int} : hasR (atB l z) x y↔hasB l x y z:=by
  constructor
  · rintro ⟨r,h,f,c,a,d⟩;obtain ⟨b,hb,g,rfl⟩:=qg5.1 h;exact ⟨b,hb,⟨f,c⟩,⟨a,d⟩,g⟩
  · rintro ⟨b,hb,⟨f,c⟩,⟨a,d⟩,g⟩;exact ⟨Jr b,qg5.2 ⟨b,hb,g,rfl⟩,f,c,a,d⟩
theorem q1c (x y z : Int) : ¬ hasB [] x y z:=by rintro ⟨r,h,_⟩;cases h
theorem qid (a b : List qe) (z : Int) : atB (a ++ b) z = atB a z ++ atB b z:=by simp [atB]
theorem qih (s : List qi) (lo hi z : Int) : atB (s.map (putB lo hi)) z = if lo≤z∧z < hi then s else []:=by
  induction s with
  | nil=>simp [atB]
  | cons t s ih=>
    have e : atB (List.map (putB lo hi) (t::s)) z = (if covB z (putB lo hi t) = true then [t] else []) ++ atB (s.map (putB lo hi)) z:=rfl;rw [e,ih];have : covB z (putB lo hi t) = (decide (lo≤z) && decide (z < hi)):=rfl;rw [this];by_cases b : lo≤z <;> by_cases a : z < hi <;> simp [b,a]
theorem q5i : ∀ {b : List (Grp qi)},CanG b→∀ z,atB (K5 putB b) z = secG b z
  | [],_,z=>rfl
  | g::r,h,z=>by
    have e : K5 putB (g::r) = g.sec.map (putB g.lo g.hi) ++ K5 putB r:=rfl
    rw [e,qid,qih,q5i h.tail z]
    by_cases a : g.lo≤z∧z < g.hi
    · rw [qr a,secG,qr a,Uv (y:=g.hi) (fun m c=>(h.nxt m c).1) a.2,List.append_nil]
    · rw [qq a,secG,qq a,List.nil_append]
theorem qie {l : List qe} {a x : Int} (h : ∀ r∈l,covB a r = covB x r) : atB l a = atB l x:=by
  induction l with
  | nil=>rfl
  | cons r l ih=>
    have e : ∀ y,atB (r::l) y = (if covB y r = true then [Jr r] else []) ++ atB l y:=fun _=>rfl;rw [e,e,h r qd,ih fun k b=>h k (by simp [b])]
theorem qbn {l : List qe} {x : Int} (h : ∀ r∈l,covB x r = false) : atB l x = []:=by
  induction l with
  | nil=>rfl
  | cons r l ih=>
    have e : atB (r::l) x = (if covB x r = true then [Jr r] else []) ++ atB l x:=rfl;rw [e,h r qd,ih fun k a=>h k (by simp [a])];rfl
theorem qlo {p q : List qe} {r : qe} (h : r∈p∨r∈q) : r.Lo.Z∈zsOf p ++ zsOf q∧r.Hi.Z∈zsOf p ++ zsOf q:=by
  unfold zsOf;simp only [List.mem_append,List.mem_flatMap];rcases h with h | h
  · exact ⟨.inl ⟨r,h,qd⟩,.inl ⟨r,h,qd⟩⟩
  · exact ⟨.inr ⟨r,h,qd⟩,.inr ⟨r,h,qd⟩⟩
theorem qgd (kind : Int) : mrgR kind [] [] = []:=by
  refine qen (qcj kind qd) .nil fun x y=>?_;rw [qc7 kind qd];have:=qfn x y;unfold Ks;simp [this]
theorem qlt (kind : Int) {p q : List qe} (h : p.length + q.length≤100000) :
    ∃ f,mrgB kind p q = K5 putB f∧CanG f∧∀ z,secG f z = secB kind p q z:=by
  have u:=J0 p;have s:=J0 q;have hs:=(U6 (l:=zsOf p ++ zsOf q) (by simp;omega)).2.1;obtain ⟨f,o,n,m⟩:=qlp putB (secB kind p q) hs.1;refine ⟨f,o,n,fun x=>?_⟩;rw [m]
  have g : ∀ r,(r∈p∨r∈q)→r.Lo.Z∈Qw (zsOf p ++ zsOf q)∧r.Hi.Z∈Qw (zsOf p ++ zsOf q):=fun r b=>
    ⟨(hs.2 _).2 (qlo b).1,(hs.2 _).2 (qlo b).2⟩
  refine qd4 _ hs.1 (fun a _ k c=>?_) (fun c=>?_) (fun c=>?_)
  · have d : ∀ r,(r∈p∨r∈q)→covB a r = covB x r:=fun r b=>by
      have j:=c _ (g r b).1;have t:=c _ (g r b).2;rw [Bool.eq_iff_iff,q2t,q2t];omega
    unfold secB;rw [qie fun r b=>d r (.inl b),qie fun r b=>d r (.inr b)]
  · have d : ∀ r,(r∈p∨r∈q)→covB x r = false:=fun r b=>by
      have j:=c _ (g r b).1;rw [← Bool.not_eq_true,q2t];omega
    unfold secB;rw [qbn fun r b=>d r (.inl b),qbn fun r b=>d r (.inr b),qgd]
  · have d : ∀ r,(r∈p∨r∈q)→covB x r = false:=fun r b=>by
      have j:=c _ (g r b).2;rw [← Bool.not_eq_true,q2t];omega
    unfold secB;rw [qbn fun r b=>d r (.inl b),qbn fun r b=>d r (.inr b),qgd]
def CanB (l : List qe) : Prop:=∃ gs : List (Grp qi),l = K5 putB gs∧CanG gs∧∀ g∈gs,CanR g.sec
theorem CanB.nil : CanB []:=⟨[],rfl,⟨qd,qd⟩,qd⟩
theorem CanB.at {l : List qe} (h : CanB l) (z : Int) : CanR (atB l z):=by
  obtain ⟨a,rfl,c,b⟩:=h;rw [q5i c];rcases qh5 (x:=z) a with e | ⟨g,d,_,_,e⟩
  · rw [e];exact .nil
  · rw [e];exact b g d
theorem qbp {a b : List qe} (f : CanB a) (hb : CanB b) (h : ∀ x y z,hasB a x y z↔hasB b x y z) : a = b:=by
  have g : ∀ z,atB a z = atB b z:=fun z=>qen (f.at z) (hb.at z) fun x y=>by rw [q20,q20];exact h x y z
  obtain ⟨k,rfl,d,_⟩:=f;obtain ⟨j,rfl,c,_⟩:=hb;rw [qem d c fun x=>by rw [← q5i d,← q5i c];exact g x]
theorem qii {p q : List qe} (h : p.length + q.length≤100000) (z : Int) : (atB p z).length + (atB q z).length≤100000:=by
  have:=Uh p z;have:=Uh q z;omega
theorem q6d (kind : Int) {p q : List qe} (h : p.length + q.length≤100000) : CanB (mrgB kind p q):=by
  obtain ⟨c,f,a,d⟩:=qlt kind h;refine ⟨c,f,a,fun g b=>?_⟩;have:=d g.lo;rw [qh4 a g b _ (Int.le_refl _) (a.1 g b).1] at this;rw [this];exact qcj kind (qii h _)
theorem qif (kind : Int) {p q : List qe} (h : p.length + q.length≤100000) (z : Int) : atB (mrgB kind p q) z = secB kind p q z:=by
  obtain ⟨d,c,b,a⟩:=qlt kind h;rw [c,q5i b,a]
theorem qfm (kind : Int) {p q : List qe} (h : p.length + q.length≤100000) (x y z : Int) : hasB (mrgB kind p q) x y z↔Ks kind (hasB p x y z) (hasB q x y z):=by
  rw [← q20,qif kind h,secB,qc7 kind (qii h z),q20,q20]
theorem qc4 {l : List qe} (h : l.length≤100000) (x y z : Int) : hasB (mrgB 2 l []) x y z↔hasB l x y z:=by
  rw [qfm 2 (by simpa using h),q60];simp [q1c]
theorem qlu {l : List qe} (a : l.length≤100000) (h : CanB l) : mrgB 2 l [] = l:=
  qbp (q6d 2 (by simpa using a)) h fun x y z=>qc4 a x y z
theorem CanB.lt {l : List qe} (h : CanB l) : ∀ b∈l,b.Lo.X < b.Hi.X∧b.Lo.Y < b.Hi.Y∧b.Lo.Z < b.Hi.Z:=by
  obtain ⟨k,rfl,f,d⟩:=h;intro r c;obtain ⟨g,a,t,j,rfl⟩:=qll.1 c;have:=(d g a).lt t j;exact ⟨this.1,this.2,(f.1 g a).1⟩
def vB (b : qe) : Prop:=(b.Lo.X < b.Hi.X∧b.Lo.Y < b.Hi.Y∧b.Lo.Z < b.Hi.Z)∧(-1000000≤b.Lo.X∧-1000000≤b.Lo.Y∧-1000000≤b.Lo.Z)∧b.Hi.X≤1000000∧b.Hi.Y≤1000000∧b.Hi.Z≤1000000
instance (b : qe) : Decidable (vB b):=by unfold vB;infer_instance
def InB (l : List qe) : Prop:=∀ x y z,hasB l x y z→(-1000000≤x∧x < 1000000)∧(-1000000≤y∧y < 1000000)∧(-1000000≤z∧z < 1000000)
theorem q13p {l : List qe} (h : ∀ r∈l,vB r) : InB l:=by
  rintro x y z ⟨r,a,b⟩;have:=h r a;unfold vB at this;omega
theorem CanB.vB {l : List qe} (h : CanB l) (hi : InB l) : ∀ r∈l,vB r:=by
  intro r a;have d:=h.lt r a;have c:=hi r.Lo.X r.Lo.Y r.Lo.Z ⟨r,a,q0⟩;have b:=hi (r.Hi.X - 1) (r.Hi.Y - 1) (r.Hi.Z - 1) ⟨r,a,q0⟩;unfold Go.Sh.vB;omega
theorem InB.mrg {kind : Int} {p q : List qe} (h : p.length + q.length≤100000) (hp : InB p) (b : InB q) : InB (mrgB kind p q):=fun x y z c=>by
  rcases qfq ((qfm kind h x y z).1 c) with a | a
  · exact hp x y z a
  · exact b x y z a
theorem InB.nil : InB []:=fun x y z h=>absurd h (q1c x y z)
theorem qpc {l : List qe} (h : ∀ b∈l,vB b) (z : Int) : ∀ r∈atB l z,vR r:=by
  intro r a;obtain ⟨b,hb,_,rfl⟩:=qg5.1 a;have:=h b hb;unfold vB at this;unfold vR Jr;simp only;omega
theorem InB.at {l : List qe} (h : InB l) (z : Int) : InR (atB l z):=fun x y a=>by
  have:=h x y z (q20.1 a);exact ⟨this.1,this.2.1⟩
noncomputable def Qu (l : List qe) : Int:=if 400 < l.length then 4 else if ∀ b∈l,vB b then (if mrgB 2 l [] = l then 0 else 8) else 8
theorem Kp {l : List qe} : Qu l = 0↔l.length≤400∧(∀ b∈l,vB b)∧CanB l:=by
  unfold Qu;constructor
  · intro h;split at h
    · exact absurd h Q1
    · rename_i d;split at h
      · rename_i c;split at h
        · rename_i a;exact ⟨q0,c,a ▸ q6d 2 (by simp;omega)⟩
        · exact absurd h Q1
      · exact absurd h Q1
  · rintro ⟨d,c,a⟩;rw [qq q0,qr c,qr (qlu q0 a)]
theorem qni (kind : Int) {p q : List qe} (h : p.length + q.length≤100000) (z : Int) : (secB kind p q z).length≤(mrgB kind p q).length:=by
  rw [← qif kind h];exact Uh _ _
theorem qz5 (kind : Int) {p q : List qi} (h : p.length + q.length≤100000) (x : Int) : (secJ kind p q x).length≤(mrgR kind p q).length:=by
  rw [← qjf kind h];exact q11 _ _
noncomputable def mkB (l : List qe) : List qe × Int:=if 400 < l.length then ([],4) else if ∀ b∈l,vB b then (if 400 < (mrgB 2 l []).length then ([],4) else (mrgB 2 l [],0)) else ([],8)
noncomputable def jB (kind : Int) (p q : List qe) : List qe × Int:=
  if Qu p≠0 then ([],Qu p) else if Qu q≠0 then ([],Qu q) else if 400 < (mrgB kind p q).length then ([],4) else (mrgB kind p q,0)
noncomputable def mkR (l : List qi) : List qi × Int:=if 400 < l.length then ([],4) else if ∀ b∈l,vR b then (if 400 < (mrgR 2 l []).length then ([],4) else (mrgR 2 l [],0)) else ([],8)
noncomputable def jR (kind : Int) (p q : List qi) : List qi × Int:=
  if Yj p≠0 then ([],Yj p) else if Yj q≠0 then ([],Yj q) else if 400 < (mrgR kind p q).length then ([],4) else (mrgR kind p q,0)
end Go.Sh
