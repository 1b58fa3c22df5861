/- Pt1 Pt2 Pt3 Pt4 Pt5 Pt6 Pt7 Qa1 Qa2 Qa3 -/
import Derived.Test.YtbknppciefodiaaGreatK10
namespace Go.Sh
open Go Go.Am
theorem Z8 {α β : Type} {f : α→Option (α ⊕ β)} (st : Nat→α) (n : Nat) (b : β) (hs : ∀ k,k < n→f (st k) = some (.inl (st (k + 1)))) (hd : f (st n) = some (.inr b)) : ∀ {k : Nat},k≤n→loop f (st k) = some b:=by
  have key : ∀ m k,n - k = m→k≤n→loop f (st k) = some b:=by
    intro m
    induction m with
    | zero => intro k hm hk; obtain rfl : k = n := by omega
              exact Kc hd
    | succ m ih=>intro k hm hk;rw [Ko (hs k q6)];exact ih (k + 1) q6 q6
  intro k hk
  exact key _ k rfl hk
theorem w64s {k : Nat} {n : Nat} (h : k < n) (hn : n≤1000000) : w64 ((k : Int) + 1) = ((k + 1 : Nat) : Int):=by rw [Q6 q6];omega
theorem dlt {k n : Nat} (h : k < n) : decide ((k : Int) < (n : Int)) = true:=decide_eq_true q6
theorem dnl {n : Nat} : decide ((n : Int) < (n : Int)) = false:=decide_eq_false q6
theorem Je {α β γ : Type} (src : List α) (hl : src.length≤1000000) (h : α→List γ) (out : List γ) (fin : List γ→β) (f : Int × List γ→Option ((Int × List γ) ⊕ β))
    (hs : ∀ (k : Nat) (hk : k < src.length) (o : List γ),o = out ++ (src.take k).flatMap h→f ((k : Int),o) = some (.inl (((k + 1 : Nat) : Int),o ++ h src[k])))
    (hd : ∀ o,f ((src.length : Int),o) = some (.inr (fin o))) : loop f (0,out) = some (fin (out ++ src.flatMap h)):=by
  have e : ∀ k (hk : k < src.length),(src.take (k + 1)).flatMap h = (src.take k).flatMap h ++ h src[k]:=fun k hk=>by
    rw [List.take_succ_eq_append_getElem hk,List.flatMap_append,List.flatMap_cons,List.flatMap_nil,List.append_nil]
  have:=Z8 (f:=f) (fun k=>((k : Int),out ++ (src.take k).flatMap h)) src.length (fin (out ++ src.flatMap h)) (fun k hk=>by
    rw [hs k hk _ rfl,e k hk,List.append_assoc]) (by simp only [List.take_length];exact hd _) (Nat.zero_le _)
  simpa using this
theorem q4d {α β γ : Type} (src : List α) (h : α→γ) (out : List γ) (fin : List γ→β) (f : Int × List γ→Option ((Int × List γ) ⊕ β))
    (hs : ∀ (k : Nat) (hk : k < src.length) (o : List γ),o.length = out.length + k→f ((k : Int),o) = some (.inl (((k + 1 : Nat) : Int),o ++ [h src[k]])))
    (hd : ∀ o,f ((src.length : Int),o) = some (.inr (fin o))) : loop f (0,out) = some (fin (out ++ src.map h)):=by
  have e : ∀ k (hk : k < src.length),(src.take (k + 1)).map h = (src.take k).map h ++ [h src[k]]:=fun k hk=>by
    rw [List.take_succ_eq_append_getElem hk,List.map_append,List.map_cons,List.map_nil]
  have:=Z8 (f:=f) (fun k=>((k : Int),out ++ (src.take k).map h)) src.length (fin (out ++ src.map h)) (fun k hk=>by
    rw [hs k hk _ (by simp;omega),e k hk,List.append_assoc]) (by simp only [List.take_length];exact hd _) (Nat.zero_le _)
  simpa using this
theorem qad {γ : Type} (g : γ→γ) (a b : List γ) (hl : (a ++ b).length≤1000000) (f : Int × List γ→Option ((Int × List γ) ⊕ (List γ)))
    (hs : ∀ (k : Nat) (o : List γ) (hk : k < o.length),o.length = (a ++ b).length→f ((k : Int),o) = some (.inl (((k + 1 : Nat) : Int),o.set k (g o[k]))))
    (hd : ∀ o : List γ,f ((o.length : Int),o) = some (.inr o)) : loop f ((a.length : Int),a ++ b) = some (a ++ b.map g):=by
  have hl' : a.length + b.length≤1000000:=by simpa using hl
  have key:=Z8 (f:=f) (fun k=>(((a.length + k : Nat) : Int),a ++ ((b.take k).map g ++ b.drop k))) b.length (a ++ b.map g) (fun k hk=>by
    have hlen : (a ++ ((b.take k).map g ++ b.drop k)).length = (a ++ b).length:=by simp;omega
    have hk' : a.length + k < (a ++ ((b.take k).map g ++ b.drop k)).length:=by rw [hlen];simp;omega
    rw [hs (a.length + k) _ hk' hlen]
    have hm : ((b.take k).map g).length = k:=by simp;omega
    have e : (a ++ ((b.take k).map g ++ b.drop k))[a.length + k]'hk' = b[k]:=by
      rw [List.getElem_append_right q6]
      rw [List.getElem_append_right (by rw [hm];omega)]
      simp [List.length_take,Nat.min_eq_left (Nat.le_of_lt hk)]
    rw [e]
    congr 4
    rw [List.set_append,if_neg q6,List.set_append,if_neg (by rw [hm];omega),hm]
    have z : a.length + k - a.length - k = 0:=by omega
    rw [z,List.take_succ_eq_append_getElem hk,List.drop_eq_getElem_cons hk,List.set_cons_zero,List.map_append,List.map_cons,List.map_nil,List.append_assoc]
    rfl) (by
    simp only [List.take_length,List.drop_length,List.append_nil]
    have:=hd (a ++ b.map g)
    simpa using this) (Nat.zero_le _)
  simpa using key
theorem Yy {α γ υ : Type} (l : List α) (c : α→Bool) (res : (k : Nat)→k < l.length→γ) (u : υ) (f : Int→Option (Int ⊕ (υ ⊕ γ)))
    (hs : ∀ (k : Nat) (h : k < l.length),f (k : Int) = some (if c l[k] = true then .inr (.inr (res k h)) else .inl ((k + 1 : Nat) : Int))) (hd : f (l.length : Int) = some (.inr (.inl u))) :
    ((∀ v∈l,c v = false)∧loop f 0 = some (.inl u))∨∃ k,∃ h : k < l.length,c l[k] = true∧(∀ j (hj : j < k),c (l[j]'(q6)) = false)∧loop f 0 = some (.inr (res k h)):=by
  by_cases hh : ∀ v∈l,c v = false
  · refine .inl ⟨hh,?_⟩
    exact Z8 (f:=f) (fun k=>(k : Int)) l.length _ (fun k hk=>by rw [hs k hk,hh _ (List.getElem_mem hk)];rfl) hd (Nat.zero_le _)
  · refine .inr ?_
    have : ∃ k,∃ h : k < l.length,c l[k] = true:=by
      refine Classical.byContradiction fun hn=>hh fun v hv=>?_
      obtain ⟨k,hk,rfl⟩:=List.getElem_of_mem hv
      cases hc : c l[k]
      · rfl
      · exact absurd ⟨k,hk,hc⟩ hn
    have h2 : ∃ k,(∃ h : k < l.length,c l[k] = true)∧∀ j,j < k→¬ ∃ h : j < l.length,c l[j] = true:=by
      obtain ⟨k,hk⟩:=this
      induction k using Nat.strongRecOn with
      | _ k ih=>
        by_cases hj : ∃ j,j < k∧∃ h : j < l.length,c l[j] = true
        · obtain ⟨j,h1,h2⟩:=hj;exact ih j h1 h2
        · exact ⟨k,hk,fun j h1 h2=>hj ⟨j,h1,h2⟩⟩
    obtain ⟨k,⟨hk,hc⟩,hmin⟩:=h2
    have hmin' : ∀ j (hj : j < k),c (l[j]'(q6)) = false:=fun j hj=>by
      cases h : c (l[j]'(q6))
      · rfl
      · exact absurd ⟨q6,h⟩ (hmin j hj)
    refine ⟨k,hk,hc,hmin',?_⟩
    exact Z8 (f:=f) (fun k=>(k : Int)) k _ (fun j hj=>by rw [hs j q6,hmin' j hj];rfl) (by rw [hs k hk,if_pos hc]) (Nat.zero_le _)
theorem qku : ∀ {l a b : List Int},Yi l a→Yi l b→a = b:=by
  have key : ∀ (a b : List Int),a.Pairwise (· < ·)→b.Pairwise (· < ·)→(∀ x,x∈a↔x∈b)→a = b:=by
    intro a
    induction a with
    | nil=>intro b _ _ h;cases b with
      | nil=>rfl
      | cons y b=>exact absurd ((h y).2 qd) qd
    | cons x a ih=>
      intro b ha hb h
      cases b with
      | nil=>exact absurd ((h x).1 qd) qd
      | cons y b=>
        rw [List.pairwise_cons] at ha hb
        have hxy : x = y:=by
          rcases List.mem_cons.1 ((h x).1 qd) with h1 | h1
          · exact h1
          · rcases List.mem_cons.1 ((h y).2 qd) with h2 | h2
            · exact h2.symm
            · have:=hb.1 _ h1;have:=ha.1 _ h2;omega
        subst hxy
        rw [ih b ha.2 hb.2 fun z=>?_]
        constructor
        · intro hz
          rcases List.mem_cons.1 ((h z).1 (by simp [hz])) with h1 | h1
          · have:=ha.1 _ hz;omega
          · exact h1
        · intro hz
          rcases List.mem_cons.1 ((h z).2 (by simp [hz])) with h1 | h1
          · have:=hb.1 _ hz;omega
          · exact h1
  intro l a b ha hb
  exact key a b ha.1 hb.1 fun x=>(ha.2 x).trans (hb.2 x).symm
def ltI (a b : Int) : Bool:=decide (a < b)
theorem swoI : Sort.SWO ltI where
  irrefl:=by intro x;simp [ltI]
  trans:=by intro x y z;simp only [ltI,decide_eq_true_eq];omega
  ntrans:=by intro x y z;simp only [ltI,decide_eq_false_iff_not];omega
theorem cmpI : Kk qO ltI (fun _=>True):=by
  intro x y _ _
  refine ⟨sg x y,rfl,?_⟩
  rw [Zj];rfl
theorem qkt (l : List Int) (hl : l.length≤1000000) : ∃ ys,U9 l = some ys∧ys.Perm l∧ys.Pairwise (·≤·):=by
  obtain ⟨ys,h1,h2,h3⟩:=qks cmpI swoI l hl (fun _ _=>trivial)
  refine ⟨ys,by rw [qvl];exact h1,h2,h3.imp ?_⟩
  intro a b h
  simp only [ltI,decide_eq_false_iff_not] at h
  omega
end Go.Sh
namespace Go.Sh
open Go Go.Am
structure CInv (p : List Int) (k k2 i : Nat) (a : List Int) : Prop where
  len : a.length = p.length
  hi : i≤k + k2 - 1
  same : ∀ j (h : j < p.length),k + k2 - 1≤j→a[j]? = some p[j]
  so : Yi (p.take (k + k2)) (a.take i)
theorem qn9 {p : List Int} (hp : p.Pairwise (·≤·)) (hl : p.length≤1000000) {k k2 i : Nat} {a : List Int} (hk : 0 < k) (h2 : 0 < k2) (hn : k + k2 < p.length) (h : CInv p k k2 i a) :
    ∃ (i' : Nat) (a' : List Int),q12 ((i : Int),(k,p.length - k),(k2 : Int),a) = some (.inl ((i' : Int),(k,p.length - k),((k2 + 1 : Nat) : Int),a'))∧CInv p k (k2 + 1) i' a':=by
  obtain ⟨h1,h3,h4,h5,h6⟩:=h
  have hb : decide ((k2 : Int) < ((p.length - k : Nat) : Int)) = true:=dlt q6
  have r1 : idxW a (k,p.length - k) (k2 : Int) = some (p[k + k2]):=by
    unfold idxW;rw [if_pos ⟨q6,q6⟩]
    simp only [Int.toNat_natCast]
    exact h4 (k + k2) hn q6
  have r2 : idxW a (k,p.length - k) (w64 ((k2 : Int) - 1)) = some (p[k + k2 - 1]):=by
    rw [Q6 q6]
    have e : (k2 : Int) - 1 = ((k2 - 1 : Nat) : Int):=by omega
    rw [e];unfold idxW;rw [if_pos ⟨q6,q6⟩]
    simp only [Int.toNat_natCast]
    have:=h4 (k + k2 - 1) q6 q6
    rw [show k + (k2 - 1) = k + k2 - 1 by omega];exact this
  have hle : p[k + k2 - 1]≤p[k + k2]:=List.pairwise_iff_getElem.1 hp _ _ q6 hn q6
  have hmem : p[k + k2 - 1]∈p.take (k + k2):=by
    rw [List.mem_take_iff_getElem];exact ⟨k + k2 - 1,q6,rfl⟩
  have htk : p.take (k + (k2 + 1)) = p.take (k + k2) ++ [p[k + k2]]:=by rw [← Nat.add_assoc,List.take_succ_eq_append_getElem hn]
  have hw : w64 ((k2 : Int) + 1) = ((k2 + 1 : Nat) : Int):=w64s (n:=p.length) q6 hl
  by_cases he : p[k + k2] = p[k + k2 - 1]
  · refine ⟨i,a,?_,h1,q6,fun j hj hge=>h4 j hj q6,?_⟩
    · have hne : (p[k + k2] != p[k + k2 - 1]) = false:=by rw [he];simp
      simp only [q12,hb,cond_true,r1,r2,Option.bind_some,hne,cond_false,hw]
    · rw [htk]
      refine ⟨h5,fun x=>?_⟩
      rw [h6 x]
      constructor
      · intro hx;exact List.mem_append.2 (.inl hx)
      · intro hx
        rcases List.mem_append.1 hx with h | h
        · exact h
        · simp only [List.mem_singleton] at h;rw [h,he];exact hmem
  · have hne : (p[k + k2] != p[k + k2 - 1]) = true:=by simpa using he
    have hia : i < a.length:=by omega
    have r3 : idx a (i : Int) = some a[i]:=Qj hia
    have hw' : w64 ((i : Int) + 1) = ((i + 1 : Nat) : Int):=w64s (n:=p.length) q6 hl
    refine ⟨i + 1,a.set i p[k + k2],?_,by simpa using h1,q6,fun j hj hge=>?_,?_⟩
    · simp only [q12,hb,cond_true,r1,r2,Option.bind_some,hne,r3,hw,hw',Int.toNat_natCast]
    · rw [List.getElem?_set_ne q6];exact h4 j hj q6
    · have e : (a.set i p[k + k2]).take (i + 1) = a.take i ++ [p[k + k2]]:=by
        rw [List.take_succ_eq_append_getElem (by simpa using hia)]
        simp [List.take_set_of_le]
      rw [e,htk]
      refine ⟨?_,fun x=>?_⟩
      · rw [List.pairwise_append]
        refine ⟨h5,qd,fun x hx y hy=>?_⟩
        simp only [List.mem_singleton] at hy;subst hy
        have hx':=(h6 x).1 hx
        rw [List.mem_take_iff_getElem] at hx'
        obtain ⟨j,hj,rfl⟩:=hx'
        have : p[j]≤p[k + k2 - 1]:=by
          by_cases hjj : j = k + k2 - 1
          · subst hjj;exact Int.le_refl _
          · exact List.pairwise_iff_getElem.1 hp _ _ q6 q6 q6
        omega
      · rw [List.mem_append,List.mem_append,h6 x]
theorem qn8 {p : List Int} (hp : p.Pairwise (·≤·)) (hl : p.length≤1000000) {k : Nat} (hk : 0 < k) (hkn : k < p.length) (h0 : Yi (p.take (k + 1)) (p.take k)) :
    ∃ i : Nat,∃ a : List Int,loop q12 ((k : Int),(k,p.length - k),1,p) = some ((i : Int),a)∧a.length = p.length∧i≤p.length∧Yi p (a.take i):=by
  have h:=J9 (f:=q12) (mk:=fun k2 (c : Nat × List Int)=>((c.1 : Int),(k,p.length - k),((k2 : Nat) : Int),c.2)) (p.length - k) (fun k2 c=>0 < k2∧CInv p k k2 c.1 c.2)
    (fun b=>∃ i : Nat,∃ a : List Int,b = ((i : Int),a)∧a.length = p.length∧i≤p.length∧Yi p (a.take i))
    (fun k2 c hk2 hI=>by
      obtain ⟨i',a',e1,e2⟩:=qn9 hp hl hk hI.1 q6 hI.2
      exact .inl ⟨(i',a'),e1,q6,e2⟩)
    (fun c hI=>by
      obtain ⟨hpos,h1,h3,h4,h5⟩:=hI
      refine ⟨((c.1 : Int),c.2),?_,c.1,c.2,rfl,h1,q6,?_⟩
      · simp only [q12,dnl,cond_false]
      · rwa [List.take_of_length_le q6] at h5)
    (k0:=1) (c0:=(k,p)) q6 ⟨q6,rfl,qd,fun j hj _=>by simp [hj],h0⟩
  obtain ⟨b,hb,i,a,rfl,h2⟩:=h
  exact ⟨i,a,hb,h2⟩
theorem qgb {p : List Int} (hp : p.Pairwise (·≤·)) (hl : p.length≤1000000) :
    ∃ w a,q24 p = some ((0,w),a)∧a.length = p.length∧w≤p.length∧Yi p (a.take w):=by
  unfold q24
  by_cases hs : p.length < 2
  · rw [decide_eq_true (by omega : (p.length : Int) < 2),cond_true]
    refine ⟨p.length,p,rfl,rfl,Nat.le_refl _,?_⟩
    rw [List.take_length]
    refine ⟨?_,fun x=>Iff.rfl⟩
    match p,hs with
    | [],_=>simp
    | [x],_=>simp
  rw [decide_eq_false (by omega : ¬ (p.length : Int) < 2),cond_false]
  have hsort : ∀ k,k≤p.length→(∀ j (hj : j < k),0 < j→∀ h : j < p.length,p[j]≠p[j - 1])→Yi (p.take k) (p.take k):=by
    intro k hk hne
    refine ⟨?_,fun x=>Iff.rfl⟩
    rw [List.pairwise_iff_getElem]
    intro i j hi hj hij
    simp only [List.length_take] at hi hj
    simp only [List.getElem_take]
    have h1 : p[j - 1]≤p[j]:=List.pairwise_iff_getElem.1 hp _ _ q6 q6 q6
    have h2:=hne j q6 q6 q6
    have h3 : p[i]≤p[j - 1]:=by
      by_cases e : i = j - 1
      · subst e;exact Int.le_refl _
      · exact List.pairwise_iff_getElem.1 hp _ _ q6 q6 q6
    omega
  have hstep : ∀ k,0 < k→∀ h : k < p.length,p[k]≠p[k - 1]→Zv p (k : Int) = some (.inl ((k + 1 : Nat) : Int)):=by
    intro k h0 h hne
    have r2 : idx p (w64 ((k : Int) - 1)) = some (p[k - 1]):=by rw [Q6 q6];exact U4 q6 q6
    have hb : (p[k] == p[k - 1]) = false:=by simpa using hne
    simp only [Zv,dlt h,cond_true,Qj h,r2,Option.bind_some,hb,cond_false,w64s h hl]
  by_cases hh : ∀ j,0 < j→∀ h : j < p.length,p[j]≠p[j - 1]
  · have h1 : loop (Zv p) 1 = some (.inl ()):=by
      exact Z8 (f:=Zv p) (fun k=>((k + 1 : Nat) : Int)) (p.length - 1) _ (fun k hk=>by
        exact hstep (k + 1) q6 q6 (hh (k + 1) q6 q6)) (by
        show Zv p (((p.length - 1) + 1 : Nat) : Int) = _
        rw [show p.length - 1 + 1 = p.length by omega]
        simp only [Zv,dnl,cond_false]) (Nat.zero_le _)
    rw [h1]
    refine ⟨p.length,p,rfl,rfl,Nat.le_refl _,?_⟩
    have:=hsort p.length (Nat.le_refl _) fun j _ h0 h=>hh j h0 h
    rw [List.take_length] at this ⊢;exact this
  · have h2 : ∃ k,(0 < k∧∃ h : k < p.length,p[k] = p[k - 1])∧∀ j,j < k→¬ (0 < j∧∃ h : j < p.length,p[j] = p[j - 1]):=by
      have : ∃ k,0 < k∧∃ h : k < p.length,p[k] = p[k - 1]:=by
        refine Classical.byContradiction fun hn=>hh fun j h0 h he=>hn ⟨j,h0,h,he⟩
      obtain ⟨k,hk⟩:=this
      induction k using Nat.strongRecOn with
      | _ k ih=>
        by_cases hj : ∃ j,j < k∧(0 < j∧∃ h : j < p.length,p[j] = p[j - 1])
        · obtain ⟨j,h1,h2⟩:=hj;exact ih j h1 h2
        · exact ⟨k,hk,fun j h1 h2=>hj ⟨j,h1,h2⟩⟩
    obtain ⟨k,⟨h0,hk,he⟩,hmin⟩:=h2
    have hso : Yi (p.take k) (p.take k):=hsort k q6 fun j hj h0 h he=>hmin j hj ⟨h0,h,he⟩
    have hso' : Yi (p.take (k + 1)) (p.take k):=by
      refine ⟨hso.1,fun x=>?_⟩
      rw [List.take_succ_eq_append_getElem hk,List.mem_append]
      refine ⟨.inl,fun h=>h.elim id fun h=>?_⟩
      simp only [List.mem_singleton] at h
      rw [h,he,List.mem_take_iff_getElem]
      exact ⟨k - 1,q6,rfl⟩
    obtain ⟨i,a,e1,e2,e3,e4⟩:=qn8 hp hl h0 hk hso'
    have s1 : sub2 p.length (k : Int) (p.length : Int) = some (k,p.length - k):=by unfold sub2;rw [if_pos ⟨q6,q6,q6⟩];simp
    have s2 : sub2 a.length (i : Int) (a.length : Int) = some (i,a.length - i):=by unfold sub2;rw [if_pos ⟨q6,q6,q6⟩];simp
    have s3 : sub2 a.length 0 (i : Int) = some (0,i):=by unfold sub2;rw [if_pos ⟨q6,q6,q6⟩];simp
    have r2 : idx p (w64 ((k : Int) - 1)) = some (p[k - 1]):=by rw [Q6 q6];exact U4 q6 q6
    have h1 : loop (Zv p) 1 = some (.inr ((0,i),clrw a (i,a.length - i) 0)):=by
      exact Z8 (f:=Zv p) (fun k=>((k + 1 : Nat) : Int)) (k - 1) _ (fun j hj=>by
        exact hstep (j + 1) q6 q6 fun he=>hmin (j + 1) q6 ⟨q6,q6,he⟩) (by
        show Zv p (((k - 1) + 1 : Nat) : Int) = _
        rw [show k - 1 + 1 = k by omega]
        have hb : (p[k] == p[k - 1]) = true:=by simpa using he
        simp only [Zv,dlt hk,cond_true,Qj hk,r2,Option.bind_some,hb,s1,e1,s2,s3]) (Nat.zero_le _)
    rw [h1]
    refine ⟨i,clrw a (i,a.length - i) 0,rfl,by rw [qg2 (by simp;omega)];exact e2,e3,?_⟩
    have : (clrw a (i,a.length - i) 0).take i = a.take i:=by
      unfold clrw splice
      rw [List.append_assoc,List.take_append_of_le_length (by simp;omega)]
      simp [List.take_take]
    rw [this];exact e4
end Go.Sh
namespace Go.Sh
open Go Go.Am
theorem q78 {α : Type} [DecidableEq α] (e : α→α→Bool) (he : ∀ v w,e v w = decide (v = w)) (p q : List α) (hl : p.length≤1000000) (f : Int→Option (Int ⊕ (Unit ⊕ Bool)))
    (hf : ∀ k,f k = cond (decide (k < (p.length : Int))) ((idx p k).bind fun v=>(idx q k).bind fun w=>cond (!(e v w)) (some (.inr (.inr false))) (some (.inl (w64 (k + 1))))) (some (.inr (.inl ())))) :
    cond ((p.length : Int) != (q.length : Int)) (some false) ((loop f 0).bind fun m=>(match m with | .inl _=>some true | .inr x=>some x)) = some (decide (p = q)):=by
  by_cases hn : p.length = q.length
  · have : ((p.length : Int) != (q.length : Int)) = false:=by rw [hn];simp
    rw [this,cond_false]
    let c : Nat→Bool:=fun k=>if h : k < p.length then !(e p[k] (q[k]'(q6))) else false
    have hs : ∀ (k : Nat) (h : k < (List.range p.length).length),f (k : Int) = some (if c (List.range p.length)[k] = true then .inr (.inr false) else .inl ((k + 1 : Nat) : Int)):=by
      intro k h
      have h : k < p.length:=by simpa using h
      rw [hf]
      simp only [dlt h,cond_true,Qj h,Qj (xs:=q) (k:=k) q6,Option.bind_some,List.getElem_range,c,dif_pos h,w64s h hl]
      cases e p[k] (q[k]'(q6)) <;> simp
    have hd : f ((List.range p.length).length : Int) = some (.inr (.inl ())):=by rw [hf];simp []
    rcases Yy (List.range p.length) c (fun _ _=>false) () f hs hd with ⟨h1,h2⟩ | ⟨k,hk,hc,_,h2⟩
    · rw [h2]
      have : p = q:=by
        refine List.ext_getElem hn fun k h3 h4=>?_
        have:=h1 k (by simpa using h3)
        simp only [c,dif_pos h3,he,Bool.not_eq_false',decide_eq_true_eq] at this
        exact this
      simp [this]
    · rw [h2]
      have hk' : k < p.length:=by simpa using hk
      have : p≠q:=by
        intro h
        simp only [List.getElem_range,c,he,h] at hc
        simp at hc
      simp [this]
  · have : ((p.length : Int) != (q.length : Int)) = true:=by simpa using (fun h : (p.length : Int) = q.length=>hn q6)
    rw [this,cond_true]
    have : p≠q:=fun h=>hn (by rw [h])
    simp [this]
theorem qgq (p q : List qm) (hl : p.length≤1000000) : q8f p q = some (decide (p = q)):=
  q78 (fun v w=>((v.Lo == w.Lo) && ((v.Hi == w.Hi) && true))) (fun v w=>by cases v;cases w;rw [Bool.eq_iff_iff];simp) p q hl (qbh p q) (fun _=>rfl)
theorem qjz (p q : List qm) (hl : p.length≤1000000) : q4k p q = some (decide (p = q)):=
  q78 (fun v w=>((v.Lo == w.Lo) && ((v.Hi == w.Hi) && true))) (fun v w=>by cases v;cases w;rw [Bool.eq_iff_iff];simp) p q hl (qay p q) (fun _=>rfl)
theorem qgp (p q : List qk) (hl : p.length≤1000000) : q8e p q = some (decide (p = q)):=
  q78 (fun v w=>((v.X0 == w.X0) && ((v.Y0 == w.Y0) && ((v.X1 == w.X1) && ((v.Y1 == w.Y1) && true))))) (fun v w=>by cases v;cases w;rw [Bool.eq_iff_iff];simp) p q hl (qbf p q) (fun _=>rfl)
theorem qjy (p q : List qk) (hl : p.length≤1000000) : q4o p q = some (decide (p = q)):=
  q78 (fun v w=>((v.X0 == w.X0) && ((v.Y0 == w.Y0) && ((v.X1 == w.X1) && ((v.Y1 == w.Y1) && true))))) (fun v w=>by cases v;cases w;rw [Bool.eq_iff_iff];simp) p q hl (qaz p q) (fun _=>rfl)
theorem sameBox (p q : List qg) (hl : p.length≤1000000) : q4v p q = some (decide (p = q)):=
  q78 (fun v w=>((v.Lo.X == w.Lo.X) && ((v.Lo.Y == w.Lo.Y) && ((v.Lo.Z == w.Lo.Z) && ((v.Hi.X == w.Hi.X) && ((v.Hi.Y == w.Hi.Y) && ((v.Hi.Z == w.Hi.Z) && true))))))) (fun v w=>by rcases v with ⟨⟨_,_,_⟩,⟨_,_,_⟩⟩;rcases w with ⟨⟨_,_,_⟩,⟨_,_,_⟩⟩;rw [Bool.eq_iff_iff];simp [and_assoc]) p q hl (qb4 p q) (fun _=>rfl)
structure Mg (σ β : Type) where
  done : List β
  sec : List σ
  lo : Int
  hi : Int
section
variable {σ β : Type} [DecidableEq σ] (put : Int→Int→σ→β)
def Mg.flat (s : Mg σ β) : List β:=s.done ++ s.sec.map (put s.lo s.hi)
def addM (s : Mg σ β) (a b : Int) (c : List σ) : Mg σ β:=if c≠[]∧c = s.sec∧s.hi = a then ⟨s.done,s.sec,s.lo,b⟩ else ⟨s.flat put,c,a,b⟩
def Qs : Mg σ β:=⟨[],[],0,0⟩
def Qw (s0 : Mg σ β) (steps : List (Int × Int × List σ)) : Mg σ β:=steps.foldl (fun s t=>addM put s t.1 t.2.1 t.2.2) s0
theorem q1e {s0 : Mg σ β} {steps : List (Int × Int × List σ)} {i : Nat} (h : i < steps.length) : Qw put s0 (steps.take (i + 1)) = addM put (Qw put s0 (steps.take i)) steps[i].1 steps[i].2.1 steps[i].2.2:=by
  unfold Qw
  rw [List.take_succ_eq_append_getElem h,List.foldl_append];rfl
theorem qc4 (s : Mg σ β) (a b : Int) (c : List σ) : (addM put s a b c).hi = b:=by unfold addM;split <;> rfl
theorem qlo (s : Mg σ β) (a b : Int) (c : List σ) : ((addM put s a b c).flat put).length≤(s.flat put).length + c.length:=by
  unfold addM;split
  · simp [Mg.flat]
  · simp [Mg.flat];omega
theorem q48 {s0 : Mg σ β} {M : Nat} : ∀ {steps : List (Int × Int × List σ)},(∀ t∈steps,t.2.2.length≤M)→((Qw put s0 steps).flat put).length≤(s0.flat put).length + steps.length * M:=by
  intro steps
  induction steps generalizing s0 with
  | nil=>intro _;simp [Qw]
  | cons t r ih=>
    intro h
    have h1:=ih (s0:=addM put s0 t.1 t.2.1 t.2.2) fun u hu=>h u (by simp [hu])
    have h2:=qlo put s0 t.1 t.2.1 t.2.2
    have h3:=h t qd
    have h4 : Qw put s0 (t::r) = Qw put (addM put s0 t.1 t.2.1 t.2.2) r:=rfl
    rw [h4]
    simp only [List.length_cons,Nat.succ_mul]
    omega
end
section
variable {σ : Type}
def Kx (cuts : List Int) (sec : Int→List σ) : List (Int × Int × List σ):=(cuts.zip cuts.tail).map fun c=>(c.1,c.2,sec c.1)
theorem q2b (cuts : List Int) (sec : Int→List σ) : (Kx cuts sec).length = cuts.length - 1:=by simp [Kx]
theorem q3v {cuts : List Int} {sec : Int→List σ} {i : Nat} (h : i < (Kx cuts sec).length) (h1 : i + 1 < cuts.length) : (Kx cuts sec)[i] = (cuts[i],cuts[i + 1],sec cuts[i]):=by
  simp [Kx]
theorem qbr {cuts : List Int} {sec : Int→List σ} {M : Nat} (h : ∀ x,(sec x).length≤M) : ∀ t∈Kx cuts sec,t.2.2.length≤M:=by
  intro t ht
  simp only [Kx,List.mem_map] at ht
  obtain ⟨c,_,rfl⟩:=ht
  exact h _
end
theorem Uf {σ β : Type} [DecidableEq σ] (put : Int→Int→σ→β) (s : Mg σ β) (a b : Int) (c : List σ) : (c≠[]∧c = s.sec∧s.hi = a∧addM put s a b c = ⟨s.done,s.sec,s.lo,b⟩)∨(¬ (c≠[]∧c = s.sec∧s.hi = a)∧addM put s a b c = ⟨s.flat put,c,a,b⟩):=by
  unfold addM
  split
  · rename_i h;exact .inl ⟨h.1,h.2.1,h.2.2,rfl⟩
  · rename_i h;exact .inr ⟨h,rfl⟩
def putR (a b : Int) (t : qm) : qk:={X0:=a,Y0:=t.Lo,X1:=b,Y1:=t.Hi}
theorem qlz (s : Mg qm qk) (a b : Int) (c : List qm) (hl : (s.flat putR).length + c.length≤1000000) :
    q83 (s.flat putR) s.sec (s.done.length : Int) s.hi a b c = some ((addM putR s a b c).sec,((addM putR s a b c).done.length : Int),(addM putR s a b c).hi,(addM putR s a b c).flat putR):=by
  have hsec : s.sec.length≤1000000:=by have : (s.flat putR).length = s.done.length + s.sec.length:=(by simp [Mg.flat]);omega
  unfold q83
  rcases Uf putR s a b c with ⟨h1,h2,h3,h4⟩ | ⟨h1,h4⟩
  · have hb : decide ((c.length : Int) > 0) = true:=decide_eq_true (by have:=List.length_pos_iff.2 h1;omega)
    have he : (s.hi == a) = true:=by simpa using h3
    rw [h2] at hb
    rw [h4,h2]
    simp only [hb,cond_true,he,Option.bind_some,qgq _ _ hsec,decide_true]
    have:=qad (fun v : qk=>({X0:=v.X0,Y0:=v.Y0,X1:=b,Y1:=v.Y1} : qk)) s.done (s.sec.map (putR s.lo s.hi)) (by have : (s.done ++ s.sec.map (putR s.lo s.hi)).length = (s.flat putR).length:=rfl;omega) (q58 b) (fun k o hk ho=>by
      have h5 : (s.done ++ s.sec.map (putR s.lo s.hi)).length = (s.flat putR).length:=rfl
      simp only [q58,dlt hk,cond_true,Qj hk,Option.bind_some,w64s hk q6,Int.toNat_natCast]) (fun o=>by simp only [q58,dnl,cond_false])
    rw [show s.flat putR = s.done ++ s.sec.map (putR s.lo s.hi) from rfl,this]
    simp only [Option.bind_some,Mg.flat,List.map_map]
    rfl
  · rw [h4]
    have hc : ((cond (decide ((c.length : Int) > 0)) (some (s.hi == a)) (some false)).bind fun c101=>(cond c101 ((q8f s.sec c).bind fun r121=>some r121) (some false))) = some false:=by
      by_cases h5 : c = []
      · subst h5;simp
      · have hb : decide ((c.length : Int) > 0) = true:=decide_eq_true (by have:=List.length_pos_iff.2 h5;omega)
        simp only [hb,cond_true,Option.bind_some,qgq _ _ hsec]
        by_cases h6 : s.hi = a
        · have h7 : s.sec≠c:=fun h=>h1 ⟨h5,h.symm,h6⟩
          simp [h6,h7]
        · have : (s.hi == a) = false:=by simpa using h6
          simp [this]
    have hap:=q4d c (putR a b) (s.flat putR) (fun o=>(c,((s.flat putR).length : Int),b,o)) (q59 c a b (s.flat putR)) (fun k hk o ho=>by
      simp only [q59,dlt hk,cond_true,Qj hk,Option.bind_some,w64s hk q6]
      rw [Kr (by simp;omega)]
      rfl) (fun o=>by simp only [q59,dnl,cond_false])
    rw [← Option.bind_assoc,hc]
    simp only [Option.bind_some,cond_false,hap]
    simp [Mg.flat]
end Go.Sh
namespace Go.Sh
open Go Go.Am
def vR (r : qk) : Prop:=r.X0 < r.X1∧r.Y0 < r.Y1∧-1000000≤r.X0∧r.X0≤1000000∧-1000000≤r.X1∧r.X1≤1000000∧-1000000≤r.Y0∧r.Y0≤1000000∧-1000000≤r.Y1∧r.Y1≤1000000
instance (r : qk) : Decidable (vR r):=by unfold vR;infer_instance
theorem qo4 (x : Int) : q1x x = some (decide (-1000000≤x∧x≤1000000)):=by
  unfold q1x
  by_cases h : x ≥ -1000000 <;> by_cases h' : x≤1000000 <;> simp [h,h'] <;> omega
theorem qyz (r : qk) : q85 r = some (decide (vR r)):=by
  unfold q85
  simp only [qo4,qna,Option.bind_some,vR]
  by_cases h1 : r.X0 < r.X1 <;> by_cases h2 : r.Y0 < r.Y1 <;> by_cases h3 : -1000000≤r.X0∧r.X0≤1000000 <;> by_cases h4 : -1000000≤r.X1∧r.X1≤1000000 <;> by_cases h5 : -1000000≤r.Y0∧r.Y0≤1000000 <;> by_cases h6 : -1000000≤r.Y1∧r.Y1≤1000000 <;> simp [h1,h2,h3,h4,h5,h6] <;> omega
def covR (x : Int) (r : qk) : Bool:=decide (r.X0≤x) && decide (x < r.X1)
def ysp (r : qk) : qm:={Lo:=r.Y0,Hi:=r.Y1}
def covS (l : List qk) (x : Int) : List qm:=l.flatMap fun r=>if covR x r = true then [ysp r] else []
def hasR (l : List qk) (x y : Int) : Prop:=∃ r∈l,r.X0≤x∧x < r.X1∧r.Y0≤y∧y < r.Y1
theorem qal {l : List qk} {x : Int} {t : qm} : t∈covS l x↔∃ r∈l,covR x r = true∧t = ysp r:=by
  unfold covS
  rw [List.mem_flatMap]
  constructor
  · rintro ⟨r,hr,h⟩
    split at h
    · rename_i hc;simp only [List.mem_singleton] at h;exact ⟨r,hr,hc,h⟩
    · cases h
  · rintro ⟨r,hr,hc,rfl⟩;exact ⟨r,hr,by simp [hc]⟩
theorem U3 {l : List qk} {x y : Int} : has (covS l x) y↔hasR l x y:=by
  unfold has hasR
  constructor
  · rintro ⟨t,ht,h1,h2⟩
    obtain ⟨r,hr,hc,rfl⟩:=qal.1 ht
    simp only [covR,Bool.and_eq_true,decide_eq_true_eq] at hc
    exact ⟨r,hr,hc.1,hc.2,h1,h2⟩
  · rintro ⟨r,hr,h1,h2,h3,h4⟩
    exact ⟨ysp r,qal.2 ⟨r,hr,by simp [covR,h1,h2],rfl⟩,h3,h4⟩
theorem q1d (l : List qk) (x : Int) : (covS l x).length≤l.length:=by
  unfold covS
  induction l with
  | nil=>simp
  | cons r l ih=>
    simp only [List.flatMap_cons,List.length_append,List.length_cons]
    have : (if covR x r = true then [ysp r] else []).length≤1:=by split <;> simp
    omega
theorem qni {l : List qk} (h : ∀ r∈l,vR r) (x : Int) : ∀ t∈covS l x,vld t:=by
  intro t ht
  obtain ⟨r,hr,_,rfl⟩:=qal.1 ht
  obtain ⟨_,h2,_,_,_,_,h3,_,_,h4⟩:=h r hr
  exact ⟨h2,h3,h4⟩
def xsOf (l : List qk) : List Int:=l.flatMap fun r=>[r.X0,r.X1]
def ysOf (l : List qk) : List Int:=l.flatMap fun r=>[r.Y0,r.Y1]
theorem q18 (l : List qk) : (xsOf l).length = 2 * l.length:=by
  unfold xsOf;induction l with
  | nil=>rfl
  | cons r l ih=>simp only [List.flatMap_cons,List.length_append,List.length_cons,List.length_nil];omega
theorem q9u (l : List qk) : (ysOf l).length = 2 * l.length:=by
  unfold ysOf;induction l with
  | nil=>rfl
  | cons r l ih=>simp only [List.flatMap_cons,List.length_append,List.length_cons,List.length_nil];omega
theorem qgn {l : List qk} {x y : Int} (h : y∈ends (covS l x)) : y∈ysOf l:=by
  obtain ⟨t,ht,h⟩:=q7k.1 h
  obtain ⟨r,hr,_,rfl⟩:=qal.1 ht
  unfold ysOf
  rw [List.mem_flatMap]
  exact ⟨r,hr,by rcases h with h | h <;> simp [h,ysp]⟩
noncomputable def Qo (l : List Int) : List Int:=(Ja l).getD []
theorem J6 {l : List Int} (hl : l.length≤1000000) : Ja l = some (Qo l)∧Yi l (Qo l)∧(Qo l).length≤l.length:=by
  obtain ⟨t,h1,h2,h3⟩:=qkv l hl
  unfold Qo;rw [h1];exact ⟨rfl,h2,h3⟩
noncomputable def secJ (kind : Int) (p q : List qk) (x : Int) : List qm:=q2q kind (covS p x) (covS q x)
theorem qbb (kind : Int) {p q : List qk} (h : p.length + q.length≤100000) (x : Int) : (secJ kind p q x).length≤2 * (p.length + q.length):=by
  have h1:=q1d p x
  have h2:=q1d q x
  have:=(q7g kind (covS p x) (covS q x) q6 q6).2.len
  unfold secJ;omega
noncomputable def mrg (kind : Int) (p q : List qk) : Mg qm qk:=Qw putR Qs (Kx (Qo (xsOf p ++ xsOf q)) (secJ kind p q))
noncomputable def mrgR (kind : Int) (p q : List qk) : List qk:=(mrg kind p q).flat putR
theorem q73 {p q : List qk} (h : p.length + q.length≤490) : Ja (xsOf p ++ xsOf q) = some (Qo (xsOf p ++ xsOf q))∧Yi (xsOf p ++ xsOf q) (Qo (xsOf p ++ xsOf q))∧(Qo (xsOf p ++ xsOf q)).length≤2 * (p.length + q.length):=by
  have h1:=q18 p
  have h2:=q18 q
  obtain ⟨a,b,c⟩:=J6 (l:=xsOf p ++ xsOf q) (by simp;omega)
  exact ⟨a,b,by simp at c;omega⟩
theorem qcv {p q : List qk} (h : p.length + q.length≤490) : Ja (ysOf p ++ ysOf q) = some (Qo (ysOf p ++ ysOf q))∧Yi (ysOf p ++ ysOf q) (Qo (ysOf p ++ ysOf q))∧(Qo (ysOf p ++ ysOf q)).length≤2 * (p.length + q.length):=by
  have h1:=q9u p
  have h2:=q9u q
  obtain ⟨a,b,c⟩:=J6 (l:=ysOf p ++ ysOf q) (by simp;omega)
  exact ⟨a,b,by simp at c;omega⟩
theorem qik (kind : Int) {p q : List qk} (h : p.length + q.length≤490) (i : Nat) :
    ((Qw putR Qs ((Kx (Qo (xsOf p ++ xsOf q)) (secJ kind p q)).take i)).flat putR).length≤980 * 980:=by
  have h1:=q48 putR (s0:=Qs) (M:=980) (steps:=(Kx (Qo (xsOf p ++ xsOf q)) (secJ kind p q)).take i) (fun t ht=>by
    have:=qbr (M:=2 * (p.length + q.length)) (fun x=>qbb kind q6 x) t (List.mem_of_mem_take ht)
    omega)
  have h2 : ((Kx (Qo (xsOf p ++ xsOf q)) (secJ kind p q)).take i).length≤980:=by
    have:=(q73 h).2.2
    rw [List.length_take,q2b];omega
  have h3 : (Qs.flat putR : List qk).length = 0:=rfl
  have h4 : ((Kx (Qo (xsOf p ++ xsOf q)) (secJ kind p q)).take i).length * 980≤980 * 980:=Nat.mul_le_mul_right _ h2
  omega
theorem qph (l : List qk) (hl : l.length≤400) :
    (((idx [l] 0).bind fun v95=>(loop (q1y v95) (0,[])).bind fun x0=>some x0).bind fun b94=>(U9 b94).bind fun e127=>(Qu e127.length b94.length).bind fun u129=>(q24 e127).bind fun e132=>(Qu e132.2.length e127.length).bind fun u134=>(q2c e132.2.length e132.1).bind fun u137=>some ((e132.2.drop e132.1.1).take e132.1.2)) = some (Qo (xsOf l)):=by
  have e0 : idx [l] 0 = some l:=rfl
  have e1 : loop (q1y l) (0,[]) = some (xsOf l):=by
    have:=Je l q6 (fun r=>[r.X0,r.X1]) [] (fun o=>o) (q1y l) (fun k hk o ho=>by
      have h8 : o.length = 2 * k:=by rw [ho,List.nil_append];have:=q18 (l.take k);rw [List.length_take,Nat.min_eq_left q6] at this;exact this
      simp only [q1y,dlt hk,cond_true,Qj hk,Option.bind_some,w64s hk q6]
      rw [Kr (by simp;omega)]
      rfl) (fun o=>by simp only [q1y,dnl,cond_false])
    rw [List.nil_append] at this
    exact this
  have hx:=q18 l
  obtain ⟨ys,s1,s2,s3⟩:=qkt (xsOf l) q6
  have hys : ys.length = (xsOf l).length:=s2.length_eq
  obtain ⟨w,a,c1,c2,c3,c4⟩:=qgb s3 q6
  obtain ⟨_,d2,_⟩:=J6 (l:=xsOf l) q6
  have huniq : a.take w = Qo (xsOf l):=by
    refine qku (l:=xsOf l) ⟨c4.1,fun x=>?_⟩ d2
    rw [c4.2 x];exact s2.mem_iff
  simp only [e0,Option.bind_some,e1,s1,Qu,hys,if_true,c1,c2,q2c]
  rw [if_pos q6]
  simp only [Option.bind_some,List.drop_zero,huniq]
theorem qpg (l : List qk) (hl : l.length≤400) (x : Int) : loop (q3c l x) (0,[]) = some (covS l x):=by
  have:=Je l q6 (fun r=>if covR x r = true then [ysp r] else []) [] (fun o=>o) (q3c l x) (fun k hk o ho=>by
    have h8 : o.length≤k:=by rw [ho,List.nil_append];have:=q1d (l.take k) x;rw [List.length_take,Nat.min_eq_left q6] at this;exact this
    simp only [q3c,dlt hk,cond_true,Qj hk,Option.bind_some,w64s hk q6]
    by_cases h1 : l[k].X0≤x
    · by_cases h2 : x < l[k].X1
      · simp only [h1,h2,decide_true,cond_true,Option.bind_some,covR,Bool.and_self,if_true]
        rw [Kr (by simp;omega)]
        rfl
      · simp only [h1,h2,decide_true,decide_false,cond_true,cond_false,Option.bind_some,covR,Bool.and_false,if_false,Bool.false_eq_true,List.append_nil]
    · simp only [h1,decide_false,cond_false,Option.bind_some,covR,Bool.false_and,if_false,Bool.false_eq_true,List.append_nil]) (fun o=>by simp only [q3c,dnl,cond_false])
  rw [List.nil_append] at this
  exact this
theorem qpi (l : List qk) (hl : l.length≤400) (hv : ∀ r∈l,vR r) : q84 l = some (if 400 < (mrgR 2 l []).length then ([],4) else (mrgR 2 l [],0)):=by
  unfold q84
  rw [qph l hl]
  simp only [Option.bind_some]
  have hcut : Qo (xsOf l ++ xsOf []) = Qo (xsOf l):=by simp [xsOf]
  obtain ⟨_,hso,hlen⟩:=q73 (p:=l) (q:=[]) (by simp;omega)
  have hml:=fun i=>qik 2 (p:=l) (q:=[]) (by simp;omega) i
  rw [hcut] at hso hlen
  have hlen : (Qo (xsOf l)).length≤2 * l.length:=by simpa using hlen
  have hmain : loop (q1z (Qo (xsOf l)) l) (1,[],0,0,[]) = some ((mrg 2 l []).sec,((mrg 2 l []).done.length : Int),(mrg 2 l []).hi,mrgR 2 l []):=by
    unfold mrgR mrg
    rw [hcut] at hml ⊢
    generalize hst : Kx (Qo (xsOf l)) (secJ 2 l []) = steps at hml ⊢
    have hsl : steps.length = (Qo (xsOf l)).length - 1:=by rw [← hst];exact q2b _ _
    have hfin : Qw putR Qs (steps.take steps.length) = Qw putR Qs steps:=by rw [List.take_length]
    have key:=Z8 (f:=q1z (Qo (xsOf l)) l) (fun k=>(((k + 1 : Nat) : Int),(Qw putR Qs (steps.take k)).sec,((Qw putR Qs (steps.take k)).done.length : Int),(Qw putR Qs (steps.take k)).hi,(Qw putR Qs (steps.take k)).flat putR))
      steps.length ((Qw putR Qs steps).sec,((Qw putR Qs steps).done.length : Int),(Qw putR Qs steps).hi,(Qw putR Qs steps).flat putR) (fun k hk=>by
        have hk1 : k + 1 < (Qo (xsOf l)).length:=by omega
        have hg : steps[k] = ((Qo (xsOf l))[k],(Qo (xsOf l))[k + 1],secJ 2 l [] (Qo (xsOf l))[k]):=by
          subst hst;exact q3v hk hk1
        have i1 : idx (Qo (xsOf l)) (w64 (((k + 1 : Nat) : Int) - 1)) = some (Qo (xsOf l))[k]:=by rw [Q6 q6];exact U4 q6 q6
        have hcl:=q1d l (Qo (xsOf l))[k]
        have hmk : q6i (covS l (Qo (xsOf l))[k]) = some (secJ 2 l [] (Qo (xsOf l))[k],0):=by
          rw [qpj]
          unfold qdn
          rw [if_neg q6,if_pos (qni hv _)]
          rfl
        have hbl:=qbb 2 (p:=l) (q:=[]) (by simp;omega) (Qo (xsOf l))[k]
        have hml':=hml k
        have hb:=qlz (Qw putR Qs (steps.take k)) (Qo (xsOf l))[k] (Qo (xsOf l))[k + 1] (secJ 2 l [] (Qo (xsOf l))[k]) (by simp at hbl;omega)
        rw [q1e putR hk,hg]
        simp only [q1z,dlt hk1,cond_true,i1,Qj hk1,Option.bind_some,show idx [l] 0 = some l from rfl,qpg l hl,hmk,hb,Bool.not_true,cond_false]
        rw [w64s hk1 q6]) (by
        rw [hfin]
        by_cases h0 : (Qo (xsOf l)).length = 0
        · have : decide (((steps.length + 1 : Nat) : Int) < ((Qo (xsOf l)).length : Int)) = false:=decide_eq_false q6
          simp only [q1z,this,cond_false]
        · have : decide (((steps.length + 1 : Nat) : Int) < ((Qo (xsOf l)).length : Int)) = false:=decide_eq_false q6
          simp only [q1z,this,cond_false]) (Nat.zero_le _)
    exact key
  rw [hmain]
  simp only [Option.bind_some]
  by_cases h4 : 400 < (mrgR 2 l []).length
  · rw [decide_eq_true (by omega : ((mrgR 2 l []).length : Int) > 400),if_pos h4];rfl
  · rw [decide_eq_false (by omega : ¬ ((mrgR 2 l []).length : Int) > 400),if_neg h4];rfl
end Go.Sh
namespace Go.Sh
open Go Go.Am
theorem qrv {p q : List qk} (h : p.length + q.length≤490) : q7v p q = some (Qo (xsOf p ++ xsOf q)):=by
  have e1 : loop (q2y p) (0,[]) = some (xsOf p):=by
    have:=Je p q6 (fun r=>[r.X0,r.X1]) [] (fun o=>o) (q2y p) (fun k hk o ho=>by
      have h8 : o.length = 2 * k:=by rw [ho,List.nil_append];have:=q18 (p.take k);rw [List.length_take,Nat.min_eq_left q6] at this;exact this
      simp only [q2y,dlt hk,cond_true,Qj hk,Option.bind_some,w64s hk q6]
      rw [Kr (by simp;omega)]
      rfl) (fun o=>by simp only [q2y,dnl,cond_false])
    rw [List.nil_append] at this
    exact this
  have e2 : loop (q2z q) (0,xsOf p) = some (xsOf p ++ xsOf q):=by
    have hp:=q18 p
    exact Je q q6 (fun r=>[r.X0,r.X1]) (xsOf p) (fun o=>o) (q2z q) (fun k hk o ho=>by
      have h8 : o.length = 2 * p.length + 2 * k:=by
        rw [ho,List.length_append,hp];have:=q18 (q.take k);rw [List.length_take,Nat.min_eq_left q6] at this
        unfold xsOf at this;omega
      simp only [q2z,dlt hk,cond_true,Qj hk,Option.bind_some,w64s hk q6]
      rw [Kr (by simp;omega)]
      rfl) (fun o=>by simp only [q2z,dnl,cond_false])
  unfold q7v
  simp only [e1,e2,Option.bind_some,(q73 h).1]
theorem qrx {p q : List qk} (h : p.length + q.length≤490) : q7w p q = some (Qo (ysOf p ++ ysOf q)):=by
  have e1 : loop (q30 p) (0,[]) = some (ysOf p):=by
    have:=Je p q6 (fun r=>[r.Y0,r.Y1]) [] (fun o=>o) (q30 p) (fun k hk o ho=>by
      have h8 : o.length = 2 * k:=by rw [ho,List.nil_append];have:=q9u (p.take k);rw [List.length_take,Nat.min_eq_left q6] at this;exact this
      simp only [q30,dlt hk,cond_true,Qj hk,Option.bind_some,w64s hk q6]
      rw [Kr (by simp;omega)]
      rfl) (fun o=>by simp only [q30,dnl,cond_false])
    rw [List.nil_append] at this
    exact this
  have e2 : loop (q31 q) (0,ysOf p) = some (ysOf p ++ ysOf q):=by
    have hp:=q9u p
    exact Je q q6 (fun r=>[r.Y0,r.Y1]) (ysOf p) (fun o=>o) (q31 q) (fun k hk o ho=>by
      have h8 : o.length = 2 * p.length + 2 * k:=by
        rw [ho,List.length_append,hp];have:=q9u (q.take k);rw [List.length_take,Nat.min_eq_left q6] at this
        unfold ysOf at this;omega
      simp only [q31,dlt hk,cond_true,Qj hk,Option.bind_some,w64s hk q6]
      rw [Kr (by simp;omega)]
      rfl) (fun o=>by simp only [q31,dnl,cond_false])
  unfold q7w
  simp only [e1,e2,Option.bind_some,(qcv h).1]
open Classical in
theorem qja (l : List qk) (x y : Int) (hl : l.length≤1000000) : q4l l x y = some (decide (hasR l x y)):=by
  let c : qk→Bool:=fun r=>decide (r.X0≤x) && (decide (x < r.X1) && (decide (r.Y0≤y) && decide (y < r.Y1)))
  have hs : ∀ (k : Nat) (h : k < l.length),q1s l x y (k : Int) = some (if c l[k] = true then .inr (.inr true) else .inl ((k + 1 : Nat) : Int)):=by
    intro k h
    simp only [q1s,dlt h,cond_true,Qj h,Option.bind_some,w64s h hl,c]
    by_cases h1 : l[k].X0≤x <;> by_cases h2 : x < l[k].X1 <;> by_cases h3 : l[k].Y0≤y <;> by_cases h4 : y < l[k].Y1 <;> simp [h1,h2,h3,h4]
  have hd : q1s l x y (l.length : Int) = some (.inr (.inl ())):=by simp only [q1s,dnl,cond_false]
  unfold q4l
  rcases Yy l c (fun _ _=>true) () (q1s l x y) hs hd with ⟨h1,h2⟩ | ⟨k,hk,hc,_,h2⟩
  · rw [h2]
    have : ¬ hasR l x y:=by
      rintro ⟨r,hr,a1,a2,a3,a4⟩
      have:=h1 r hr
      simp [c,a1,a2,a3,a4] at this
    simp [this]
  · rw [h2]
    have : hasR l x y:=by
      simp only [c,Bool.and_eq_true,decide_eq_true_eq] at hc
      exact ⟨l[k],List.getElem_mem hk,hc.1,hc.2.1,hc.2.2.1,hc.2.2.2⟩
    simp [this]
theorem qde {kind : Int} {a b : Prop} (h : Kv kind a b) : a∨b:=by
  rcases h with ⟨_,h,_⟩ | ⟨_,h⟩ | ⟨_,_,h,_⟩
  · exact .inl h
  · exact h
  · exact .inl h
theorem qdd {kind : Int} {a b a' b' : Prop} (h1 : a↔a') (h2 : b↔b') : Kv kind a b↔Kv kind a' b':=by
  unfold Kv;rw [h1,h2]
open Classical in
theorem qmf (kind : Int) {p q : List qk} (h : p.length + q.length≤490) (x : Int) :
    q2s (Qo (ysOf p ++ ysOf q)) ((Qo (ysOf p ++ ysOf q)).map fun y=>decide (Kv kind (hasR p x y) (hasR q x y))) = some (secJ kind p q x):=by
  obtain ⟨_,hso,hlen⟩:=qcv h
  generalize Qo (ysOf p ++ ysOf q) = ys at hso hlen ⊢
  obtain ⟨c,h1,h2⟩:=qft ys (ys.map fun y=>decide (Kv kind (hasR p x y) (hasR q x y))) hso.1 q6 qd
  rw [h1]
  have cp:=q1d p x
  have cq:=q1d q x
  have hj:=(q7g kind (covS p x) (covS q x) q6 q6).2
  have mp : ∀ z∈ends (covS p x),z∈ys:=fun z hz=>(hso.2 z).2 (List.mem_append.2 (.inl (qgn hz)))
  have mq : ∀ z∈ends (covS q x),z∈ys:=fun z hz=>(hso.2 z).2 (List.mem_append.2 (.inr (qgn hz)))
  congr 1
  refine q6y h2.can hj.can fun z=>?_
  unfold secJ
  rw [h2.pts z,hj.pts z]
  constructor
  · rintro ⟨i,hi,hi',_,hin,a1,a2⟩
    simp only [List.getElem_map,decide_eq_true_eq] at hin
    refine (qdd ?_ ?_).2 hin
    · rw [q23 hso.1 mp hi a1 a2,U3]
    · rw [q23 hso.1 mq hi a1 a2,U3]
  · intro hh
    have : ∃ i,∃ (h : i + 1 < ys.length),ys[i]≤z∧z < ys[i + 1]:=by
      rcases qde hh with h | h
      · exact qag hso.1 mp h
      · exact qag hso.1 mq h
    obtain ⟨i,hi,a1,a2⟩:=this
    refine ⟨i,hi,by simp;omega,q6,?_,a1,a2⟩
    simp only [List.getElem_map,decide_eq_true_eq]
    refine (qdd ?_ ?_).1 hh
    · rw [q23 hso.1 mp hi a1 a2,U3]
    · rw [q23 hso.1 mq hi a1 a2,U3]
open Classical in
theorem qp2 (kind : Int) {p q : List qk} (h : p.length + q.length≤490) (ys xs : List Int) (hy : ys.length≤1000000) (i : Nat) (hi : i < xs.length) (a : List qm × Int × Int × List qk) (ha : a.2.2.1 = i) :
    loop (q2w ys xs a p q kind) (0,[]) = some (ys.map fun y=>decide (Kv kind (hasR p xs[i] y) (hasR q xs[i] y))):=by
  have:=q4d ys (fun y=>decide (Kv kind (hasR p xs[i] y) (hasR q xs[i] y))) [] (fun o=>o) (q2w ys xs a p q kind) (fun k hk o ho=>by
    simp only [q2w,dlt hk,cond_true,ha,Qj hk,Qj hi,Option.bind_some,qja p _ _ q6,qja q _ _ q6,qhq,w64s hk hy]
    rw [Kr (by simp at ho ⊢;omega)]
    rfl) (fun o=>by simp only [q2w,dnl,cond_false])
  rw [List.nil_append] at this
  exact this
theorem qp3 (kind : Int) {p q : List qk} (h : p.length + q.length≤490) {xs : List Int} (hx : xs.length≤1000000) {i : Nat} (hi : i + 1 < xs.length) (s : Mg qm qk) (hl : (s.flat putR).length + (secJ kind p q xs[i]).length≤1000000)
    (h0 : i = 0→s.sec = []) (h1 : 0 < i→s.hi = xs[i]) :
    q1t xs (Qo (ysOf p ++ ysOf q)) p q kind (s.sec,(s.done.length : Int),(i : Int),s.flat putR) =
      some (.inl ((addM putR s xs[i] xs[i + 1] (secJ kind p q xs[i])).sec,((addM putR s xs[i] xs[i + 1] (secJ kind p q xs[i])).done.length : Int),((i + 1 : Nat) : Int),(addM putR s xs[i] xs[i + 1] (secJ kind p q xs[i])).flat putR)):=by
  have hi0 : i < xs.length:=by omega
  have hw : w64 ((i : Int) + 1) = ((i + 1 : Nat) : Int):=w64s hi0 hx
  have hy:=(qcv h).2.2
  have hfl : (s.flat putR).length = s.done.length + s.sec.length:=by simp [Mg.flat]
  have hins:=qp2 kind h (Qo (ysOf p ++ ysOf q)) xs q6 i hi0 (s.sec,(s.done.length : Int),(i : Int),s.flat putR) rfl
  unfold q1t
  simp only [hw,dlt hi,cond_true,hins,Option.bind_some,qmf kind h]
  generalize hc : secJ kind p q xs[i] = c at hl ⊢
  by_cases hsame : 0 < i∧c = s.sec
  · obtain ⟨hpos,hcs⟩:=hsame
    have hb : decide ((i : Int) > 0) = true:=decide_eq_true q6
    have hext:=qad (fun v : qk=>({X0:=v.X0,Y0:=v.Y0,X1:=xs[i + 1],Y1:=v.Y1} : qk)) s.done (s.sec.map (putR s.lo s.hi)) (by simp;omega) (q2x xs (s.sec,(s.done.length : Int),(i : Int),s.flat putR)) (fun k o hk ho=>by
      have h5 : (s.done ++ s.sec.map (putR s.lo s.hi)).length = (s.flat putR).length:=rfl
      simp only [q2x,dlt hk,cond_true,Qj hk,Qj hi,hw,Option.bind_some,w64s hk q6,Int.toNat_natCast]) (fun o=>by simp only [q2x,dnl,cond_false])
    have hsp : q4k c s.sec = some true:=by rw [qjz _ _ q6];simp [hcs]
    have hext : loop (q2x xs (s.sec,(s.done.length : Int),(i : Int),s.flat putR)) ((s.done.length : Int),s.flat putR) = _:=hext
    simp only [hb,cond_true,hsp,Option.bind_some,hext]
    rcases Uf putR s xs[i] xs[i + 1] c with ⟨_,_,_,h4⟩ | ⟨h3,h4⟩
    · rw [h4]
      simp only [Mg.flat,List.map_map]
      rfl
    · have hnil : c = []:=Classical.byContradiction fun hn=>h3 ⟨hn,hcs,h1 hpos⟩
      rw [h4]
      simp [Mg.flat,← hcs,hnil]
  · have hcnd : (cond (decide ((i : Int) > 0)) ((q4k c s.sec).bind fun r721=>some r721) (some false)) = some false:=by
      by_cases hpos : 0 < i
      · have hb : decide ((i : Int) > 0) = true:=decide_eq_true q6
        have hne : c≠s.sec:=fun h=>hsame ⟨hpos,h⟩
        rw [hb,cond_true,qjz _ _ q6]
        simp [hne]
      · have hb : decide ((i : Int) > 0) = false:=decide_eq_false q6
        rw [hb,cond_false]
    have hap:=q4d c (putR xs[i] xs[i + 1]) (s.flat putR) (fun o=>(c,((s.flat putR).length : Int),o)) (q4m c xs (s.sec,(s.done.length : Int),(i : Int),s.flat putR)) (fun k hk o ho=>by
      simp only [q4m,dlt hk,cond_true,Qj hk,Qj hi0,Qj hi,hw,Option.bind_some,w64s hk q6]
      rw [Kr (by simp;omega)]
      rfl) (fun o=>by simp only [q4m,dnl,cond_false])
    have h4 : addM putR s xs[i] xs[i + 1] c = ⟨s.flat putR,c,xs[i],xs[i + 1]⟩:=by
      rcases Uf putR s xs[i] xs[i + 1] c with ⟨g1,g2,_,_⟩ | ⟨_,h4⟩
      · refine absurd ?_ hsame
        refine ⟨Nat.pos_of_ne_zero fun h=>g1 ?_,g2⟩
        rw [g2,h0 h]
      · exact h4
    rw [h4]
    simp only [hcnd,Option.bind_some,cond_false,hap]
    simp [Mg.flat]
theorem q4n (kind : Int) {p q : List qk} (h : p.length + q.length≤490) : Zs kind p q = some (mrgR kind p q):=by
  unfold Zs
  rw [qrv h,qrx h]
  simp only [Option.bind_some]
  obtain ⟨_,hso,hlen⟩:=q73 h
  have hml:=fun i=>qik kind h i
  unfold mrgR mrg
  generalize Qo (xsOf p ++ xsOf q) = xs at hso hlen hml ⊢
  generalize hst : Kx xs (secJ kind p q) = steps at hml ⊢
  have hsl : steps.length = xs.length - 1:=by rw [← hst];exact q2b _ _
  have key:=Z8 (f:=q1t xs (Qo (ysOf p ++ ysOf q)) p q kind) (fun k=>((Qw putR Qs (steps.take k)).sec,((Qw putR Qs (steps.take k)).done.length : Int),(k : Int),(Qw putR Qs (steps.take k)).flat putR))
    steps.length ((Qw putR Qs steps).flat putR) (fun k hk=>by
      have hk1 : k + 1 < xs.length:=by omega
      have hg : steps[k] = (xs[k],xs[k + 1],secJ kind p q xs[k]):=by subst hst;exact q3v hk hk1
      have hbl:=qbb kind (p:=p) (q:=q) q6 xs[k]
      have hml':=hml k
      have:=qp3 kind h (xs:=xs) q6 hk1 (Qw putR Qs (steps.take k)) q6 (fun h0=>by subst h0;rfl) (fun hpos=>by
        obtain ⟨m,rfl⟩ : ∃ m,k = m + 1:=⟨k - 1,q6⟩
        rw [q1e putR q6,qc4]
        subst hst
        rw [q3v q6 q6])
      rw [this,q1e putR hk,hg]) (by
      rw [List.take_length]
      have hb : decide (w64 ((steps.length : Int) + 1) < (xs.length : Int)) = false:=by
        rw [Q6 q6];exact decide_eq_false q6
      unfold q1t
      simp only [hb,cond_false]) (Nat.zero_le _)
  have key : loop (q1t xs (Qo (ysOf p ++ ysOf q)) p q kind) ([],0,0,[]) = some ((Qw putR Qs steps).flat putR):=key
  rw [key];rfl
end Go.Sh
namespace Go.Sh
open Go Go.Am
def putB (a b : Int) (r : qk) : qg:={Lo:={X:=r.X0,Y:=r.Y0,Z:=a},Hi:={X:=r.X1,Y:=r.Y1,Z:=b}}
def qgz (z : Int) : Prop:=-1000000≤z∧z≤1000000
instance (z : Int) : Decidable (qgz z):=by unfold qgz;infer_instance
end Go.Sh
namespace Go.Sh
open Go Go.Am
def covB (z : Int) (b : qg) : Bool:=decide (b.Lo.Z≤z) && decide (z < b.Hi.Z)
def Zu (b : qg) : qk:={X0:=b.Lo.X,Y0:=b.Lo.Y,X1:=b.Hi.X,Y1:=b.Hi.Y}
def atB (l : List qg) (z : Int) : List qk:=l.flatMap fun b=>if covB z b = true then [Zu b] else []
theorem Zd (l : List qg) (x : Int) : (atB l x).length≤l.length:=by
  unfold atB
  induction l with
  | nil=>simp
  | cons r l ih=>
    simp only [List.flatMap_cons,List.length_append,List.length_cons]
    have : (if covB x r = true then [Zu r] else []).length≤1:=by split <;> simp
    omega
theorem qb1 (l : List qg) (hl : l.length≤1000000) (z : Int) : Jb l z = some (atB l z):=by
  have:=Je l hl (fun b=>if covB z b = true then [Zu b] else []) [] (fun o=>o) (q4s l z) (fun k hk o ho=>by
    have h8 : o.length≤k:=by rw [ho,List.nil_append];have:=Zd (l.take k) z;rw [List.length_take,Nat.min_eq_left q6] at this;exact this
    simp only [q4s,dlt hk,cond_true,Qj hk,Option.bind_some,w64s hk hl]
    by_cases h1 : l[k].Lo.Z≤z
    · by_cases h2 : z < l[k].Hi.Z
      · simp only [h1,h2,decide_true,cond_true,Option.bind_some,covB,Bool.and_self,if_true]
        rw [Kr (by simp;omega)]
        rfl
      · simp only [h1,h2,decide_true,decide_false,cond_true,cond_false,Option.bind_some,covB,Bool.and_false,if_false,Bool.false_eq_true,List.append_nil]
    · simp only [h1,decide_false,cond_false,Option.bind_some,covB,Bool.false_and,if_false,Bool.false_eq_true,List.append_nil]) (fun o=>by simp only [q4s,dnl,cond_false])
  rw [List.nil_append] at this
  unfold Jb
  rw [this];rfl
def zsOf (l : List qg) : List Int:=l.flatMap fun b=>[b.Lo.Z,b.Hi.Z]
theorem Z5 (l : List qg) : (zsOf l).length = 2 * l.length:=by
  unfold zsOf;induction l with
  | nil=>rfl
  | cons r l ih=>simp only [List.flatMap_cons,List.length_append,List.length_cons,List.length_nil];omega
theorem qjg {p q : List qg} (h : p.length + q.length≤100000) : q7x p q = some (Qo (zsOf p ++ zsOf q)):=by
  have e1 : loop (q34 p) (0,[]) = some (zsOf p):=by
    have:=Je p q6 (fun r=>[r.Lo.Z,r.Hi.Z]) [] (fun o=>o) (q34 p) (fun k hk o ho=>by
      have h8 : o.length = 2 * k:=by rw [ho,List.nil_append];have:=Z5 (p.take k);rw [List.length_take,Nat.min_eq_left q6] at this;exact this
      simp only [q34,dlt hk,cond_true,Qj hk,Option.bind_some,w64s hk q6]
      rw [Kr (by simp;omega)]
      rfl) (fun o=>by simp only [q34,dnl,cond_false])
    rw [List.nil_append] at this
    exact this
  have e2 : loop (q35 q) (0,zsOf p) = some (zsOf p ++ zsOf q):=by
    have hp:=Z5 p
    exact Je q q6 (fun r=>[r.Lo.Z,r.Hi.Z]) (zsOf p) (fun o=>o) (q35 q) (fun k hk o ho=>by
      have h8 : o.length = 2 * p.length + 2 * k:=by
        rw [ho,List.length_append,hp];have:=Z5 (q.take k);rw [List.length_take,Nat.min_eq_left q6] at this
        unfold zsOf at this;omega
      simp only [q35,dlt hk,cond_true,Qj hk,Option.bind_some,w64s hk q6]
      rw [Kr (by simp;omega)]
      rfl) (fun o=>by simp only [q35,dnl,cond_false])
  have h1:=Z5 p
  have h2:=Z5 q
  unfold q7x
  simp only [e1,e2,Option.bind_some,(J6 (l:=zsOf p ++ zsOf q) (by simp;omega)).1]
structure q9x (kind : Int) (p q : List qg) (z : Int) : Prop where
  n : (atB p z).length + (atB q z).length≤490
  m : (mrgR kind (atB p z) (atB q z)).length≤400
  mp : (mrgR 2 (atB p z) []).length≤400
  mq : (mrgR 2 (atB q z) []).length≤400
noncomputable def secB (kind : Int) (p q : List qg) (z : Int) : List qk:=mrgR kind (atB p z) (atB q z)
theorem qhu (kind : Int) {p q : List qg} (h : p.length + q.length≤100000) {xs : List Int} (hx : xs.length≤1000000) {i : Nat} (hi : i + 1 < xs.length) (hok : q9x kind p q xs[i]) (s : Mg qk qg) (hl : (s.flat putB).length + 400≤1000000)
    (h0 : i = 0→s.sec = []) (h1 : 0 < i→s.hi = xs[i]) :
    Jc xs p q kind (s.sec,(s.done.length : Int),(i : Int),s.flat putB) =
      some (.inl ((addM putB s xs[i] xs[i + 1] (secB kind p q xs[i])).sec,((addM putB s xs[i] xs[i + 1] (secB kind p q xs[i])).done.length : Int),((i + 1 : Nat) : Int),(addM putB s xs[i] xs[i + 1] (secB kind p q xs[i])).flat putB)):=by
  have hi0 : i < xs.length:=by omega
  have hw : w64 ((i : Int) + 1) = ((i + 1 : Nat) : Int):=w64s hi0 hx
  have hfl : (s.flat putB).length = s.done.length + s.sec.length:=by simp [Mg.flat]
  obtain ⟨hn,hm,hmp,hmq⟩:=hok
  have ap : Jb p xs[i] = some (atB p xs[i]):=qb1 p q6 _
  have aq : Jb q xs[i] = some (atB q xs[i]):=qb1 q q6 _
  have jj : Zs kind (atB p xs[i]) (atB q xs[i]) = some (secB kind p q xs[i]):=q4n kind hn
  have jp : Zs 2 (atB p xs[i]) [] = some (mrgR 2 (atB p xs[i]) []):=q4n 2 (by simp;omega)
  have jq : Zs 2 (atB q xs[i]) [] = some (mrgR 2 (atB q xs[i]) []):=q4n 2 (by simp;omega)
  have hm : (secB kind p q xs[i]).length≤400:=hm
  have d1 : decide (((secB kind p q xs[i]).length : Int) > 400) = false:=decide_eq_false q6
  have d2 : decide (((mrgR 2 (atB p xs[i]) []).length : Int) > 400) = false:=decide_eq_false q6
  have d3 : decide (((mrgR 2 (atB q xs[i]) []).length : Int) > 400) = false:=decide_eq_false q6
  unfold Jc
  simp only [hw,dlt hi,cond_true,Qj hi0,ap,aq,jj,jp,jq,d1,d2,d3,cond_false,Option.bind_some]
  generalize hc : secB kind p q xs[i] = c at hm ⊢
  by_cases hsame : 0 < i∧c = s.sec
  · obtain ⟨hpos,hcs⟩:=hsame
    have hb : decide ((i : Int) > 0) = true:=decide_eq_true q6
    have hext:=qad (fun v : qg=>({Lo:=v.Lo,Hi:=({X:=v.Hi.X,Y:=v.Hi.Y,Z:=xs[i + 1]} : qv)} : qg)) s.done (s.sec.map (putB s.lo s.hi)) (by simp;omega) (q36 xs (s.sec,(s.done.length : Int),(i : Int),s.flat putB)) (fun k o hk ho=>by
      have h5 : (s.done ++ s.sec.map (putB s.lo s.hi)).length = (s.flat putB).length:=rfl
      simp only [q36,dlt hk,cond_true,Qj hk,Qj hi,hw,Option.bind_some,w64s hk q6,Int.toNat_natCast]) (fun o=>by simp only [q36,dnl,cond_false])
    have hsp : q4o c s.sec = some true:=by rw [qjy _ _ q6];simp [hcs]
    have hext : loop (q36 xs (s.sec,(s.done.length : Int),(i : Int),s.flat putB)) ((s.done.length : Int),s.flat putB) = _:=hext
    simp only [hb,cond_true,hsp,Option.bind_some,hext]
    rcases Uf putB s xs[i] xs[i + 1] c with ⟨_,_,_,h4⟩ | ⟨h3,h4⟩
    · rw [h4]
      simp only [Mg.flat,List.map_map]
      rfl
    · have hnil : c = []:=Classical.byContradiction fun hn=>h3 ⟨hn,hcs,h1 hpos⟩
      rw [h4]
      simp [Mg.flat,← hcs,hnil]
  · have hcnd : (cond (decide ((i : Int) > 0)) ((q4o c s.sec).bind fun r721=>some r721) (some false)) = some false:=by
      by_cases hpos : 0 < i
      · have hb : decide ((i : Int) > 0) = true:=decide_eq_true q6
        have hne : c≠s.sec:=fun h=>hsame ⟨hpos,h⟩
        rw [hb,cond_true,qjy _ _ q6]
        simp [hne]
      · have hb : decide ((i : Int) > 0) = false:=decide_eq_false q6
        rw [hb,cond_false]
    have hap:=q4d c (putB xs[i] xs[i + 1]) (s.flat putB) (fun o=>(c,((s.flat putB).length : Int),o)) (q4u c xs (s.sec,(s.done.length : Int),(i : Int),s.flat putB)) (fun k hk o ho=>by
      simp only [q4u,dlt hk,cond_true,Qj hk,Qj hi0,Qj hi,hw,Option.bind_some,w64s hk q6]
      rw [Kr (by simp;omega)]
      rfl) (fun o=>by simp only [q4u,dnl,cond_false])
    have h4 : addM putB s xs[i] xs[i + 1] c = ⟨s.flat putB,c,xs[i],xs[i + 1]⟩:=by
      rcases Uf putB s xs[i] xs[i + 1] c with ⟨g1,g2,_,_⟩ | ⟨_,h4⟩
      · refine absurd ?_ hsame
        refine ⟨Nat.pos_of_ne_zero fun h=>g1 ?_,g2⟩
        rw [g2,h0 h]
      · exact h4
    rw [h4]
    simp only [hcnd,Option.bind_some,cond_false,hap]
    simp [Mg.flat]
noncomputable def mrgB (kind : Int) (p q : List qg) : List qg:=(Qw putB Qs (Kx (Qo (zsOf p ++ zsOf q)) (secB kind p q))).flat putB
theorem qs2 (kind : Int) {p q : List qg} (h : p.length + q.length≤100000) (hok : ∀ z,q9x kind p q z) (hcl : (Qo (zsOf p ++ zsOf q)).length≤2000) :
    Jn kind p q = some (mrgB kind p q,decide (((mrgB kind p q).length : Int)≤400)):=by
  unfold Jn
  rw [qjg h]
  simp only [Option.bind_some]
  unfold mrgB
  generalize Qo (zsOf p ++ zsOf q) = xs at hcl ⊢
  generalize hst : Kx xs (secB kind p q) = steps
  have hsl : steps.length = xs.length - 1:=by rw [← hst];exact q2b _ _
  have hml : ∀ i,((Qw putB Qs (steps.take i)).flat putB).length≤2000 * 400:=fun i=>by
    have h1:=q48 putB (s0:=Qs) (M:=400) (steps:=steps.take i) (fun t ht=>by
      subst hst
      exact qbr (M:=400) (fun x=>(hok x).m) t (List.mem_of_mem_take ht))
    have h2 : (steps.take i).length≤2000:=by rw [List.length_take];omega
    have h3 : (Qs.flat putB : List qg).length = 0:=rfl
    have h4 : (steps.take i).length * 400≤2000 * 400:=Nat.mul_le_mul_right _ h2
    omega
  have key:=Z8 (f:=Jc xs p q kind) (fun k=>((Qw putB Qs (steps.take k)).sec,((Qw putB Qs (steps.take k)).done.length : Int),(k : Int),(Qw putB Qs (steps.take k)).flat putB))
    steps.length (.inl ((Qw putB Qs steps).flat putB)) (fun k hk=>by
      have hk1 : k + 1 < xs.length:=by omega
      have hg : steps[k] = (xs[k],xs[k + 1],secB kind p q xs[k]):=by subst hst;exact q3v hk hk1
      have hml':=hml k
      have:=qhu kind h (xs:=xs) q6 hk1 (hok _) (Qw putB Qs (steps.take k)) q6 (fun h0=>by subst h0;rfl) (fun hpos=>by
        obtain ⟨m,rfl⟩ : ∃ m,k = m + 1:=⟨k - 1,q6⟩
        rw [q1e putB q6,qc4]
        subst hst
        rw [q3v q6 q6])
      rw [this,q1e putB hk,hg]) (by
      rw [List.take_length]
      have hb : decide (w64 ((steps.length : Int) + 1) < (xs.length : Int)) = false:=by
        rw [Q6 q6];exact decide_eq_false q6
      unfold Jc
      simp only [hb,cond_false]) (Nat.zero_le _)
  have key : loop (Jc xs p q kind) ([],0,0,[]) = some (.inl ((Qw putB Qs steps).flat putB)):=key
  rw [key];rfl
section
variable {σ β : Type} (put : Int→Int→σ→β)
def Alike (s t : Mg σ β) : Prop:=s = t∨(s.flat put = t.flat put∧s.sec = []∧t.sec = [])
theorem Alike.flat {s t : Mg σ β} (h : Alike put s t) : s.flat put = t.flat put:=by
  rcases h with rfl | h
  · rfl
  · exact h.1
end
section
variable {σ β : Type} [DecidableEq σ] (put : Int→Int→σ→β)
def runM (sec : Int→List σ) : Mg σ β→List Int→Mg σ β
  | s,a::b::r=>runM sec (addM put s a b (sec a)) (b::r)
  | s,_=>s
theorem qh2 (sec : Int→List σ) : ∀ (cuts : List Int) (s : Mg σ β),Qw put s (Kx cuts sec) = runM put sec s cuts
  | [],s=>rfl
  | [a],s=>rfl
  | a::b::r,s=>by
    have:=qh2 sec (b::r) (addM put s a b (sec a))
    simp only [runM,← this]
    rfl
theorem Alike.add {s t : Mg σ β} (h : Alike put s t) (a b : Int) (c : List σ) : Alike put (addM put s a b c) (addM put t a b c):=by
  rcases h with rfl | ⟨h1,h2,h3⟩
  · exact .inl rfl
  · refine .inl ?_
    rcases Uf put s a b c with ⟨g1,g2,_,_⟩ | ⟨_,g4⟩
    · exact absurd (g2.trans h2) g1
    · rcases Uf put t a b c with ⟨e1,e2,_,_⟩ | ⟨_,e4⟩
      · exact absurd (e2.trans h3) e1
      · rw [g4,e4,h1]
end
end Go.Sh
namespace Go.Sh
open Go Go.Am
structure Grp (σ : Type) where
  lo : Int
  hi : Int
  sec : List σ
section
variable {σ β : Type}
def CanG (gs : List (Grp σ)) : Prop:=(∀ g∈gs,g.lo < g.hi∧g.sec≠[])∧gs.Pairwise (fun g h=>g.hi≤h.lo∧(g.hi = h.lo→g.sec≠h.sec))
def secG : List (Grp σ)→Int→List σ
  | [],_=>[]
  | g::r,x=>if g.lo≤x∧x < g.hi then g.sec else secG r x
def Kq (put : Int→Int→σ→β) (gs : List (Grp σ)) : List β:=gs.flatMap fun g=>g.sec.map (put g.lo g.hi)
theorem qo5 (put : Int→Int→σ→β) (a b : List (Grp σ)) : Kq put (a ++ b) = Kq put a ++ Kq put b:=by simp [Kq]
theorem q22 {y x : Int} : ∀ {r : List (Grp σ)},(∀ h∈r,y≤h.lo)→x < y→secG r x = []
  | [],_,_=>rfl
  | g::r,h,hx=>by
    have:=h g qd
    rw [secG,if_neg q6]
    exact q22 (fun k hk=>h k (by simp [hk])) hx
theorem q5c {y x : Int} : ∀ {r : List (Grp σ)},(∀ h∈r,h.hi≤y)→y≤x→secG r x = []
  | [],_,_=>rfl
  | g::r,h,hx=>by
    have:=h g qd
    rw [secG,if_neg q6]
    exact q5c (fun k hk=>h k (by simp [hk])) hx
theorem q87 {x : Int} : ∀ {a b : List (Grp σ)},secG a x = []→(∀ g∈a,g.sec≠[])→secG (a ++ b) x = secG b x
  | [],_,_,_=>rfl
  | g::a,b,h,hne=>by
    rw [secG] at h
    split at h
    · exact absurd h (hne g qd)
    · rename_i hx
      rw [List.cons_append,secG,if_neg hx]
      exact q87 h fun k hk=>hne k (by simp [hk])
theorem qen {y x : Int} {a b : List (Grp σ)} (hb : ∀ h∈b,y≤h.lo) (hx : x < y) : secG (a ++ b) x = secG a x:=by
  induction a with
  | nil=>exact q22 hb hx
  | cons g a ih=>simp only [List.cons_append,secG,ih]
theorem CanG.tail {g : Grp σ} {r : List (Grp σ)} (h : CanG (g::r)) : CanG r:=⟨fun k hk=>h.1 k (by simp [hk]),(List.pairwise_cons.1 h.2).2⟩
theorem CanG.nxt {g : Grp σ} {r : List (Grp σ)} (h : CanG (g::r)) : ∀ k∈r,g.hi≤k.lo∧(g.hi = k.lo→g.sec≠k.sec):=(List.pairwise_cons.1 h.2).1
theorem q21 {g : Grp σ} {r : List (Grp σ)} {x : Int} (h1 : g.lo≤x) (h2 : x < g.hi) : secG (g::r) x = g.sec:=by rw [secG,if_pos ⟨h1,h2⟩]
theorem qua {g : Grp σ} {r : List (Grp σ)} (h : CanG (g::r)) : secG (g::r) g.hi≠g.sec:=by
  rw [secG,if_neg q6]
  cases r with
  | nil=>exact fun e=>(h.1 g qd).2 e.symm
  | cons k r=>
    have hk:=h.nxt k qd
    have hk2:=h.tail.1 k qd
    by_cases he : g.hi = k.lo
    · rw [q21 q6 q6];exact fun e=>hk.2 he e.symm
    · rw [secG,if_neg q6,q22 (y:=k.hi) (fun m hm=>(h.tail.nxt m hm).1) q6]
      exact fun e=>(h.1 g qd).2 e.symm
theorem qci : ∀ {a b : List (Grp σ)},CanG a→CanG b→(∀ x,secG a x = secG b x)→a = b
  | [],[],_,_,_=>rfl
  | [],g::r,_,hb,h=>by
    have:=h g.lo
    rw [q21 (Int.le_refl _) (hb.1 g qd).1] at this
    exact absurd this.symm (hb.1 g qd).2
  | g::r,[],ha,_,h=>by
    have:=h g.lo
    rw [q21 (Int.le_refl _) (ha.1 g qd).1] at this
    exact absurd this (ha.1 g qd).2
  | g::r,k::s,ha,hb,h=>by
    have hg:=ha.1 g qd
    have hk:=hb.1 k qd
    have low : ∀ {g k : Grp σ} {r s : List (Grp σ)},CanG (g::r)→CanG (k::s)→(∀ x,secG (g::r) x = secG (k::s) x)→k.lo≤g.lo:=by
      intro g k r s ha hb h
      refine Int.not_lt.1 fun hlt=>?_
      have h1:=h g.lo
      rw [q21 (Int.le_refl _) (ha.1 g qd).1,q22 (y:=k.lo) (fun m hm=>?_) hlt] at h1
      · exact (ha.1 g qd).2 h1
      · rcases List.mem_cons.1 hm with rfl | hm
        · exact Int.le_refl _
        · have:=(hb.nxt m hm).1;have:=(hb.1 k qd).1;omega
    have e1 : g.lo = k.lo:=Int.le_antisymm (low hb ha fun x=>(h x).symm) (low ha hb h)
    have e2 : g.sec = k.sec:=by
      have h1:=h g.lo
      rwa [q21 (Int.le_refl _) hg.1,q21 q6 q6] at h1
    have hi : ∀ {g k : Grp σ} {r s : List (Grp σ)},CanG (g::r)→CanG (k::s)→(∀ x,secG (g::r) x = secG (k::s) x)→g.lo = k.lo→g.sec = k.sec→k.hi≤g.hi:=by
      intro g k r s ha hb h e1 e2
      refine Int.not_lt.1 fun hlt=>?_
      have h1:=h g.hi
      have:=(ha.1 g qd).1
      rw [q21 (g:=k) q6 hlt,← e2] at h1
      exact qua ha h1
    have e3 : g.hi = k.hi:=Int.le_antisymm (hi hb ha (fun x=>(h x).symm) e1.symm e2.symm) (hi ha hb h e1 e2)
    have e : g = k:=by cases g;cases k;simp at e1 e2 e3;simp [e1,e2,e3]
    subst e
    have : r = s:=qci ha.tail hb.tail fun x=>by
      by_cases hx : x < g.hi
      · rw [q22 (y:=g.hi) (fun m hm=>(ha.nxt m hm).1) hx,q22 (y:=g.hi) (fun m hm=>(hb.nxt m hm).1) hx]
      · have h1:=h x
        rwa [secG,secG,if_neg q6,if_neg q6] at h1
    rw [this]
def curG (s : Mg σ β) : List (Grp σ):=if s.sec = [] then [] else [⟨s.lo,s.hi,s.sec⟩]
def secC (sec : Int→List σ) : List Int→Int→List σ
  | a::b::r,x=>if a≤x∧x < b then sec a else secC sec (b::r) x
  | _,_=>[]
theorem qh0 (put : Int→Int→σ→β) (s : Mg σ β) (gs : List (Grp σ)) (h : s.done = Kq put gs) : s.flat put = Kq put (gs ++ curG s):=by
  rw [qo5,Mg.flat,h]
  unfold curG
  split
  · rename_i h1;simp [h1,Kq]
  · simp [Kq]
theorem qam {s : Mg σ β} {g : Grp σ} (h : g∈curG s) : s.sec≠[]∧g = ⟨s.lo,s.hi,s.sec⟩:=by
  unfold curG at h;split at h
  · cases h
  · rename_i hn;exact ⟨hn,by simpa using h⟩
theorem qba (sec : Int→List σ) {x : Int} : ∀ {cuts : List Int},cuts.Pairwise (· < ·)→
    (∀ a∈cuts,a≤x→(∀ c∈cuts,c≤a∨x < c)→sec a = sec x)→((∀ c∈cuts,x < c)→sec x = [])→((∀ c∈cuts,c≤x)→sec x = [])→secC sec cuts x = sec x
  | [],_,_,h2,_=>(h2 qd).symm
  | [a],_,_,h2,h3=>by
    rw [secC]
    · by_cases hx : x < a
      · exact (h2 (by simpa using hx)).symm
      · exact (h3 (by simpa using hx)).symm
    · intro a b r h;simp at h
  | a::b::r,hp,h1,h2,h3=>by
    have hab : a < b:=(List.pairwise_cons.1 hp).1 b qd
    have hbr:=(List.pairwise_cons.1 (List.pairwise_cons.1 hp).2).1
    rw [secC]
    split
    · rename_i hx
      refine h1 a qd hx.1 fun c hc=>?_
      rcases List.mem_cons.1 hc with rfl | hc
      · exact .inl (Int.le_refl _)
      · rcases List.mem_cons.1 hc with rfl | hc
        · exact .inr hx.2
        · have:=hbr c hc;exact .inr q6
    · rename_i hx
      by_cases hxa : x < a
      · have e : sec x = []:=h2 fun c hc=>by
          rcases List.mem_cons.1 hc with rfl | hc
          · exact hxa
          · have:=(List.pairwise_cons.1 hp).1 c hc;omega
        have:=qba sec (x:=x) (List.pairwise_cons.1 hp).2 (fun a' ha' hle _=>by
          exfalso;have:=(List.pairwise_cons.1 hp).1 a' ha';omega) (fun _=>e) (fun _=>e)
        exact this
      · have hbx : b≤x:=by omega
        exact qba sec (List.pairwise_cons.1 hp).2 (fun a' ha' hle hall=>h1 a' (by simp [ha']) hle fun c hc=>by
          rcases List.mem_cons.1 hc with rfl | hc
          · have:=(List.pairwise_cons.1 hp).1 a' ha';exact .inl q6
          · exact hall c hc) (fun hall=>by have:=hall b qd;omega) (fun hall=>h3 fun c hc=>by
          rcases List.mem_cons.1 hc with rfl | hc
          · omega
          · exact hall c hc)
variable [DecidableEq σ] (put : Int→Int→σ→β)
structure InvG (s : Mg σ β) (gs : List (Grp σ)) (c : Int) : Prop where
  done : s.done = Kq put gs
  can : CanG (gs ++ curG s)
  le : ∀ g∈gs ++ curG s,g.hi≤c
  gap : s.sec = []→∀ g∈gs,g.hi = c→False
theorem qoy {s : Mg σ β} {gs : List (Grp σ)} {a b : Int} {c : List σ} (hab : a < b) (hi : InvG put s gs a) :
    ∃ gs',InvG put (addM put s a b c) gs' b∧∀ x,secG (gs' ++ curG (addM put s a b c)) x = if a≤x∧x < b then c else secG (gs ++ curG s) x:=by
  rcases Uf put s a b c with ⟨h1,h2,h3,h4⟩ | ⟨h1,h4⟩
  · rw [h4]
    have hs : s.sec≠[]:=h2 ▸ h1
    have c1 : curG s = [⟨s.lo,s.hi,s.sec⟩]:=by unfold curG;rw [if_neg hs]
    have c2 : curG (⟨s.done,s.sec,s.lo,b⟩ : Mg σ β) = [⟨s.lo,b,s.sec⟩]:=by unfold curG;rw [if_neg hs]
    have hcan:=hi.can
    rw [c1] at hcan
    have hlo : s.lo < s.hi:=(hcan.1 ⟨s.lo,s.hi,s.sec⟩ qd).1
    refine ⟨gs,⟨hi.done,?_,?_,fun h=>absurd h hs⟩,?_⟩
    · rw [c2]
      refine ⟨fun g hg=>?_,?_⟩
      · rcases List.mem_append.1 hg with hg | hg
        · exact hcan.1 g (by simp [hg])
        · obtain rfl:=List.mem_singleton.1 hg;exact ⟨by simp only;omega,hs⟩
      · have:=List.pairwise_append.1 hcan.2
        refine List.pairwise_append.2 ⟨this.1,qd,fun g hg k hk=>?_⟩
        obtain rfl:=List.mem_singleton.1 hk
        exact this.2.2 g hg ⟨s.lo,s.hi,s.sec⟩ qd
    · rw [c2]
      intro g hg
      rcases List.mem_append.1 hg with hg | hg
      · have:=hi.le g (by simp [hg]);omega
      · obtain rfl:=List.mem_singleton.1 hg;exact Int.le_refl _
    · intro x
      rw [c1,c2]
      have hg0 : ∀ g∈gs,g.hi≤s.lo:=fun g hg=>((List.pairwise_append.1 hcan.2).2.2 g hg ⟨s.lo,s.hi,s.sec⟩ qd).1
      have hgn : ∀ g∈gs,g.sec≠[]:=fun g hg=>(hcan.1 g (by simp [hg])).2
      by_cases hx : x < s.lo
      · rw [if_neg q6,qen (y:=s.lo) qd hx,qen (y:=s.lo) qd hx]
      · have e : secG gs x = []:=q5c hg0 q6
        rw [q87 e hgn,q87 e hgn]
        simp only [secG]
        by_cases hx2 : x < s.hi
        · rw [if_pos ⟨q6,q6⟩,if_neg q6,if_pos ⟨q6,hx2⟩]
        · by_cases hx3 : x < b
          · rw [if_pos ⟨q6,hx3⟩,if_pos ⟨q6,hx3⟩,h2]
          · rw [if_neg q6,if_neg q6,if_neg q6]
  · rw [h4]
    have hd : s.flat put = Kq put (gs ++ curG s):=qh0 put s gs hi.done
    refine ⟨gs ++ curG s,⟨hd,?_,?_,?_⟩,?_⟩
    · by_cases hc : c = []
      · have : curG (⟨s.flat put,c,a,b⟩ : Mg σ β) = []:=by unfold curG;rw [if_pos hc]
        rw [this,List.append_nil];exact hi.can
      · have : curG (⟨s.flat put,c,a,b⟩ : Mg σ β) = [⟨a,b,c⟩]:=by unfold curG;rw [if_neg hc]
        rw [this]
        refine ⟨fun g hg=>?_,List.pairwise_append.2 ⟨hi.can.2,qd,fun g hg k hk=>?_⟩⟩
        · rcases List.mem_append.1 hg with hg | hg
          · exact hi.can.1 g hg
          · obtain rfl:=List.mem_singleton.1 hg;exact ⟨hab,hc⟩
        · obtain rfl:=List.mem_singleton.1 hk
          refine ⟨hi.le g hg,fun he hsec=>?_⟩
          rcases List.mem_append.1 hg with hg' | hg'
          · by_cases hs : s.sec = []
            · exact hi.gap hs g hg' he
            · have h5 : (⟨s.lo,s.hi,s.sec⟩ : Grp σ)∈curG s:=by unfold curG;rw [if_neg hs];simp
              have h6:=((List.pairwise_append.1 hi.can.2).2.2 g hg' _ h5).1
              have h7:=(hi.can.1 _ (List.mem_append.2 (.inr h5))).1
              have h8:=hi.le _ (List.mem_append.2 (.inr h5))
              simp only at he h6 h7 h8
              omega
          · obtain ⟨hs,rfl⟩:=qam hg'
            exact h1 ⟨hc,hsec.symm,he⟩
    · intro g hg
      rcases List.mem_append.1 hg with hg | hg
      · have:=hi.le g hg;omega
      · obtain ⟨_,rfl⟩:=qam hg;exact Int.le_refl _
    · intro hc g hg he
      have:=hi.le g hg;omega
    · intro x
      by_cases hx : a≤x∧x < b
      · rw [if_pos hx,q87 (q5c hi.le hx.1) fun g hg=>(hi.can.1 g hg).2]
        unfold curG
        split
        · rename_i hc;simp only at hc;rw [hc];rfl
        · simp only [secG];rw [if_pos hx]
      · rw [if_neg hx]
        by_cases hxa : x < a
        · exact qen (y:=a) (fun g hg=>by obtain ⟨_,rfl⟩:=qam hg;exact Int.le_refl _) hxa
        · have e:=q5c (x:=x) hi.le q6
          rw [q87 e fun g hg=>(hi.can.1 g hg).2,e]
          exact q5c (y:=b) (fun g hg=>by obtain ⟨_,rfl⟩:=qam hg;exact Int.le_refl _) q6
theorem qjw (sec : Int→List σ) : ∀ (cuts : List Int) (c : Int) (s : Mg σ β) (gs : List (Grp σ)),(c::cuts).Pairwise (· < ·)→InvG put s gs c→
    ∃ gs',(runM put sec s (c::cuts)).flat put = Kq put gs'∧CanG gs'∧∀ x,secG gs' x = if x < c then secG (gs ++ curG s) x else secC sec (c::cuts) x
  | [],c,s,gs,_,hi=>by
    refine ⟨gs ++ curG s,qh0 put s gs hi.done,hi.can,fun x=>?_⟩
    by_cases hx : x < c
    · rw [if_pos hx]
    · rw [if_neg hx];exact q5c hi.le q6
  | b::cuts,a,s,gs,hp,hi=>by
    have hab : a < b:=(List.pairwise_cons.1 hp).1 b qd
    obtain ⟨gs',hi',hs'⟩:=qoy (b:=b) (c:=sec a) put hab hi
    obtain ⟨gs2,e1,e2,e3⟩:=qjw sec cuts b _ gs' (List.pairwise_cons.1 hp).2 hi'
    refine ⟨gs2,e1,e2,fun x=>?_⟩
    rw [e3 x]
    by_cases hx : x < a
    · rw [if_pos q6,if_pos hx,hs',if_neg q6]
    · rw [if_neg hx]
      simp only [secC]
      by_cases hxb : x < b
      · rw [if_pos hxb,hs',if_pos ⟨q6,hxb⟩,if_pos ⟨q6,hxb⟩]
      · rw [if_neg hxb,if_neg q6]
theorem qif (sec : Int→List σ) {cuts : List Int} (hc : cuts.Pairwise (· < ·)) :
    ∃ gs,(Qw put Qs (Kx cuts sec)).flat put = Kq put gs∧CanG gs∧∀ x,secG gs x = secC sec cuts x:=by
  rw [qh2]
  cases cuts with
  | nil=>exact ⟨[],rfl,⟨qd,qd⟩,fun x=>rfl⟩
  | cons c cuts=>
    obtain ⟨gs,e1,e2,e3⟩:=qjw put sec cuts c (Qs : Mg σ β) [] hc ⟨rfl,⟨by simp [curG,Qs],by simp [curG,Qs]⟩,by simp [curG,Qs],qd⟩
    refine ⟨gs,e1,e2,fun x=>?_⟩
    rw [e3 x]
    split
    · rename_i hx
      have : ∀ (cuts : List Int) (c : Int),(c::cuts).Pairwise (· < ·)→x < c→secC sec (c::cuts) x = []:=by
        intro cuts
        induction cuts with
        | nil=>intros;rfl
        | cons b r ih=>
          intro c hp hx
          rw [secC,if_neg q6]
          exact ih b (List.pairwise_cons.1 hp).2 (by have:=(List.pairwise_cons.1 hp).1 b qd;omega)
      rw [this cuts c hc hx];rfl
    · rfl
end
end Go.Sh
namespace Go.Sh
open Go Go.Am
section
variable {σ : Type}
theorem qep {x : Int} : ∀ (gs : List (Grp σ)),secG gs x = []∨∃ g∈gs,g.lo≤x∧x < g.hi∧secG gs x = g.sec
  | []=>.inl rfl
  | g::r=>by
    by_cases hx : g.lo≤x∧x < g.hi
    · exact .inr ⟨g,qd,hx.1,hx.2,by rw [secG,if_pos hx]⟩
    · rw [secG,if_neg hx]
      rcases qep r with h | ⟨k,hk,h⟩
      · exact .inl h
      · exact .inr ⟨k,by simp [hk],h⟩
theorem qeo : ∀ {gs : List (Grp σ)},CanG gs→∀ g∈gs,∀ x,g.lo≤x→x < g.hi→secG gs x = g.sec
  | k::r,h,g,hg,x,h1,h2=>by
    rcases List.mem_cons.1 hg with rfl | hg
    · exact q21 h1 h2
    · have:=(h.nxt g hg).1
      rw [secG,if_neg q6]
      exact qeo h.tail g hg x h1 h2
end
theorem qhv (kind : Int) : q2q kind [] [] = []:=by
  have hj:=(q7g kind [] [] qd qd).2
  refine q6y hj.can ⟨qd,qd⟩ fun x=>?_
  rw [hj.pts]
  have:=Ut x
  unfold Kv;simp [this]
theorem qnf (a b : List qk) (x : Int) : covS (a ++ b) x = covS a x ++ covS b x:=by simp [covS]
theorem qnh (s : List qm) (lo hi x : Int) : covS (s.map (putR lo hi)) x = if lo≤x∧x < hi then s else []:=by
  induction s with
  | nil=>simp [covS]
  | cons t s ih=>
    have e : covS (List.map (putR lo hi) (t::s)) x = (if covR x (putR lo hi t) = true then [t] else []) ++ covS (s.map (putR lo hi)) x:=rfl
    rw [e,ih]
    have : covR x (putR lo hi t) = (decide (lo≤x) && decide (x < hi)):=rfl
    rw [this]
    by_cases h1 : lo≤x <;> by_cases h2 : x < hi <;> simp [h1,h2]
theorem q72 : ∀ {gs : List (Grp qm)},CanG gs→∀ x,covS (Kq putR gs) x = secG gs x
  | [],_,x=>rfl
  | g::r,h,x=>by
    have e : Kq putR (g::r) = g.sec.map (putR g.lo g.hi) ++ Kq putR r:=rfl
    rw [e,qnf,qnh,q72 h.tail x]
    by_cases hx : g.lo≤x∧x < g.hi
    · rw [if_pos hx,secG,if_pos hx,q22 (y:=g.hi) (fun m hm=>(h.nxt m hm).1) hx.2,List.append_nil]
    · rw [if_neg hx,secG,if_neg hx,List.nil_append]
theorem qge {l : List qk} {a x : Int} (h : ∀ r∈l,covR a r = covR x r) : covS l a = covS l x:=by
  induction l with
  | nil=>rfl
  | cons r l ih=>
    have e : ∀ y,covS (r::l) y = (if covR y r = true then [ysp r] else []) ++ covS l y:=fun _=>rfl
    rw [e,e,h r qd,ih fun k hk=>h k (by simp [hk])]
theorem qa8 {l : List qk} {x : Int} (h : ∀ r∈l,covR x r = false) : covS l x = []:=by
  induction l with
  | nil=>rfl
  | cons r l ih=>
    have e : covS (r::l) x = (if covR x r = true then [ysp r] else []) ++ covS l x:=rfl
    rw [e,h r qd,ih fun k hk=>h k (by simp [hk])];rfl
theorem q44 {x : Int} {r : qk} : covR x r = true↔r.X0≤x∧x < r.X1:=by simp [covR]
theorem qid {p q : List qk} {r : qk} (h : r∈p∨r∈q) : r.X0∈xsOf p ++ xsOf q∧r.X1∈xsOf p ++ xsOf q:=by
  unfold xsOf
  simp only [List.mem_append,List.mem_flatMap]
  rcases h with h | h
  · exact ⟨.inl ⟨r,h,qd⟩,.inl ⟨r,h,qd⟩⟩
  · exact ⟨.inr ⟨r,h,qd⟩,.inr ⟨r,h,qd⟩⟩
theorem qij (kind : Int) {p q : List qk} (h : p.length + q.length≤100000) :
    ∃ gs,mrgR kind p q = Kq putR gs∧CanG gs∧∀ x,secG gs x = secJ kind p q x:=by
  have l1:=q18 p
  have l2:=q18 q
  have hs:=(J6 (l:=xsOf p ++ xsOf q) (by simp;omega)).2.1
  obtain ⟨gs,e1,e2,e3⟩:=qif putR (secJ kind p q) hs.1
  refine ⟨gs,e1,e2,fun x=>?_⟩
  rw [e3]
  have hm : ∀ r,(r∈p∨r∈q)→r.X0∈Qo (xsOf p ++ xsOf q)∧r.X1∈Qo (xsOf p ++ xsOf q):=fun r hr=>
    ⟨(hs.2 _).2 (qid hr).1,(hs.2 _).2 (qid hr).2⟩
  refine qba _ hs.1 (fun a _ hax hall=>?_) (fun hall=>?_) (fun hall=>?_)
  · have hc : ∀ r,(r∈p∨r∈q)→covR a r = covR x r:=fun r hr=>by
      have h1:=hall _ (hm r hr).1
      have h2:=hall _ (hm r hr).2
      rw [Bool.eq_iff_iff,q44,q44];omega
    unfold secJ
    rw [qge fun r hr=>hc r (.inl hr),qge fun r hr=>hc r (.inr hr)]
  · have hc : ∀ r,(r∈p∨r∈q)→covR x r = false:=fun r hr=>by
      have h1:=hall _ (hm r hr).1
      rw [← Bool.not_eq_true,q44];omega
    unfold secJ
    rw [qa8 fun r hr=>hc r (.inl hr),qa8 fun r hr=>hc r (.inr hr),qhv]
  · have hc : ∀ r,(r∈p∨r∈q)→covR x r = false:=fun r hr=>by
      have h1:=hall _ (hm r hr).2
      rw [← Bool.not_eq_true,q44];omega
    unfold secJ
    rw [qa8 fun r hr=>hc r (.inl hr),qa8 fun r hr=>hc r (.inr hr),qhv]
def CanR (l : List qk) : Prop:=∃ gs : List (Grp qm),l = Kq putR gs∧CanG gs∧∀ g∈gs,Can g.sec
theorem qme : Can []:=⟨qd,qd⟩
theorem CanR.nil : CanR []:=⟨[],rfl,⟨qd,qd⟩,qd⟩
theorem CanR.cov {l : List qk} (h : CanR l) (x : Int) : Can (covS l x):=by
  obtain ⟨gs,rfl,h1,h2⟩:=h
  rw [q72 h1]
  rcases qep (x:=x) gs with e | ⟨g,hg,_,_,e⟩
  · rw [e];exact qme
  · rw [e];exact h2 g hg
theorem qcj {a b : List qk} (ha : CanR a) (hb : CanR b) (h : ∀ x y,hasR a x y↔hasR b x y) : a = b:=by
  have hc : ∀ x,covS a x = covS b x:=fun x=>q6y (ha.cov x) (hb.cov x) fun y=>by rw [U3,U3];exact h x y
  obtain ⟨ga,rfl,h1,_⟩:=ha
  obtain ⟨gb,rfl,h2,_⟩:=hb
  rw [qci h1 h2 fun x=>by rw [← q72 h1,← q72 h2];exact hc x]
theorem qk4 (kind : Int) {p q : List qk} (h : p.length + q.length≤100000) (x : Int) : qc3 kind (covS p x) (covS q x) (secJ kind p q x):=by
  have h1:=q1d p x
  have h2:=q1d q x
  exact (q7g kind (covS p x) (covS q x) q6 q6).2
theorem qao (kind : Int) {p q : List qk} (h : p.length + q.length≤100000) : CanR (mrgR kind p q):=by
  obtain ⟨gs,e1,e2,e3⟩:=qij kind h
  refine ⟨gs,e1,e2,fun g hg=>?_⟩
  have:=e3 g.lo
  rw [qeo e2 g hg _ (Int.le_refl _) (e2.1 g hg).1] at this
  rw [this];exact (qk4 kind h _).can
theorem qng (kind : Int) {p q : List qk} (h : p.length + q.length≤100000) (x : Int) : covS (mrgR kind p q) x = secJ kind p q x:=by
  obtain ⟨gs,e1,e2,e3⟩:=qij kind h
  rw [e1,q72 e2,e3]
theorem q7e (kind : Int) {p q : List qk} (h : p.length + q.length≤100000) (x y : Int) : hasR (mrgR kind p q) x y↔Kv kind (hasR p x y) (hasR q x y):=by
  rw [← U3,qng kind h,(qk4 kind h x).pts,U3,U3]
theorem qhm (x y : Int) : ¬ hasR [] x y:=by rintro ⟨r,h,_⟩;cases h
theorem qhp {a b : Prop} : Kv 2 a b↔a∨b:=by unfold Kv;simp
theorem qii (kind : Int) {p q p' q' : List qk} (h : p.length + q.length≤100000) (h' : p'.length + q'.length≤100000)
    (h1 : ∀ x y,hasR p x y↔hasR p' x y) (h2 : ∀ x y,hasR q x y↔hasR q' x y) : mrgR kind p q = mrgR kind p' q':=
  qcj (qao kind h) (qao kind h') fun x y=>by rw [q7e kind h,q7e kind h'];exact qdd (h1 x y) (h2 x y)
theorem qib {σ β : Type} {put : Int→Int→σ→β} {gs : List (Grp σ)} {r : β} : r∈Kq put gs↔∃ g∈gs,∃ t∈g.sec,r = put g.lo g.hi t:=by
  unfold Kq
  simp only [List.mem_flatMap,List.mem_map]
  exact ⟨fun ⟨g,hg,t,ht,e⟩=>⟨g,hg,t,ht,e.symm⟩,fun ⟨g,hg,t,ht,e⟩=>⟨g,hg,t,ht,e.symm⟩⟩
theorem CanR.lt {l : List qk} (h : CanR l) : ∀ r∈l,r.X0 < r.X1∧r.Y0 < r.Y1:=by
  obtain ⟨gs,rfl,h1,h2⟩:=h
  intro r hr
  obtain ⟨g,hg,t,ht,rfl⟩:=qib.1 hr
  exact ⟨(h1.1 g hg).1,(h2 g hg).1 t ht⟩
def InR (l : List qk) : Prop:=∀ x y,hasR l x y→(-1000000≤x∧x < 1000000)∧(-1000000≤y∧y < 1000000)
theorem CanR.vR {l : List qk} (h : CanR l) (hi : InR l) : ∀ r∈l,vR r:=by
  intro r hr
  have h1:=h.lt r hr
  have h2:=hi r.X0 r.Y0 ⟨r,hr,q6⟩
  have h3:=hi (r.X1 - 1) (r.Y1 - 1) ⟨r,hr,q6⟩
  unfold Go.Sh.vR;omega
theorem InR.mrg {kind : Int} {p q : List qk} (h : p.length + q.length≤100000) (hp : InR p) (hq : InR q) : InR (mrgR kind p q):=fun x y hh=>by
  rcases qde ((q7e kind h x y).1 hh) with h1 | h1
  · exact hp x y h1
  · exact hq x y h1
theorem InR.nil : InR []:=fun x y h=>absurd h (qhm x y)
end Go.Sh
namespace Go.Sh
open Go Go.Am
def hasB (l : List qg) (x y z : Int) : Prop:=∃ b∈l,(b.Lo.X≤x∧x < b.Hi.X)∧(b.Lo.Y≤y∧y < b.Hi.Y)∧(b.Lo.Z≤z∧z < b.Hi.Z)
theorem q1c {z : Int} {b : qg} : covB z b = true↔b.Lo.Z≤z∧z < b.Hi.Z:=by simp [covB]
theorem qdr {l : List qg} {z : Int} {r : qk} : r∈atB l z↔∃ b∈l,(b.Lo.Z≤z∧z < b.Hi.Z)∧r = Zu b:=by
  unfold atB
  rw [List.mem_flatMap]
  constructor
  · rintro ⟨b,hb,h⟩
    split at h
    · rename_i hc;exact ⟨b,hb,q1c.1 hc,by simpa using h⟩
    · cases h
  · rintro ⟨b,hb,hc,rfl⟩
    exact ⟨b,hb,by rw [if_pos (q1c.2 hc)];simp⟩
theorem Us {l : List qg} {x y z : Int} : hasR (atB l z) x y↔hasB l x y z:=by
  constructor
  · rintro ⟨r,hr,h1,h2,h3,h4⟩
    obtain ⟨b,hb,hz,rfl⟩:=qdr.1 hr
    exact ⟨b,hb,⟨h1,h2⟩,⟨h3,h4⟩,hz⟩
  · rintro ⟨b,hb,⟨h1,h2⟩,⟨h3,h4⟩,hz⟩
    exact ⟨Zu b,qdr.2 ⟨b,hb,hz,rfl⟩,h1,h2,h3,h4⟩
theorem qaf (x y z : Int) : ¬ hasB [] x y z:=by rintro ⟨r,h,_⟩;cases h
theorem qlw (a b : List qg) (z : Int) : atB (a ++ b) z = atB a z ++ atB b z:=by simp [atB]
theorem qlx (s : List qk) (lo hi z : Int) : atB (s.map (putB lo hi)) z = if lo≤z∧z < hi then s else []:=by
  induction s with
  | nil=>simp [atB]
  | cons t s ih=>
    have e : atB (List.map (putB lo hi) (t::s)) z = (if covB z (putB lo hi t) = true then [t] else []) ++ atB (s.map (putB lo hi)) z:=rfl
    rw [e,ih]
    have : covB z (putB lo hi t) = (decide (lo≤z) && decide (z < hi)):=rfl
    rw [this]
    by_cases h1 : lo≤z <;> by_cases h2 : z < hi <;> simp [h1,h2]
theorem q6v : ∀ {gs : List (Grp qk)},CanG gs→∀ z,atB (Kq putB gs) z = secG gs z
  | [],_,z=>rfl
  | g::r,h,z=>by
    have e : Kq putB (g::r) = g.sec.map (putB g.lo g.hi) ++ Kq putB r:=rfl
    rw [e,qlw,qlx,q6v h.tail z]
    by_cases hx : g.lo≤z∧z < g.hi
    · rw [if_pos hx,secG,if_pos hx,q22 (y:=g.hi) (fun m hm=>(h.nxt m hm).1) hx.2,List.append_nil]
    · rw [if_neg hx,secG,if_neg hx,List.nil_append]
theorem qfj {l : List qg} {a x : Int} (h : ∀ r∈l,covB a r = covB x r) : atB l a = atB l x:=by
  induction l with
  | nil=>rfl
  | cons r l ih=>
    have e : ∀ y,atB (r::l) y = (if covB y r = true then [Zu r] else []) ++ atB l y:=fun _=>rfl
    rw [e,e,h r qd,ih fun k hk=>h k (by simp [hk])]
theorem qa3 {l : List qg} {x : Int} (h : ∀ r∈l,covB x r = false) : atB l x = []:=by
  induction l with
  | nil=>rfl
  | cons r l ih=>
    have e : atB (r::l) x = (if covB x r = true then [Zu r] else []) ++ atB l x:=rfl
    rw [e,h r qd,ih fun k hk=>h k (by simp [hk])];rfl
theorem qie {p q : List qg} {r : qg} (h : r∈p∨r∈q) : r.Lo.Z∈zsOf p ++ zsOf q∧r.Hi.Z∈zsOf p ++ zsOf q:=by
  unfold zsOf
  simp only [List.mem_append,List.mem_flatMap]
  rcases h with h | h
  · exact ⟨.inl ⟨r,h,qd⟩,.inl ⟨r,h,qd⟩⟩
  · exact ⟨.inr ⟨r,h,qd⟩,.inr ⟨r,h,qd⟩⟩
theorem qdx (kind : Int) : mrgR kind [] [] = []:=by
  refine qcj (qao kind qd) .nil fun x y=>?_
  rw [q7e kind qd]
  have:=qhm x y
  unfold Kv;simp [this]
theorem qig (kind : Int) {p q : List qg} (h : p.length + q.length≤100000) :
    ∃ gs,mrgB kind p q = Kq putB gs∧CanG gs∧∀ z,secG gs z = secB kind p q z:=by
  have l1:=Z5 p
  have l2:=Z5 q
  have hs:=(J6 (l:=zsOf p ++ zsOf q) (by simp;omega)).2.1
  obtain ⟨gs,e1,e2,e3⟩:=qif putB (secB kind p q) hs.1
  refine ⟨gs,e1,e2,fun x=>?_⟩
  rw [e3]
  have hm : ∀ r,(r∈p∨r∈q)→r.Lo.Z∈Qo (zsOf p ++ zsOf q)∧r.Hi.Z∈Qo (zsOf p ++ zsOf q):=fun r hr=>
    ⟨(hs.2 _).2 (qie hr).1,(hs.2 _).2 (qie hr).2⟩
  refine qba _ hs.1 (fun a _ hax hall=>?_) (fun hall=>?_) (fun hall=>?_)
  · have hc : ∀ r,(r∈p∨r∈q)→covB a r = covB x r:=fun r hr=>by
      have h1:=hall _ (hm r hr).1
      have h2:=hall _ (hm r hr).2
      rw [Bool.eq_iff_iff,q1c,q1c];omega
    unfold secB
    rw [qfj fun r hr=>hc r (.inl hr),qfj fun r hr=>hc r (.inr hr)]
  · have hc : ∀ r,(r∈p∨r∈q)→covB x r = false:=fun r hr=>by
      have h1:=hall _ (hm r hr).1
      rw [← Bool.not_eq_true,q1c];omega
    unfold secB
    rw [qa3 fun r hr=>hc r (.inl hr),qa3 fun r hr=>hc r (.inr hr),qdx]
  · have hc : ∀ r,(r∈p∨r∈q)→covB x r = false:=fun r hr=>by
      have h1:=hall _ (hm r hr).2
      rw [← Bool.not_eq_true,q1c];omega
    unfold secB
    rw [qa3 fun r hr=>hc r (.inl hr),qa3 fun r hr=>hc r (.inr hr),qdx]
def CanB (l : List qg) : Prop:=∃ gs : List (Grp qk),l = Kq putB gs∧CanG gs∧∀ g∈gs,CanR g.sec
theorem CanB.nil : CanB []:=⟨[],rfl,⟨qd,qd⟩,qd⟩
theorem CanB.at {l : List qg} (h : CanB l) (z : Int) : CanR (atB l z):=by
  obtain ⟨gs,rfl,h1,h2⟩:=h
  rw [q6v h1]
  rcases qep (x:=z) gs with e | ⟨g,hg,_,_,e⟩
  · rw [e];exact .nil
  · rw [e];exact h2 g hg
theorem qfs {a b : List qg} (ha : CanB a) (hb : CanB b) (h : ∀ x y z,hasB a x y z↔hasB b x y z) : a = b:=by
  have hc : ∀ z,atB a z = atB b z:=fun z=>qcj (ha.at z) (hb.at z) fun x y=>by rw [Us,Us];exact h x y z
  obtain ⟨ga,rfl,h1,_⟩:=ha
  obtain ⟨gb,rfl,h2,_⟩:=hb
  rw [qci h1 h2 fun x=>by rw [← q6v h1,← q6v h2];exact hc x]
theorem qfl {p q : List qg} (h : p.length + q.length≤100000) (z : Int) : (atB p z).length + (atB q z).length≤100000:=by
  have:=Zd p z;have:=Zd q z;omega
theorem q7l (kind : Int) {p q : List qg} (h : p.length + q.length≤100000) : CanB (mrgB kind p q):=by
  obtain ⟨gs,e1,e2,e3⟩:=qig kind h
  refine ⟨gs,e1,e2,fun g hg=>?_⟩
  have:=e3 g.lo
  rw [qeo e2 g hg _ (Int.le_refl _) (e2.1 g hg).1] at this
  rw [this];exact qao kind (qfl h _)
theorem qca (kind : Int) {p q : List qg} (h : p.length + q.length≤100000) (z : Int) : atB (mrgB kind p q) z = secB kind p q z:=by
  obtain ⟨gs,e1,e2,e3⟩:=qig kind h
  rw [e1,q6v e2,e3]
theorem qd9 (kind : Int) {p q : List qg} (h : p.length + q.length≤100000) (x y z : Int) : hasB (mrgB kind p q) x y z↔Kv kind (hasB p x y z) (hasB q x y z):=by
  rw [← Us,qca kind h,secB,q7e kind (qfl h z),Us,Us]
theorem q7d {l : List qg} (h : l.length≤100000) (x y z : Int) : hasB (mrgB 2 l []) x y z↔hasB l x y z:=by
  rw [qd9 2 (by simpa using h),qhp];simp [qaf]
theorem qih {l : List qg} (hl : l.length≤100000) (h : CanB l) : mrgB 2 l [] = l:=
  qfs (q7l 2 (by simpa using hl)) h fun x y z=>q7d hl x y z
theorem CanB.lt {l : List qg} (h : CanB l) : ∀ b∈l,b.Lo.X < b.Hi.X∧b.Lo.Y < b.Hi.Y∧b.Lo.Z < b.Hi.Z:=by
  obtain ⟨gs,rfl,h1,h2⟩:=h
  intro r hr
  obtain ⟨g,hg,t,ht,rfl⟩:=qib.1 hr
  have:=(h2 g hg).lt t ht
  exact ⟨this.1,this.2,(h1.1 g hg).1⟩
def vB (b : qg) : Prop:=(b.Lo.X < b.Hi.X∧b.Lo.Y < b.Hi.Y∧b.Lo.Z < b.Hi.Z)∧(-1000000≤b.Lo.X∧-1000000≤b.Lo.Y∧-1000000≤b.Lo.Z)∧b.Hi.X≤1000000∧b.Hi.Y≤1000000∧b.Hi.Z≤1000000
instance (b : qg) : Decidable (vB b):=by unfold vB;infer_instance
def InB (l : List qg) : Prop:=∀ x y z,hasB l x y z→(-1000000≤x∧x < 1000000)∧(-1000000≤y∧y < 1000000)∧(-1000000≤z∧z < 1000000)
theorem qyw {l : List qg} (h : ∀ r∈l,vB r) : InB l:=by
  rintro x y z ⟨r,hr,h1⟩
  have:=h r hr
  unfold vB at this;omega
theorem CanB.vB {l : List qg} (h : CanB l) (hi : InB l) : ∀ r∈l,vB r:=by
  intro r hr
  have h1:=h.lt r hr
  have h2:=hi r.Lo.X r.Lo.Y r.Lo.Z ⟨r,hr,q6⟩
  have h3:=hi (r.Hi.X - 1) (r.Hi.Y - 1) (r.Hi.Z - 1) ⟨r,hr,q6⟩
  unfold Go.Sh.vB;omega
theorem InB.mrg {kind : Int} {p q : List qg} (h : p.length + q.length≤100000) (hp : InB p) (hq : InB q) : InB (mrgB kind p q):=fun x y z hh=>by
  rcases qde ((qd9 kind h x y z).1 hh) with h1 | h1
  · exact hp x y z h1
  · exact hq x y z h1
theorem InB.nil : InB []:=fun x y z h=>absurd h (qaf x y z)
theorem qyy {l : List qg} (h : ∀ b∈l,vB b) (z : Int) : ∀ r∈atB l z,vR r:=by
  intro r hr
  obtain ⟨b,hb,_,rfl⟩:=qdr.1 hr
  have:=h b hb
  unfold vB at this;unfold vR Zu;simp only;omega
theorem InB.at {l : List qg} (h : InB l) (z : Int) : InR (atB l z):=fun x y hh=>by
  have:=h x y z (Us.1 hh);exact ⟨this.1,this.2.1⟩
noncomputable def Kg (l : List qg) : Int:=if 400 < l.length then 4 else if ∀ b∈l,vB b then (if mrgB 2 l [] = l then 0 else 8) else 8
theorem q2k {l : List qg} : Kg l = 0↔l.length≤400∧(∀ b∈l,vB b)∧CanB l:=by
  unfold Kg
  constructor
  · intro h
    split at h
    · exact absurd h qy
    · rename_i h1
      split at h
      · rename_i h2
        split at h
        · rename_i h3
          exact ⟨q6,h2,h3 ▸ q7l 2 (by simp;omega)⟩
        · exact absurd h qy
      · exact absurd h qy
  · rintro ⟨h1,h2,h3⟩
    rw [if_neg q6,if_pos h2,if_pos (qih q6 h3)]
theorem qk3 (kind : Int) {p q : List qg} (h : p.length + q.length≤100000) (z : Int) : (secB kind p q z).length≤(mrgB kind p q).length:=by
  rw [← qca kind h];exact Zd _ _
noncomputable def mkB (l : List qg) : List qg × Int:=if 400 < l.length then ([],4) else if ∀ b∈l,vB b then (if 400 < (mrgB 2 l []).length then ([],4) else (mrgB 2 l [],0)) else ([],8)
noncomputable def mkR (l : List qk) : List qk × Int:=if 400 < l.length then ([],4) else if ∀ b∈l,vR b then (if 400 < (mrgR 2 l []).length then ([],4) else (mrgR 2 l [],0)) else ([],8)
end Go.Sh
