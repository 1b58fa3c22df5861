/- Pt1 Pt2 Pt3 Pt4 Pt5 Pt6 Pt7 Qa1 Qa2 Qa3 -/
import Derived.Test.YtbknppciefodiaaGreatK10
namespace Go.Sh
open Go Go.Am
theorem Ja {α β : Type} {f : α→Option (α ⊕ β)} (st : Nat→α) (n : Nat) (b : β) (hs : ∀ k,k < n→f (st k) = some (.inl (st (k + 1)))) (hd : f (st n) = some (.inr b)) : ∀ {k : Nat},k≤n→loop f (st k) = some b:=by
  have key : ∀ m k,n - k = m→k≤n→loop f (st k) = some b:=by
    intro m
    induction m with
    | zero => intro k c a; obtain rfl : k = n := by omega
              exact Kg hd
    | succ m ih=>intro k c a;rw [Kw (hs k q6)];exact ih (k + 1) q6 q6
  intro k a;exact key _ k rfl a
theorem w64s {k : Nat} {n : Nat} (h : k < n) (a : n≤1000000) : w64 ((k : Int) + 1) = ((k + 1 : Nat) : Int):=by rw [Qg q6];omega
theorem dlt {k n : Nat} (h : k < n) : decide ((k : Int) < (n : Int)) = true:=Qc q6
theorem dnl {n : Nat} : decide ((n : Int) < (n : Int)) = false:=Q9 q6
theorem U0 {α β γ : Type} (src : List α) (b : src.length≤1000000) (h : α→List γ) (out : List γ) (fin : List γ→β) (f : Int × List γ→Option ((Int × List γ) ⊕ β))
    (hs : ∀ (k : Nat) (a : k < src.length) (o : List γ),o = out ++ (src.take k).flatMap h→f ((k : Int),o) = some (.inl (((k + 1 : Nat) : Int),o ++ h src[k])))
    (hd : ∀ o,f ((src.length : Int),o) = some (.inr (fin o))) : loop f (0,out) = some (fin (out ++ src.flatMap h)):=by
  have e : ∀ k (a : k < src.length),(src.take (k + 1)).flatMap h = (src.take k).flatMap h ++ h src[k]:=fun k a=>by
    rw [List.take_succ_eq_append_getElem a,List.flatMap_append,List.flatMap_cons,List.flatMap_nil,List.append_nil]
  have:=Ja (f:=f) (fun k=>((k : Int),out ++ (src.take k).flatMap h)) src.length (fin (out ++ src.flatMap h)) (fun k a=>by
    rw [hs k a _ rfl,e k a,List.append_assoc]) (by simp only [List.take_length];exact hd _) (Nat.zero_le _)
  simpa using this
theorem qa2 {α β γ : Type} (src : List α) (h : α→γ) (out : List γ) (fin : List γ→β) (f : Int × List γ→Option ((Int × List γ) ⊕ β))
    (hs : ∀ (k : Nat) (a : k < src.length) (o : List γ),o.length = out.length + k→f ((k : Int),o) = some (.inl (((k + 1 : Nat) : Int),o ++ [h src[k]])))
    (hd : ∀ o,f ((src.length : Int),o) = some (.inr (fin o))) : loop f (0,out) = some (fin (out ++ src.map h)):=by
  have e : ∀ k (a : k < src.length),(src.take (k + 1)).map h = (src.take k).map h ++ [h src[k]]:=fun k a=>by
    rw [List.take_succ_eq_append_getElem a,List.map_append,List.map_cons,List.map_nil]
  have:=Ja (f:=f) (fun k=>((k : Int),out ++ (src.take k).map h)) src.length (fin (out ++ src.map h)) (fun k a=>by
    rw [hs k a _ (by simp;omega),e k a,List.append_assoc]) (by simp only [List.take_length];exact hd _) (Nat.zero_le _)
  simpa using this
theorem qcz {γ : Type} (g : γ→γ) (a b : List γ) (m : (a ++ b).length≤1000000) (f : Int × List γ→Option ((Int × List γ) ⊕ (List γ)))
    (hs : ∀ (k : Nat) (o : List γ) (h : k < o.length),o.length = (a ++ b).length→f ((k : Int),o) = some (.inl (((k + 1 : Nat) : Int),o.set k (g o[k]))))
    (hd : ∀ o : List γ,f ((o.length : Int),o) = some (.inr o)) : loop f ((a.length : Int),a ++ b) = some (a ++ b.map g):=by
  have l : a.length + b.length≤1000000:=by simpa using m
  have key:=Ja (f:=f) (fun k=>(((a.length + k : Nat) : Int),a ++ ((b.take k).map g ++ b.drop k))) b.length (a ++ b.map g) (fun k h=>by
    have c : (a ++ ((b.take k).map g ++ b.drop k)).length = (a ++ b).length:=by simp;omega
    have d : a.length + k < (a ++ ((b.take k).map g ++ b.drop k)).length:=by rw [c];simp;omega
    rw [hs (a.length + k) _ d c];have j : ((b.take k).map g).length = k:=by simp;omega
    have e : (a ++ ((b.take k).map g ++ b.drop k))[a.length + k]'d = b[k]:=by
      rw [List.getElem_append_right q6];rw [List.getElem_append_right (by rw [j];omega)];simp [List.length_take,Nat.min_eq_left (Nat.le_of_lt h)]
    rw [e];congr 4;rw [List.set_append,qp q6,List.set_append,qp (by rw [j];omega),j];have z : a.length + k - a.length - k = 0:=by omega
    rw [z,List.take_succ_eq_append_getElem h,List.drop_eq_getElem_cons h,List.set_cons_zero,List.map_append,List.map_cons,List.map_nil,List.append_assoc]
    rfl) (by
    simp only [List.take_length,List.drop_length,List.append_nil];have:=hd (a ++ b.map g)
    simpa using this) (Nat.zero_le _)
  simpa using key
theorem Zh {α γ υ : Type} (l : List α) (c : α→Bool) (g : (k : Nat)→k < l.length→γ) (u : υ) (f : Int→Option (Int ⊕ (υ ⊕ γ)))
    (hs : ∀ (k : Nat) (h : k < l.length),f (k : Int) = some (if c l[k] = true then .inr (.inr (g k h)) else .inl ((k + 1 : Nat) : Int))) (hd : f (l.length : Int) = some (.inr (.inl u))) :
    ((∀ v∈l,c v = false)∧loop f 0 = some (.inl u))∨∃ k,∃ h : k < l.length,c l[k] = true∧(∀ j (d : j < k),c (l[j]'(q6)) = false)∧loop f 0 = some (.inr (g k h)):=by
  by_cases p : ∀ v∈l,c v = false
  · refine .inl ⟨p,?_⟩;exact Ja (f:=f) (fun k=>(k : Int)) l.length _ (fun k b=>by rw [hs k b,p _ (Kp b)];rfl) hd (Nat.zero_le _)
  · refine .inr ?_
    have : ∃ k,∃ h : k < l.length,c l[k] = true:=by
      refine Classical.byContradiction fun s=>p fun v r=>?_;obtain ⟨k,b,rfl⟩:=List.getElem_of_mem r;cases o : c l[k]
      · rfl
      · exact absurd ⟨k,b,o⟩ s
    have n : ∃ k,(∃ h : k < l.length,c l[k] = true)∧∀ j,j < k→¬ ∃ h : j < l.length,c l[j] = true:=by
      obtain ⟨k,b⟩:=this
      induction k using Nat.strongRecOn with
      | _ k ih=>
        by_cases d : ∃ j,j < k∧∃ h : j < l.length,c l[j] = true
        · obtain ⟨j,q,n⟩:=d;exact ih j q n
        · exact ⟨k,b,fun j q n=>d ⟨j,q,n⟩⟩
    obtain ⟨k,⟨b,o⟩,m⟩:=n
    have a : ∀ j (d : j < k),c (l[j]'(q6)) = false:=fun j d=>by
      cases h : c (l[j]'(q6))
      · rfl
      · exact absurd ⟨q6,h⟩ (m j d)
    refine ⟨k,b,o,a,?_⟩;exact Ja (f:=f) (fun k=>(k : Int)) k _ (fun j d=>by rw [hs j q6,a j d];rfl) (by rw [hs k b,qr o]) (Nat.zero_le _)
theorem qpq : ∀ {l a b : List Int},Z7 l a→Z7 l b→a = b:=by
  have key : ∀ (a b : List Int),a.Pairwise (· < ·)→b.Pairwise (· < ·)→(∀ x,x∈a↔x∈b)→a = b:=by
    intro a
    induction a with
    | nil=>intro b _ _ h;cases b with
      | nil=>rfl
      | cons y b=>exact absurd ((h y).2 qg) qg
    | cons x a ih=>
      intro b d hb h
      cases b with
      | nil=>exact absurd ((h x).1 qg) qg
      | cons y b=>
        rw [List.pairwise_cons] at d hb
        have j : x = y:=by
          rcases List.mem_cons.1 ((h x).1 qg) with c | c
          · exact c
          · rcases List.mem_cons.1 ((h y).2 qg) with g | g
            · exact g.symm
            · have:=hb.1 _ c;have:=d.1 _ g;omega
        subst j;rw [ih b d.2 hb.2 fun z=>?_];constructor
        · intro f;rcases List.mem_cons.1 ((h z).1 (by simp [f])) with c | c
          · have:=d.1 _ f;omega
          · exact c
        · intro f;rcases List.mem_cons.1 ((h z).2 (by simp [f])) with c | c
          · have:=hb.1 _ f;omega
          · exact c
  intro l a b d hb;exact key a b d.1 hb.1 fun x=>(d.2 x).trans (hb.2 x).symm
def ltI (a b : Int) : Bool:=decide (a < b)
theorem swoI : Sort.SWO ltI where
  irrefl:=by intro x;simp [ltI]
  trans:=by intro x y z;simp only [ltI,decide_eq_true_eq];omega
  ntrans:=by intro x y z;simp only [ltI,decide_eq_false_iff_not];omega
theorem cmpI : Y4 qO ltI (fun _=>True):=by
  intro x y _ _;refine ⟨sg x y,rfl,?_⟩;rw [Jf];rfl
theorem qpp (l : List Int) (f : l.length≤1000000) : ∃ ys,Ud l = some ys∧ys.Perm l∧ys.Pairwise (·≤·):=by
  obtain ⟨ys,g,c,d⟩:=qpo cmpI swoI l f (fun _ _=>trivial);refine ⟨ys,by rw [q12b];exact g,c,d.imp ?_⟩;intro a b h;simp only [ltI,decide_eq_false_iff_not] at h;omega
end Go.Sh
namespace Go.Sh
open Go Go.Am
structure CInv (p : List Int) (k k2 i : Nat) (a : List Int) : Prop where
  len : a.length = p.length
  hi : i≤k + k2 - 1
  same : ∀ j (h : j < p.length),k + k2 - 1≤j→a[j]? = some p[j]
  so : Z7 (p.take (k + k2)) (a.take i)
theorem qtd {p : List Int} (hp : p.Pairwise (·≤·)) (hl : p.length≤1000000) {k b i : Nat} {a : List Int} (hk : 0 < k) (h2 : 0 < b) (u : k + b < p.length) (h : CInv p k b i a) :
    ∃ (i' : Nat) (a' : List Int),q29 ((i : Int),(k,p.length - k),(b : Int),a) = some (.inl ((i' : Int),(k,p.length - k),((b + 1 : Nat) : Int),a'))∧CInv p k (b + 1) i' a':=by
  obtain ⟨h1,h3,o,h5,s⟩:=h;have hb : decide ((b : Int) < ((p.length - k : Nat) : Int)) = true:=dlt q6
  have r1 : idxW a (k,p.length - k) (b : Int) = some (p[k + b]):=by
    unfold idxW;rw [qr ⟨q6,q6⟩];simp only [Int.toNat_natCast];exact o (k + b) u q6
  have z : idxW a (k,p.length - k) (w64 ((b : Int) - 1)) = some (p[k + b - 1]):=by
    rw [Qg q6];have e : (b : Int) - 1 = ((b - 1 : Nat) : Int):=by omega
    rw [e];unfold idxW;rw [qr ⟨q6,q6⟩];simp only [Int.toNat_natCast];have:=o (k + b - 1) q6 q6;rw [show k + (b - 1) = k + b - 1 by omega];exact this
  have ai : p[k + b - 1]≤p[k + b]:=List.pairwise_iff_getElem.1 hp _ _ q6 u q6
  have g : p[k + b - 1]∈p.take (k + b):=by
    rw [List.mem_take_iff_getElem];exact ⟨k + b - 1,q6,rfl⟩
  have d : p.take (k + (b + 1)) = p.take (k + b) ++ [p[k + b]]:=by rw [← Nat.add_assoc,List.take_succ_eq_append_getElem u]
  have hw : w64 ((b : Int) + 1) = ((b + 1 : Nat) : Int):=w64s (n:=p.length) q6 hl;by_cases v : p[k + b] = p[k + b - 1]
  · refine ⟨i,a,?_,h1,q6,fun j q r=>o j q q6,?_⟩
    · have c : (p[k + b] != p[k + b - 1]) = false:=by rw [v];simp
      simp only [q29,hb,Q3,r1,z,qk,c,Q0,hw]
    · rw [d];refine ⟨h5,fun x=>?_⟩;rw [s x];constructor
      · intro m;exact List.mem_append.2 (.inl m)
      · intro m;rcases List.mem_append.1 m with h | h
        · exact h
        · simp only [List.mem_singleton] at h;rw [h,v];exact g
  · have c : (p[k + b] != p[k + b - 1]) = true:=by simpa using v
    have l : i < a.length:=by omega
    have r3 : idx a (i : Int) = some a[i]:=Qv l;have w : w64 ((i : Int) + 1) = ((i + 1 : Nat) : Int):=w64s (n:=p.length) q6 hl;refine ⟨i + 1,a.set i p[k + b],?_,by simpa using h1,q6,fun j q r=>?_,?_⟩
    · simp only [q29,hb,Q3,r1,z,qk,c,r3,hw,w,Int.toNat_natCast]
    · rw [List.getElem?_set_ne q6];exact o j q q6
    · have e : (a.set i p[k + b]).take (i + 1) = a.take i ++ [p[k + b]]:=by
        rw [List.take_succ_eq_append_getElem (by simpa using l)];simp [List.take_set_of_le]
      rw [e,d];refine ⟨?_,fun x=>?_⟩
      · rw [List.pairwise_append];refine ⟨h5,qg,fun x m y hy=>?_⟩;simp only [List.mem_singleton] at hy;subst hy;have f:=(s x).1 m;rw [List.mem_take_iff_getElem] at f;obtain ⟨j,q,rfl⟩:=f
        have : p[j]≤p[k + b - 1]:=by
          by_cases t : j = k + b - 1
          · subst t;exact Int.le_refl _
          · exact List.pairwise_iff_getElem.1 hp _ _ q6 q6 q6
        omega
      · rw [List.mem_append,List.mem_append,s x]
theorem qtc {p : List Int} (hp : p.Pairwise (·≤·)) (v : p.length≤1000000) {k : Nat} (n : 0 < k) (r : k < p.length) (s : Z7 (p.take (k + 1)) (p.take k)) :
    ∃ i : Nat,∃ a : List Int,loop q29 ((k : Int),(k,p.length - k),1,p) = some ((i : Int),a)∧a.length = p.length∧i≤p.length∧Z7 p (a.take i):=by
  have h:=J2 (f:=q29) (mk:=fun d (c : Nat × List Int)=>((c.1 : Int),(k,p.length - k),((d : Nat) : Int),c.2)) (p.length - k) (fun d c=>0 < d∧CInv p k d c.1 c.2)
    (fun b=>∃ i : Nat,∃ a : List Int,b = ((i : Int),a)∧a.length = p.length∧i≤p.length∧Z7 p (a.take i))
    (fun d c q g=>by
      obtain ⟨o,a',m,t⟩:=qtd hp v n g.1 q6 g.2
      exact .inl ⟨(o,a'),m,q6,t⟩)
    (fun c g=>by
      obtain ⟨l,y,z,h4,w⟩:=g;refine ⟨((c.1 : Int),c.2),?_,c.1,c.2,rfl,y,q6,?_⟩
      · simp only [q29,dnl,Q0]
      · rwa [List.take_of_length_le q6] at w)
    (k0:=1) (c0:=(k,p)) q6 ⟨q6,rfl,qg,fun j x _=>by simp [x],s⟩
  obtain ⟨b,hb,i,a,rfl,u⟩:=h;exact ⟨i,a,hb,u⟩
theorem qkp {p : List Int} (hp : p.Pairwise (·≤·)) (y : p.length≤1000000) :
    ∃ w a,q1h p = some ((0,w),a)∧a.length = p.length∧w≤p.length∧Z7 p (a.take w):=by
  unfold q1h;by_cases hs : p.length < 2
  · rw [Qc (by omega : (p.length : Int) < 2),Q3];refine ⟨p.length,p,rfl,rfl,Nat.le_refl _,?_⟩;rw [List.take_length];refine ⟨?_,fun x=>Iff.rfl⟩
    match p,hs with
    | [],_=>simp
    | [x],_=>simp
  rw [Q9 (by omega : ¬ (p.length : Int) < 2),Q0]
  have c : ∀ k,k≤p.length→(∀ j (g : j < k),0 < j→∀ h : j < p.length,p[j]≠p[j - 1])→Z7 (p.take k) (p.take k):=by
    intro k d q;refine ⟨?_,fun x=>Iff.rfl⟩;rw [List.pairwise_iff_getElem];intro i j hi g ab;simp only [List.length_take] at hi g;simp only [List.getElem_take];have l : p[j - 1]≤p[j]:=List.pairwise_iff_getElem.1 hp _ _ q6 q6 q6;have r:=q j q6 q6 q6
    have h3 : p[i]≤p[j - 1]:=by
      by_cases e : i = j - 1
      · subst e;exact Int.le_refl _
      · exact List.pairwise_iff_getElem.1 hp _ _ q6 q6 q6
    omega
  have b : ∀ k,0 < k→∀ h : k < p.length,p[k]≠p[k - 1]→Jr p (k : Int) = some (.inl ((k + 1 : Nat) : Int)):=by
    intro k n h q;have t : idx p (w64 ((k : Int) - 1)) = some (p[k - 1]):=by rw [Qg q6];exact Zy q6 q6
    have hb : (p[k] == p[k - 1]) = false:=by simpa using q
    simp only [Jr,dlt h,Q3,Qv h,t,qk,hb,Q0,w64s h y]
  by_cases v : ∀ j,0 < j→∀ h : j < p.length,p[j]≠p[j - 1]
  · have l : loop (Jr p) 1 = some (.inl ()):=by
      exact Ja (f:=Jr p) (fun k=>((k + 1 : Nat) : Int)) (p.length - 1) _ (fun k d=>by
        exact b (k + 1) q6 q6 (v (k + 1) q6 q6)) (by
        show Jr p (((p.length - 1) + 1 : Nat) : Int) = _;rw [show p.length - 1 + 1 = p.length by omega]
        simp only [Jr,dnl,Q0]) (Nat.zero_le _)
    rw [l];refine ⟨p.length,p,rfl,rfl,Nat.le_refl _,?_⟩;have:=c p.length (Nat.le_refl _) fun j _ n h=>v j n h;rw [List.take_length] at this ⊢;exact this
  · have r : ∃ k,(0 < k∧∃ h : k < p.length,p[k] = p[k - 1])∧∀ j,j < k→¬ (0 < j∧∃ h : j < p.length,p[j] = p[j - 1]):=by
      have : ∃ k,0 < k∧∃ h : k < p.length,p[k] = p[k - 1]:=by
        refine Classical.byContradiction fun hn=>v fun j n h o=>hn ⟨j,n,h,o⟩
      obtain ⟨k,d⟩:=this
      induction k using Nat.strongRecOn with
      | _ k ih=>
        by_cases g : ∃ j,j < k∧(0 < j∧∃ h : j < p.length,p[j] = p[j - 1])
        · obtain ⟨j,l,r⟩:=g;exact ih j l r
        · exact ⟨k,d,fun j l r=>g ⟨j,l,r⟩⟩
    obtain ⟨k,⟨n,d,o⟩,m⟩:=r;have u : Z7 (p.take k) (p.take k):=c k q6 fun j g n h o=>m j g ⟨n,h,o⟩
    have s : Z7 (p.take (k + 1)) (p.take k):=by
      refine ⟨u.1,fun x=>?_⟩;rw [List.take_succ_eq_append_getElem d,List.mem_append];refine ⟨.inl,fun h=>h.elim id fun h=>?_⟩;simp only [List.mem_singleton] at h;rw [h,o,List.mem_take_iff_getElem];exact ⟨k - 1,q6,rfl⟩
    obtain ⟨i,a,e1,e2,e3,e4⟩:=qtc hp y n d s;have s1 : sub2 p.length (k : Int) (p.length : Int) = some (k,p.length - k):=by unfold sub2;rw [qr ⟨q6,q6,q6⟩];simp
    have z : sub2 a.length (i : Int) (a.length : Int) = some (i,a.length - i):=by unfold sub2;rw [qr ⟨q6,q6,q6⟩];simp
    have s3 : sub2 a.length 0 (i : Int) = some (0,i):=by unfold sub2;rw [qr ⟨q6,q6,q6⟩];simp
    have t : idx p (w64 ((k : Int) - 1)) = some (p[k - 1]):=by rw [Qg q6];exact Zy q6 q6
    have l : loop (Jr p) 1 = some (.inr ((0,i),clrw a (i,a.length - i) 0)):=by
      exact Ja (f:=Jr p) (fun k=>((k + 1 : Nat) : Int)) (k - 1) _ (fun j g=>by
        exact b (j + 1) q6 q6 fun o=>m (j + 1) q6 ⟨q6,q6,o⟩) (by
        show Jr p (((k - 1) + 1 : Nat) : Int) = _;rw [show k - 1 + 1 = k by omega];have hb : (p[k] == p[k - 1]) = true:=by simpa using o
        simp only [Jr,dlt d,Q3,Qv d,t,qk,hb,s1,e1,z,s3]) (Nat.zero_le _)
    rw [l];refine ⟨i,clrw a (i,a.length - i) 0,rfl,by rw [qkf (by simp;omega)];exact e2,e3,?_⟩
    have : (clrw a (i,a.length - i) 0).take i = a.take i:=by
      unfold clrw splice;rw [List.append_assoc,List.take_append_of_le_length (by simp;omega)];simp [List.take_take]
    rw [this];exact e4
end Go.Sh
namespace Go.Sh
open Go Go.Am
theorem q9t {α : Type} [DecidableEq α] (e : α→α→Bool) (l : ∀ v w,e v w = decide (v = w)) (p q : List α) (o : p.length≤1000000) (f : Int→Option (Int ⊕ (Unit ⊕ Bool)))
    (j : ∀ k,f k = cond (decide (k < (p.length : Int))) ((idx p k).bind fun v=>(idx q k).bind fun w=>cond (!(e v w)) (some (.inr (.inr false))) (some (.inl (w64 (k + 1))))) (some (.inr (.inl ())))) :
    cond ((p.length : Int) != (q.length : Int)) (some false) ((loop f 0).bind fun m=>(match m with | .inl _=>some true | .inr x=>some x)) = some (decide (p = q)):=by
  by_cases a : p.length = q.length
  · have : ((p.length : Int) != (q.length : Int)) = false:=by rw [a];simp
    rw [this,Q0]
    let c : Nat→Bool:=fun k=>if h : k < p.length then !(e p[k] (q[k]'(q6))) else false
    have hs : ∀ (k : Nat) (h : k < (List.range p.length).length),f (k : Int) = some (if c (List.range p.length)[k] = true then .inr (.inr false) else .inl ((k + 1 : Nat) : Int)):=by
      intro k h;have h : k < p.length:=by simpa using h
      rw [j];simp only [dlt h,Q3,Qv h,Qv (xs:=q) (k:=k) q6,qk,List.getElem_range,c,dif_pos h,w64s h o];cases e p[k] (q[k]'(q6)) <;> simp
    have hd : f ((List.range p.length).length : Int) = some (.inr (.inl ())):=by rw [j];simp []
    rcases Zh (List.range p.length) c (fun _ _=>false) () f hs hd with ⟨r,b⟩ | ⟨k,n,d,_,b⟩
    · rw [b]
      have : p = q:=by
        refine List.ext_getElem a fun k g t=>?_;have:=r k (by simpa using g);simp only [c,dif_pos g,l,Bool.not_eq_false',decide_eq_true_eq] at this;exact this
      simp [this]
    · rw [b];have s : k < p.length:=by simpa using n
      have : p≠q:=by
        intro h;simp only [List.getElem_range,c,l,h] at d;simp at d
      simp [this]
  · have : ((p.length : Int) != (q.length : Int)) = true:=by simpa using (fun h : (p.length : Int) = q.length=>a q6)
    rw [this,Q3];have : p≠q:=fun h=>a (by rw [h]);simp [this]
theorem ql5 (p q : List qn) (a : p.length≤1000000) : qas p q = some (decide (p = q)):=
  q9t (fun v w=>((v.Lo == w.Lo) && ((v.Hi == w.Hi) && true))) (fun v w=>by cases v;cases w;rw [Bool.eq_iff_iff];simp) p q a (qec p q) (fun _=>rfl)
theorem qoq (p q : List qn) (a : p.length≤1000000) : q6p p q = some (decide (p = q)):=
  q9t (fun v w=>((v.Lo == w.Lo) && ((v.Hi == w.Hi) && true))) (fun v w=>by cases v;cases w;rw [Bool.eq_iff_iff];simp) p q a (qdv p q) (fun _=>rfl)
theorem qg9 (p q : List qj) (a : p.length≤1000000) : q7i p q = some (decide (p = q)):=
  q9t (fun v w=>((v.X0 == w.X0) && ((v.Y0 == w.Y0) && ((v.X1 == w.X1) && ((v.Y1 == w.Y1) && true))))) (fun v w=>by cases v;cases w;rw [Bool.eq_iff_iff];simp) p q a (qea p q) (fun _=>rfl)
theorem qop (p q : List qj) (a : p.length≤1000000) : q6t p q = some (decide (p = q)):=
  q9t (fun v w=>((v.X0 == w.X0) && ((v.Y0 == w.Y0) && ((v.X1 == w.X1) && ((v.Y1 == w.Y1) && true))))) (fun v w=>by cases v;cases w;rw [Bool.eq_iff_iff];simp) p q a (qdw p q) (fun _=>rfl)
theorem sameBox (p q : List qh) (a : p.length≤1000000) : q6z p q = some (decide (p = q)):=
  q9t (fun v w=>((v.Lo.X == w.Lo.X) && ((v.Lo.Y == w.Lo.Y) && ((v.Lo.Z == w.Lo.Z) && ((v.Hi.X == w.Hi.X) && ((v.Hi.Y == w.Hi.Y) && ((v.Hi.Z == w.Hi.Z) && true))))))) (fun v w=>by rcases v with ⟨⟨_,_,_⟩,⟨_,_,_⟩⟩;rcases w with ⟨⟨_,_,_⟩,⟨_,_,_⟩⟩;rw [Bool.eq_iff_iff];simp [and_assoc]) p q a (qdz p q) (fun _=>rfl)
structure Mg (σ β : Type) where
  done : List β
  sec : List σ
  lo : Int
  hi : Int
section
variable {σ β : Type} [DecidableEq σ] (put : Int→Int→σ→β)
def Mg.flat (s : Mg σ β) : List β:=s.done ++ s.sec.map (put s.lo s.hi)
def addM (s : Mg σ β) (a b : Int) (c : List σ) : Mg σ β:=if c≠[]∧c = s.sec∧s.hi = a then ⟨s.done,s.sec,s.lo,b⟩ else ⟨s.flat put,c,a,b⟩
def K2 : Mg σ β:=⟨[],[],0,0⟩
def K4 (s0 : Mg σ β) (steps : List (Int × Int × List σ)) : Mg σ β:=steps.foldl (fun s t=>addM put s t.1 t.2.1 t.2.2) s0
theorem q47 {s0 : Mg σ β} {steps : List (Int × Int × List σ)} {i : Nat} (h : i < steps.length) : K4 put s0 (steps.take (i + 1)) = addM put (K4 put s0 (steps.take i)) steps[i].1 steps[i].2.1 steps[i].2.2:=by
  unfold K4;rw [List.take_succ_eq_append_getElem h,List.foldl_append];rfl
theorem qjg (s : Mg σ β) (a b : Int) (c : List σ) : (addM put s a b c).hi = b:=by unfold addM;split <;> rfl
theorem qrc (s : Mg σ β) (a b : Int) (c : List σ) : ((addM put s a b c).flat put).length≤(s.flat put).length + c.length:=by
  unfold addM;split
  · simp [Mg.flat]
  · simp [Mg.flat];omega
theorem qd1 {s0 : Mg σ β} {M : Nat} : ∀ {steps : List (Int × Int × List σ)},(∀ t∈steps,t.2.2.length≤M)→((K4 put s0 steps).flat put).length≤(s0.flat put).length + steps.length * M:=by
  intro steps
  induction steps generalizing s0 with
  | nil=>intro _;simp [K4]
  | cons t r ih=>
    intro h;have f:=ih (s0:=addM put s0 t.1 t.2.1 t.2.2) fun u b=>h u (by simp [b]);have d:=qrc put s0 t.1 t.2.1 t.2.2;have c:=h t qg;have a : K4 put s0 (t::r) = K4 put (addM put s0 t.1 t.2.1 t.2.2) r:=rfl;rw [a];simp only [List.length_cons,Nat.succ_mul];omega
end
section
variable {σ : Type}
def Yy (cuts : List Int) (sec : Int→List σ) : List (Int × Int × List σ):=(cuts.zip cuts.tail).map fun c=>(c.1,c.2,sec c.1)
theorem q8v (a : List Int) (sec : Int→List σ) : (Yy a sec).length = a.length - 1:=by simp [Yy]
theorem q8u {a : List Int} {sec : Int→List σ} {i : Nat} (h : i < (Yy a sec).length) (b : i + 1 < a.length) : (Yy a sec)[i] = (a[i],a[i + 1],sec a[i]):=by
  simp [Yy]
theorem q154 {a : List Int} {sec : Int→List σ} {M : Nat} (h : ∀ x,(sec x).length≤M) : ∀ t∈Yy a sec,t.2.2.length≤M:=by
  intro t b;simp only [Yy,List.mem_map] at b;obtain ⟨c,_,rfl⟩:=b;exact h _
end
theorem q1o {σ β : Type} [DecidableEq σ] (put : Int→Int→σ→β) (s : Mg σ β) (a b : Int) (c : List σ) : (c≠[]∧c = s.sec∧s.hi = a∧addM put s a b c = ⟨s.done,s.sec,s.lo,b⟩)∨(¬ (c≠[]∧c = s.sec∧s.hi = a)∧addM put s a b c = ⟨s.flat put,c,a,b⟩):=by
  unfold addM;split
  · rename_i h;exact .inl ⟨h.1,h.2.1,h.2.2,rfl⟩
  · rename_i h;exact .inr ⟨h,rfl⟩
def putR (a b : Int) (t : qn) : qj:={X0:=a,Y0:=t.Lo,X1:=b,Y1:=t.Hi}
theorem qjx (s : Mg qn qj) (a b : Int) (c : List qn) (z : (s.flat putR).length + c.length≤1000000) :
    q77 (s.flat putR) s.sec (s.done.length : Int) s.hi a b c = some ((addM putR s a b c).sec,((addM putR s a b c).done.length : Int),(addM putR s a b c).hi,(addM putR s a b c).flat putR):=by
  have d : s.sec.length≤1000000:=by have : (s.flat putR).length = s.done.length + s.sec.length:=(by simp [Mg.flat]);omega
  unfold q77;rcases q1o putR s a b c with ⟨q,r,w,p⟩ | ⟨q,p⟩
  · have hb : decide ((c.length : Int) > 0) = true:=Qc (by have:=List.length_pos_iff.2 q;omega);have y : (s.hi == a) = true:=by simpa using w
    rw [r] at hb;rw [p,r];simp only [hb,Q3,y,qk,ql5 _ _ d,decide_true]
    have:=qcz (fun v : qj=>({X0:=v.X0,Y0:=v.Y0,X1:=b,Y1:=v.Y1} : qj)) s.done (s.sec.map (putR s.lo s.hi)) (by have : (s.done ++ s.sec.map (putR s.lo s.hi)).length = (s.flat putR).length:=rfl;omega) (q78 b) (fun k o f u=>by
      have l : (s.done ++ s.sec.map (putR s.lo s.hi)).length = (s.flat putR).length:=rfl
      simp only [q78,dlt f,Q3,Qv f,qk,w64s f q6,Int.toNat_natCast]) (fun o=>by simp only [q78,dnl,Q0])
    rw [show s.flat putR = s.done ++ s.sec.map (putR s.lo s.hi) from rfl,this];simp only [qk,Mg.flat,List.map_map];rfl
  · rw [p]
    have t : ((cond (decide ((c.length : Int) > 0)) (some (s.hi == a)) (some false)).bind fun g=>(cond g ((qas s.sec c).bind fun j=>some j) (some false))) = some false:=by
      by_cases l : c = []
      · subst l;simp
      · have hb : decide ((c.length : Int) > 0) = true:=Qc (by have:=List.length_pos_iff.2 l;omega);simp only [hb,Q3,qk,ql5 _ _ d];by_cases m : s.hi = a
        · have x : s.sec≠c:=fun h=>q ⟨l,h.symm,m⟩;simp [m,x]
        · have : (s.hi == a) = false:=by simpa using m
          simp [this]
    have n:=qa2 c (putR a b) (s.flat putR) (fun o=>(c,((s.flat putR).length : Int),b,o)) (q79 c a b (s.flat putR)) (fun k f o u=>by
      simp only [q79,dlt f,Q3,Qv f,qk,w64s f q6];rw [Y7 (by simp;omega)]
      rfl) (fun o=>by simp only [q79,dnl,Q0])
    rw [← Option.bind_assoc,t];simp only [qk,Q0,n];simp [Mg.flat]
end Go.Sh
namespace Go.Sh
open Go Go.Am
def vR (r : qj) : Prop:=r.X0 < r.X1∧r.Y0 < r.Y1∧-1000000≤r.X0∧r.X0≤1000000∧-1000000≤r.X1∧r.X1≤1000000∧-1000000≤r.Y0∧r.Y0≤1000000∧-1000000≤r.Y1∧r.Y1≤1000000
instance (r : qj) : Decidable (vR r):=by unfold vR;infer_instance
theorem qu8 (x : Int) : q3j x = some (decide (-1000000≤x∧x≤1000000)):=by
  unfold q3j;by_cases h : x ≥ -1000000 <;> by_cases a : x≤1000000 <;> simp [h,a] <;> omega
theorem qqy (r : qj) : q7b r = some (decide (vR r)):=by
  unfold q7b;simp only [qu8,qte,qk,vR];by_cases g : r.X0 < r.X1 <;> by_cases a : r.Y0 < r.Y1 <;> by_cases c : -1000000≤r.X0∧r.X0≤1000000 <;> by_cases d : -1000000≤r.X1∧r.X1≤1000000 <;> by_cases f : -1000000≤r.Y0∧r.Y0≤1000000 <;> by_cases b : -1000000≤r.Y1∧r.Y1≤1000000 <;> simp [g,a,c,d,f,b] <;> omega
def covR (x : Int) (r : qj) : Bool:=decide (r.X0≤x) && decide (x < r.X1)
def ysp (r : qj) : qn:={Lo:=r.Y0,Hi:=r.Y1}
def covS (l : List qj) (x : Int) : List qn:=l.flatMap fun r=>if covR x r = true then [ysp r] else []
def hasR (l : List qj) (x y : Int) : Prop:=∃ r∈l,r.X0≤x∧x < r.X1∧r.Y0≤y∧y < r.Y1
theorem qdi {l : List qj} {x : Int} {t : qn} : t∈covS l x↔∃ r∈l,covR x r = true∧t = ysp r:=by
  unfold covS;rw [List.mem_flatMap];constructor
  · rintro ⟨r,a,h⟩;split at h
    · rename_i b;simp only [List.mem_singleton] at h;exact ⟨r,a,b,h⟩
    · cases h
  · rintro ⟨r,a,b,rfl⟩;exact ⟨r,a,by simp [b]⟩
theorem q1c {l : List qj} {x y : Int} : has (covS l x) y↔hasR l x y:=by
  unfold has hasR;constructor
  · rintro ⟨t,h,d,a⟩;obtain ⟨r,b,c,rfl⟩:=qdi.1 h;simp only [covR,Bool.and_eq_true,decide_eq_true_eq] at c;exact ⟨r,b,c.1,c.2,d,a⟩
  · rintro ⟨r,b,d,a,f,g⟩;exact ⟨ysp r,qdi.2 ⟨r,b,by simp [covR,d,a],rfl⟩,f,g⟩
theorem Uz (l : List qj) (x : Int) : (covS l x).length≤l.length:=by
  unfold covS
  induction l with
  | nil=>simp
  | cons r l ih=>
    simp only [List.flatMap_cons,List.length_append,List.length_cons];have : (if covR x r = true then [ysp r] else []).length≤1:=by split <;> simp
    omega
theorem qku {l : List qj} (h : ∀ r∈l,vR r) (x : Int) : ∀ t∈covS l x,vld t:=by
  intro t f;obtain ⟨r,b,_,rfl⟩:=qdi.1 f;obtain ⟨_,a,_,_,_,_,c,_,_,d⟩:=h r b;exact ⟨a,c,d⟩
def xsOf (l : List qj) : List Int:=l.flatMap fun r=>[r.X0,r.X1]
def ysOf (l : List qj) : List Int:=l.flatMap fun r=>[r.Y0,r.Y1]
theorem Ug (l : List qj) : (xsOf l).length = 2 * l.length:=by
  unfold xsOf;induction l with
  | nil=>rfl
  | cons r l ih=>simp only [List.flatMap_cons,List.length_append,List.length_cons,List.length_nil];omega
theorem qcc (l : List qj) : (ysOf l).length = 2 * l.length:=by
  unfold ysOf;induction l with
  | nil=>rfl
  | cons r l ih=>simp only [List.flatMap_cons,List.length_append,List.length_cons,List.length_nil];omega
theorem ql3 {l : List qj} {x y : Int} (h : y∈ends (covS l x)) : y∈ysOf l:=by
  obtain ⟨t,b,h⟩:=qa4.1 h;obtain ⟨r,a,_,rfl⟩:=qdi.1 b;unfold ysOf;rw [List.mem_flatMap];exact ⟨r,a,by rcases h with h | h <;> simp [h,ysp]⟩
noncomputable def K1 (l : List Int) : List Int:=(Ub l).getD []
theorem U5 {l : List Int} (a : l.length≤1000000) : Ub l = some (K1 l)∧Z7 l (K1 l)∧(K1 l).length≤l.length:=by
  obtain ⟨t,c,b,d⟩:=qpr l a;unfold K1;rw [c];exact ⟨rfl,b,d⟩
noncomputable def secJ (kind : Int) (p q : List qj) (x : Int) : List qn:=Jl kind (covS p x) (covS q x)
theorem qif (kind : Int) {p q : List qj} (h : p.length + q.length≤100000) (x : Int) : (secJ kind p q x).length≤2 * (p.length + q.length):=by
  have b:=Uz p x;have a:=Uz q x;have:=(q66 kind (covS p x) (covS q x) q6 q6).2.len;unfold secJ;omega
noncomputable def mrg (kind : Int) (p q : List qj) : Mg qn qj:=K4 putR K2 (Yy (K1 (xsOf p ++ xsOf q)) (secJ kind p q))
noncomputable def mrgR (kind : Int) (p q : List qj) : List qj:=(mrg kind p q).flat putR
theorem qcu {p q : List qj} (h : p.length + q.length≤490) : Ub (xsOf p ++ xsOf q) = some (K1 (xsOf p ++ xsOf q))∧Z7 (xsOf p ++ xsOf q) (K1 (xsOf p ++ xsOf q))∧(K1 (xsOf p ++ xsOf q)).length≤2 * (p.length + q.length):=by
  have f:=Ug p;have d:=Ug q;obtain ⟨a,b,c⟩:=U5 (l:=xsOf p ++ xsOf q) (by simp;omega);exact ⟨a,b,by simp at c;omega⟩
theorem qg6 {p q : List qj} (h : p.length + q.length≤490) : Ub (ysOf p ++ ysOf q) = some (K1 (ysOf p ++ ysOf q))∧Z7 (ysOf p ++ ysOf q) (K1 (ysOf p ++ ysOf q))∧(K1 (ysOf p ++ ysOf q)).length≤2 * (p.length + q.length):=by
  have f:=qcc p;have d:=qcc q;obtain ⟨a,b,c⟩:=U5 (l:=ysOf p ++ ysOf q) (by simp;omega);exact ⟨a,b,by simp at c;omega⟩
theorem qn7 (kind : Int) {p q : List qj} (h : p.length + q.length≤490) (i : Nat) :
    ((K4 putR K2 ((Yy (K1 (xsOf p ++ xsOf q)) (secJ kind p q)).take i)).flat putR).length≤980 * 980:=by
  have f:=qd1 putR (s0:=K2) (M:=980) (steps:=(Yy (K1 (xsOf p ++ xsOf q)) (secJ kind p q)).take i) (fun t b=>by
    have:=q154 (M:=2 * (p.length + q.length)) (fun x=>qif kind q6 x) t (List.mem_of_mem_take b)
    omega)
  have a : ((Yy (K1 (xsOf p ++ xsOf q)) (secJ kind p q)).take i).length≤980:=by
    have:=(qcu h).2.2;rw [List.length_take,q8v];omega
  have c : (K2.flat putR : List qj).length = 0:=rfl;have d : ((Yy (K1 (xsOf p ++ xsOf q)) (secJ kind p q)).take i).length * 980≤980 * 980:=Nat.mul_le_mul_right _ a;omega
theorem qvy (l : List qj) (hl : l.length≤400) :
    (((idx [l] 0).bind fun g=>(loop (Je g) (0,[])).bind fun x0=>some x0).bind fun f=>(Ud f).bind fun c=>(K6 c.length f.length).bind fun p=>(q1h c).bind fun b=>(K6 b.2.length c.length).bind fun q=>(q1m b.2.length b.1).bind fun m=>some ((b.2.drop b.1.1).take b.1.2)) = some (K1 (xsOf l)):=by
  have y : idx [l] 0 = some l:=rfl
  have v : loop (Je l) (0,[]) = some (xsOf l):=by
    have:=U0 l q6 (fun r=>[r.X0,r.X1]) [] (fun o=>o) (Je l) (fun k h o t=>by
      have h8 : o.length = 2 * k:=by rw [t,List.nil_append];have:=Ug (l.take k);rw [List.length_take,Nat.min_eq_left q6] at this;exact this
      simp only [Je,dlt h,Q3,Qv h,qk,w64s h q6];rw [Y7 (by simp;omega)]
      rfl) (fun o=>by simp only [Je,dnl,Q0])
    rw [List.nil_append] at this;exact this
  have hx:=Ug l;obtain ⟨ys,s,n,u⟩:=qpp (xsOf l) q6;have j : ys.length = (xsOf l).length:=n.length_eq;obtain ⟨w,a,c1,c2,c3,c4⟩:=qkp u q6;obtain ⟨_,z,_⟩:=U5 (l:=xsOf l) q6
  have d : a.take w = K1 (xsOf l):=by
    refine qpq (l:=xsOf l) ⟨c4.1,fun x=>?_⟩ z;rw [c4.2 x];exact n.mem_iff
  simp only [y,qk,v,s,K6,j,if_true,c1,c2,q1m];rw [qr q6];simp only [qk,List.drop_zero,d]
theorem qh5 (l : List qj) (g : l.length≤400) (x : Int) : loop (Uv l x) (0,[]) = some (covS l x):=by
  have:=U0 l q6 (fun r=>if covR x r = true then [ysp r] else []) [] (fun o=>o) (Uv l x) (fun k a o d=>by
    have f : o.length≤k:=by rw [d,List.nil_append];have:=Uz (l.take k) x;rw [List.length_take,Nat.min_eq_left q6] at this;exact this
    simp only [Uv,dlt a,Q3,Qv a,qk,w64s a q6];by_cases b : l[k].X0≤x
    · by_cases c : x < l[k].X1
      · simp only [b,c,decide_true,Q3,qk,covR,Bool.and_self,if_true];rw [Y7 (by simp;omega)];rfl
      · simp only [b,c,decide_true,decide_false,Q3,Q0,qk,covR,Bool.and_false,if_false,Bool.false_eq_true,List.append_nil]
    · simp only [b,decide_false,Q0,qk,covR,Bool.false_and,if_false,Bool.false_eq_true,List.append_nil]) (fun o=>by simp only [Uv,dnl,Q0])
  rw [List.nil_append] at this;exact this
theorem qmt (l : List qj) (t : l.length≤400) (x : ∀ r∈l,vR r) : q7a l = some (if 400 < (mrgR 2 l []).length then ([],4) else (mrgR 2 l [],0)):=by
  unfold q7a;rw [qvy l t];simp only [qk];have c : K1 (xsOf l ++ xsOf []) = K1 (xsOf l):=by simp [xsOf]
  obtain ⟨_,m,a⟩:=qcu (p:=l) (q:=[]) (by simp;omega);have d:=fun i=>qn7 2 (p:=l) (q:=[]) (by simp;omega) i;rw [c] at m a;have a : (K1 (xsOf l)).length≤2 * l.length:=by simpa using a
  have g : loop (q3k (K1 (xsOf l)) l) (1,[],0,0,[]) = some ((mrg 2 l []).sec,((mrg 2 l []).done.length : Int),(mrg 2 l []).hi,mrgR 2 l []):=by
    unfold mrgR mrg;rw [c] at d ⊢;generalize j : Yy (K1 (xsOf l)) (secJ 2 l []) = steps at d ⊢;have y : steps.length = (K1 (xsOf l)).length - 1:=by rw [← j];exact q8v _ _
    have h : K4 putR K2 (steps.take steps.length) = K4 putR K2 steps:=by rw [List.take_length]
    have key:=Ja (f:=q3k (K1 (xsOf l)) l) (fun k=>(((k + 1 : Nat) : Int),(K4 putR K2 (steps.take k)).sec,((K4 putR K2 (steps.take k)).done.length : Int),(K4 putR K2 (steps.take k)).hi,(K4 putR K2 (steps.take k)).flat putR))
      steps.length ((K4 putR K2 steps).sec,((K4 putR K2 steps).done.length : Int),(K4 putR K2 steps).hi,(K4 putR K2 steps).flat putR) (fun k s=>by
        have b : k + 1 < (K1 (xsOf l)).length:=by omega
        have hg : steps[k] = ((K1 (xsOf l))[k],(K1 (xsOf l))[k + 1],secJ 2 l [] (K1 (xsOf l))[k]):=by
          subst j;exact q8u s b
        have z : idx (K1 (xsOf l)) (w64 (((k + 1 : Nat) : Int) - 1)) = some (K1 (xsOf l))[k]:=by rw [Qg q6];exact Zy q6 q6
        have w:=Uz l (K1 (xsOf l))[k]
        have o : q8s (covS l (K1 (xsOf l))[k]) = some (secJ 2 l [] (K1 (xsOf l))[k],0):=by
          rw [qvz];unfold qh6;rw [qp q6,qr (qku x _)];rfl
        have n:=qif 2 (p:=l) (q:=[]) (by simp;omega) (K1 (xsOf l))[k];have v:=d k;have hb:=qjx (K4 putR K2 (steps.take k)) (K1 (xsOf l))[k] (K1 (xsOf l))[k + 1] (secJ 2 l [] (K1 (xsOf l))[k]) (by simp at n;omega);rw [q47 putR s,hg];simp only [q3k,dlt b,Q3,z,Qv b,qk,show idx [l] 0 = some l from rfl,qh5 l t,o,hb,Bool.not_true,Q0]
        rw [w64s b q6]) (by
        rw [h];by_cases h0 : (K1 (xsOf l)).length = 0
        · have : decide (((steps.length + 1 : Nat) : Int) < ((K1 (xsOf l)).length : Int)) = false:=Q9 q6;simp only [q3k,this,Q0]
        · have : decide (((steps.length + 1 : Nat) : Int) < ((K1 (xsOf l)).length : Int)) = false:=Q9 q6
          simp only [q3k,this,Q0]) (Nat.zero_le _)
    exact key
  rw [g];simp only [qk];by_cases u : 400 < (mrgR 2 l []).length
  · rw [Qc (by omega : ((mrgR 2 l []).length : Int) > 400),qr u];rfl
  · rw [Q9 (by omega : ¬ ((mrgR 2 l []).length : Int) > 400),qp u];rfl
end Go.Sh
namespace Go.Sh
open Go Go.Am
theorem qyk {p q : List qj} (h : p.length + q.length≤490) : qab p q = some (K1 (xsOf p ++ xsOf q)):=by
  have c : loop (q4o p) (0,[]) = some (xsOf p):=by
    have:=U0 p q6 (fun r=>[r.X0,r.X1]) [] (fun o=>o) (q4o p) (fun k a o b=>by
      have d : o.length = 2 * k:=by rw [b,List.nil_append];have:=Ug (p.take k);rw [List.length_take,Nat.min_eq_left q6] at this;exact this
      simp only [q4o,dlt a,Q3,Qv a,qk,w64s a q6];rw [Y7 (by simp;omega)]
      rfl) (fun o=>by simp only [q4o,dnl,Q0])
    rw [List.nil_append] at this;exact this
  have f : loop (q4p q) (0,xsOf p) = some (xsOf p ++ xsOf q):=by
    have hp:=Ug p
    exact U0 q q6 (fun r=>[r.X0,r.X1]) (xsOf p) (fun o=>o) (q4p q) (fun k a o b=>by
      have d : o.length = 2 * p.length + 2 * k:=by
        rw [b,List.length_append,hp];have:=Ug (q.take k);rw [List.length_take,Nat.min_eq_left q6] at this;unfold xsOf at this;omega
      simp only [q4p,dlt a,Q3,Qv a,qk,w64s a q6];rw [Y7 (by simp;omega)]
      rfl) (fun o=>by simp only [q4p,dnl,Q0])
  unfold qab;simp only [c,f,qk,(qcu h).1]
theorem qym {p q : List qj} (h : p.length + q.length≤490) : qac p q = some (K1 (ysOf p ++ ysOf q)):=by
  have c : loop (q4q p) (0,[]) = some (ysOf p):=by
    have:=U0 p q6 (fun r=>[r.Y0,r.Y1]) [] (fun o=>o) (q4q p) (fun k a o b=>by
      have d : o.length = 2 * k:=by rw [b,List.nil_append];have:=qcc (p.take k);rw [List.length_take,Nat.min_eq_left q6] at this;exact this
      simp only [q4q,dlt a,Q3,Qv a,qk,w64s a q6];rw [Y7 (by simp;omega)]
      rfl) (fun o=>by simp only [q4q,dnl,Q0])
    rw [List.nil_append] at this;exact this
  have f : loop (q4r q) (0,ysOf p) = some (ysOf p ++ ysOf q):=by
    have hp:=qcc p
    exact U0 q q6 (fun r=>[r.Y0,r.Y1]) (ysOf p) (fun o=>o) (q4r q) (fun k a o b=>by
      have d : o.length = 2 * p.length + 2 * k:=by
        rw [b,List.length_append,hp];have:=qcc (q.take k);rw [List.length_take,Nat.min_eq_left q6] at this;unfold ysOf at this;omega
      simp only [q4r,dlt a,Q3,Qv a,qk,w64s a q6];rw [Y7 (by simp;omega)]
      rfl) (fun o=>by simp only [q4r,dnl,Q0])
  unfold qac;simp only [c,f,qk,(qg6 h).1]
open Classical in
theorem qo5 (l : List qj) (x y : Int) (o : l.length≤1000000) : q6q l x y = some (decide (hasR l x y)):=by
  let c : qj→Bool:=fun r=>decide (r.X0≤x) && (decide (x < r.X1) && (decide (r.Y0≤y) && decide (y < r.Y1)))
  have hs : ∀ (k : Nat) (h : k < l.length),q3e l x y (k : Int) = some (if c l[k] = true then .inr (.inr true) else .inl ((k + 1 : Nat) : Int)):=by
    intro k h;simp only [q3e,dlt h,Q3,Qv h,qk,w64s h o,c];by_cases d : l[k].X0≤x <;> by_cases a : x < l[k].X1 <;> by_cases m : l[k].Y0≤y <;> by_cases q : y < l[k].Y1 <;> simp [d,a,m,q]
  have hd : q3e l x y (l.length : Int) = some (.inr (.inl ())):=by simp only [q3e,dnl,Q0]
  unfold q6q;rcases Zh l c (fun _ _=>true) () (q3e l x y) hs hd with ⟨d,a⟩ | ⟨k,n,b,_,a⟩
  · rw [a]
    have : ¬ hasR l x y:=by
      rintro ⟨r,j,f,g,p,s⟩;have:=d r j;simp [c,f,g,p,s] at this
    simp [this]
  · rw [a]
    have : hasR l x y:=by
      simp only [c,Bool.and_eq_true,decide_eq_true_eq] at b;exact ⟨l[k],Kp n,b.1,b.2.1,b.2.2.1,b.2.2.2⟩
    simp [this]
theorem qgu {kind : Int} {a b : Prop} (h : Y9 kind a b) : a∨b:=by
  rcases h with ⟨_,h,_⟩ | ⟨_,h⟩ | ⟨_,_,h,_⟩
  · exact .inl h
  · exact h
  · exact .inl h
theorem qm8 {kind : Int} {a b a' c : Prop} (f : a↔a') (d : b↔c) : Y9 kind a b↔Y9 kind a' c:=by
  unfold Y9;rw [f,d]
open Classical in
theorem qs9 (kind : Int) {p q : List qj} (h : p.length + q.length≤490) (x : Int) :
    q4i (K1 (ysOf p ++ ysOf q)) ((K1 (ysOf p ++ ysOf q)).map fun y=>decide (Y9 kind (hasR p x y) (hasR q x y))) = some (secJ kind p q x):=by
  obtain ⟨_,a,g⟩:=qg6 h;generalize K1 (ysOf p ++ ysOf q) = ys at a g ⊢;obtain ⟨c,o,l⟩:=qk5 ys (ys.map fun y=>decide (Y9 kind (hasR p x y) (hasR q x y))) a.1 q6 qg;rw [o];have r:=Uz p x;have s:=Uz q x;have m:=(q66 kind (covS p x) (covS q x) q6 q6).2;have mp : ∀ z∈ends (covS p x),z∈ys:=fun z j=>(a.2 z).2 (List.mem_append.2 (.inl (ql3 j)));have mq : ∀ z∈ends (covS q x),z∈ys:=fun z j=>(a.2 z).2 (List.mem_append.2 (.inr (ql3 j)));congr 1;refine q5q l.can m.can fun z=>?_;unfold secJ;rw [l.pts z,m.pts z];constructor
  · rintro ⟨i,hi,n,_,f,b,d⟩;simp only [List.getElem_map,decide_eq_true_eq] at f;refine (qm8 ?_ ?_).2 f
    · rw [q3n a.1 mp hi b d,q1c]
    · rw [q3n a.1 mq hi b d,q1c]
  · intro k
    have : ∃ i,∃ (h : i + 1 < ys.length),ys[i]≤z∧z < ys[i + 1]:=by
      rcases qgu k with h | h
      · exact qda a.1 mp h
      · exact qda a.1 mq h
    obtain ⟨i,hi,b,d⟩:=this;refine ⟨i,hi,by simp;omega,q6,?_,b,d⟩;simp only [List.getElem_map,decide_eq_true_eq];refine (qm8 ?_ ?_).1 k
    · rw [q3n a.1 mp hi b d,q1c]
    · rw [q3n a.1 mq hi b d,q1c]
open Classical in
theorem qvh (kind : Int) {p q : List qj} (h : p.length + q.length≤490) (ys xs : List Int) (d : ys.length≤1000000) (i : Nat) (hi : i < xs.length) (a : List qn × Int × Int × List qj) (f : a.2.2.1 = i) :
    loop (q4m ys xs a p q kind) (0,[]) = some (ys.map fun y=>decide (Y9 kind (hasR p xs[i] y) (hasR q xs[i] y))):=by
  have:=qa2 ys (fun y=>decide (Y9 kind (hasR p xs[i] y) (hasR q xs[i] y))) [] (fun o=>o) (q4m ys xs a p q kind) (fun k b o c=>by
    simp only [q4m,dlt b,Q3,f,Qv b,Qv hi,qk,qo5 p _ _ q6,qo5 q _ _ q6,qm9,w64s b d];rw [Y7 (by simp at c ⊢;omega)]
    rfl) (fun o=>by simp only [q4m,dnl,Q0])
  rw [List.nil_append] at this;exact this
theorem qvi (kind : Int) {p q : List qj} (h : p.length + q.length≤490) {xs : List Int} (hx : xs.length≤1000000) {i : Nat} (hi : i + 1 < xs.length) (s : Mg qn qj) (hl : (s.flat putR).length + (secJ kind p q xs[i]).length≤1000000)
    (h0 : i = 0→s.sec = []) (h1 : 0 < i→s.hi = xs[i]) :
    q3f xs (K1 (ysOf p ++ ysOf q)) p q kind (s.sec,(s.done.length : Int),(i : Int),s.flat putR) =
      some (.inl ((addM putR s xs[i] xs[i + 1] (secJ kind p q xs[i])).sec,((addM putR s xs[i] xs[i + 1] (secJ kind p q xs[i])).done.length : Int),((i + 1 : Nat) : Int),(addM putR s xs[i] xs[i + 1] (secJ kind p q xs[i])).flat putR)):=by
  have f : i < xs.length:=by omega
  have y : w64 ((i : Int) + 1) = ((i + 1 : Nat) : Int):=w64s f hx;have hy:=(qg6 h).2.2;have ab : (s.flat putR).length = s.done.length + s.sec.length:=by simp [Mg.flat]
  have m:=qvh kind h (K1 (ysOf p ++ ysOf q)) xs q6 i f (s.sec,(s.done.length : Int),(i : Int),s.flat putR) rfl;unfold q3f;simp only [y,dlt hi,Q3,m,qk,qs9 kind h];generalize hc : secJ kind p q xs[i] = c at hl ⊢;by_cases a : 0 < i∧c = s.sec
  · obtain ⟨b,l⟩:=a;have hb : decide ((i : Int) > 0) = true:=Qc q6
    have d:=qcz (fun v : qj=>({X0:=v.X0,Y0:=v.Y0,X1:=xs[i + 1],Y1:=v.Y1} : qj)) s.done (s.sec.map (putR s.lo s.hi)) (by simp;omega) (q4n xs (s.sec,(s.done.length : Int),(i : Int),s.flat putR)) (fun k o g ho=>by
      have h5 : (s.done ++ s.sec.map (putR s.lo s.hi)).length = (s.flat putR).length:=rfl
      simp only [q4n,dlt g,Q3,Qv g,Qv hi,y,qk,w64s g q6,Int.toNat_natCast]) (fun o=>by simp only [q4n,dnl,Q0])
    have u : q6p c s.sec = some true:=by rw [qoq _ _ q6];simp [l]
    have d : loop (q4n xs (s.sec,(s.done.length : Int),(i : Int),s.flat putR)) ((s.done.length : Int),s.flat putR) = _:=d;simp only [hb,Q3,u,qk,d];rcases q1o putR s xs[i] xs[i + 1] c with ⟨_,_,_,j⟩ | ⟨h3,j⟩
    · rw [j];simp only [Mg.flat,List.map_map];rfl
    · have n : c = []:=Classical.byContradiction fun hn=>h3 ⟨hn,l,h1 b⟩;rw [j];simp [Mg.flat,← l,n]
  · have t : (cond (decide ((i : Int) > 0)) ((q6p c s.sec).bind fun r=>some r) (some false)) = some false:=by
      by_cases b : 0 < i
      · have hb : decide ((i : Int) > 0) = true:=Qc q6;have x : c≠s.sec:=fun h=>a ⟨b,h⟩;rw [hb,Q3,qoq _ _ q6];simp [x]
      · have hb : decide ((i : Int) > 0) = false:=Q9 q6;rw [hb,Q0]
    have w:=qa2 c (putR xs[i] xs[i + 1]) (s.flat putR) (fun o=>(c,((s.flat putR).length : Int),o)) (q6r c xs (s.sec,(s.done.length : Int),(i : Int),s.flat putR)) (fun k g o ho=>by
      simp only [q6r,dlt g,Q3,Qv g,Qv f,Qv hi,y,qk,w64s g q6];rw [Y7 (by simp;omega)]
      rfl) (fun o=>by simp only [q6r,dnl,Q0])
    have j : addM putR s xs[i] xs[i + 1] c = ⟨s.flat putR,c,xs[i],xs[i + 1]⟩:=by
      rcases q1o putR s xs[i] xs[i + 1] c with ⟨g1,z,_,_⟩ | ⟨_,j⟩
      · refine absurd ?_ a;refine ⟨Nat.pos_of_ne_zero fun h=>g1 ?_,z⟩;rw [z,h0 h]
      · exact j
    rw [j];simp only [t,qk,Q0,w];simp [Mg.flat]
theorem q6s (kind : Int) {p q : List qj} (h : p.length + q.length≤490) : Jp kind p q = some (mrgR kind p q):=by
  unfold Jp;rw [qyk h,qym h];simp only [qk];obtain ⟨_,g,c⟩:=qcu h;have a:=fun i=>qn7 kind h i;unfold mrgR mrg;generalize K1 (xsOf p ++ xsOf q) = xs at g c a ⊢;generalize b : Yy xs (secJ kind p q) = steps at a ⊢;have r : steps.length = xs.length - 1:=by rw [← b];exact q8v _ _
  have key:=Ja (f:=q3f xs (K1 (ysOf p ++ ysOf q)) p q kind) (fun k=>((K4 putR K2 (steps.take k)).sec,((K4 putR K2 (steps.take k)).done.length : Int),(k : Int),(K4 putR K2 (steps.take k)).flat putR))
    steps.length ((K4 putR K2 steps).flat putR) (fun k j=>by
      have d : k + 1 < xs.length:=by omega
      have t : steps[k] = (xs[k],xs[k + 1],secJ kind p q xs[k]):=by subst b;exact q8u j d
      have o:=qif kind (p:=p) (q:=q) q6 xs[k];have n:=a k
      have:=qvi kind h (xs:=xs) q6 d (K4 putR K2 (steps.take k)) q6 (fun s=>by subst s;rfl) (fun l=>by
        obtain ⟨m,rfl⟩ : ∃ m,k = m + 1:=⟨k - 1,q6⟩
        rw [q47 putR q6,qjg];subst b
        rw [q8u q6 q6])
      rw [this,q47 putR j,t]) (by
      rw [List.take_length]
      have hb : decide (w64 ((steps.length : Int) + 1) < (xs.length : Int)) = false:=by
        rw [Qg q6];exact Q9 q6
      unfold q3f
      simp only [hb,Q0]) (Nat.zero_le _)
  have key : loop (q3f xs (K1 (ysOf p ++ ysOf q)) p q kind) ([],0,0,[]) = some ((K4 putR K2 steps).flat putR):=key;rw [key];rfl
end Go.Sh
namespace Go.Sh
open Go Go.Am
noncomputable def Yq (l : List qj) : Int:=if 400 < l.length then 4 else if ∀ r∈l,vR r then (if mrgR 2 l [] = l then 0 else 8) else 8
theorem qsx {l : List qj} (h : Yq l = 0) : l.length≤400∧(∀ r∈l,vR r)∧mrgR 2 l [] = l:=by
  unfold Yq at h;split at h
  · omega
  · split at h
    · split at h
      · rename_i a b c;exact ⟨q6,b,c⟩
      · omega
    · omega
theorem qzb (l : List qj) (j : l.length≤1000000) : qaq l (fun a=>q3h a) = some (decide (¬ ∀ r∈l,vR r)):=by
  have hs : ∀ (k : Nat) (h : k < l.length),q50 l (fun a=>q3h a) (k : Int) = some (if (fun r=>!decide (vR r)) l[k] = true then .inr (.inr (k : Int)) else .inl ((k + 1 : Nat) : Int)):=by
    intro k h;simp only [q50,dlt h,Q3,Qv h,qk,w64s h j,q3h,qqy];by_cases d : vR l[k] <;> simp [d]
  have hd : q50 l (fun a=>q3h a) (l.length : Int) = some (.inr (.inl ())):=by simp only [q50,dnl,Q0]
  unfold qaq qeh;rcases Zh l (fun r=>!decide (vR r)) (fun k _=>(k : Int)) () _ hs hd with ⟨m,b⟩ | ⟨k,g,f,_,b⟩
  · rw [b];have : ∀ r∈l,vR r:=fun r c=>by simpa using m r c
    simp [];omega
  · rw [b];have : ¬ ∀ r∈l,vR r:=fun h=>by simp [h _ (Kp g)] at f
    simp only [qk];rw [Qc this,Qc q6]
theorem qz5 (l : List qj) : q75 l = some (Yq l):=by
  unfold q75 Yq;by_cases d : 400 < l.length
  · rw [Qc (by omega : (l.length : Int) > 400),Q3,qr d]
  rw [Q9 (by omega : ¬ (l.length : Int) > 400),Q0,qp d,qzb l q6,qk];by_cases a : ∀ r∈l,vR r
  · rw [Q9 (fun h=>h a),Q0,qmt l q6 a,qr a,qk];by_cases b : 400 < (mrgR 2 l []).length
    · have c : mrgR 2 l []≠l:=fun h=>by rw [h] at b;exact d b
      rw [qr b,qp c];rfl
    · rw [qp b];simp only [qg9 (mrgR 2 l []) l q6];by_cases f : mrgR 2 l [] = l <;> simp [f]
  · rw [Qc a,Q3,qp a]
def putB (a b : Int) (r : qj) : qh:={Lo:={X:=r.X0,Y:=r.Y0,Z:=a},Hi:={X:=r.X1,Y:=r.Y1,Z:=b}}
def qle (z : Int) : Prop:=-1000000≤z∧z≤1000000
instance (z : Int) : Decidable (qle z):=by unfold qle;infer_instance
end Go.Sh
namespace Go.Sh
open Go Go.Am
def covB (z : Int) (b : qh) : Bool:=decide (b.Lo.Z≤z) && decide (z < b.Hi.Z)
def Jq (b : qh) : qj:={X0:=b.Lo.X,Y0:=b.Lo.Y,X1:=b.Hi.X,Y1:=b.Hi.Y}
def atB (l : List qh) (z : Int) : List qj:=l.flatMap fun b=>if covB z b = true then [Jq b] else []
theorem Uh (l : List qh) (x : Int) : (atB l x).length≤l.length:=by
  unfold atB
  induction l with
  | nil=>simp
  | cons r l ih=>
    simp only [List.flatMap_cons,List.length_append,List.length_cons];have : (if covB x r = true then [Jq r] else []).length≤1:=by split <;> simp
    omega
theorem qdx (l : List qh) (f : l.length≤1000000) (z : Int) : Uc l z = some (atB l z):=by
  have:=U0 l f (fun b=>if covB z b = true then [Jq b] else []) [] (fun o=>o) (q6w l z) (fun k a o g=>by
    have h : o.length≤k:=by rw [g,List.nil_append];have:=Uh (l.take k) z;rw [List.length_take,Nat.min_eq_left q6] at this;exact this
    simp only [q6w,dlt a,Q3,Qv a,qk,w64s a f];by_cases c : l[k].Lo.Z≤z
    · by_cases d : z < l[k].Hi.Z
      · simp only [c,d,decide_true,Q3,qk,covB,Bool.and_self,if_true];rw [Y7 (by simp;omega)];rfl
      · simp only [c,d,decide_true,decide_false,Q3,Q0,qk,covB,Bool.and_false,if_false,Bool.false_eq_true,List.append_nil]
    · simp only [c,decide_false,Q0,qk,covB,Bool.false_and,if_false,Bool.false_eq_true,List.append_nil]) (fun o=>by simp only [q6w,dnl,Q0])
  rw [List.nil_append] at this;unfold Uc;rw [this];rfl
def zsOf (l : List qh) : List Int:=l.flatMap fun b=>[b.Lo.Z,b.Hi.Z]
theorem J3 (l : List qh) : (zsOf l).length = 2 * l.length:=by
  unfold zsOf;induction l with
  | nil=>rfl
  | cons r l ih=>simp only [List.flatMap_cons,List.length_append,List.length_cons,List.length_nil];omega
theorem qyt {p q : List qh} (h : p.length + q.length≤100000) : qaf p q = some (K1 (zsOf p ++ zsOf q)):=by
  have c : loop (q4t p) (0,[]) = some (zsOf p):=by
    have:=U0 p q6 (fun r=>[r.Lo.Z,r.Hi.Z]) [] (fun o=>o) (q4t p) (fun k a o b=>by
      have d : o.length = 2 * k:=by rw [b,List.nil_append];have:=J3 (p.take k);rw [List.length_take,Nat.min_eq_left q6] at this;exact this
      simp only [q4t,dlt a,Q3,Qv a,qk,w64s a q6];rw [Y7 (by simp;omega)]
      rfl) (fun o=>by simp only [q4t,dnl,Q0])
    rw [List.nil_append] at this;exact this
  have f : loop (q4u q) (0,zsOf p) = some (zsOf p ++ zsOf q):=by
    have hp:=J3 p
    exact U0 q q6 (fun r=>[r.Lo.Z,r.Hi.Z]) (zsOf p) (fun o=>o) (q4u q) (fun k a o b=>by
      have d : o.length = 2 * p.length + 2 * k:=by
        rw [b,List.length_append,hp];have:=J3 (q.take k);rw [List.length_take,Nat.min_eq_left q6] at this;unfold zsOf at this;omega
      simp only [q4u,dlt a,Q3,Qv a,qk,w64s a q6];rw [Y7 (by simp;omega)]
      rfl) (fun o=>by simp only [q4u,dnl,Q0])
  have j:=J3 p;have g:=J3 q;unfold qaf;simp only [c,f,qk,(U5 (l:=zsOf p ++ zsOf q) (by simp;omega)).1]
structure qjf (kind : Int) (p q : List qh) (z : Int) : Prop where
  n : (atB p z).length + (atB q z).length≤490
  m : (mrgR kind (atB p z) (atB q z)).length≤400
  mp : (mrgR 2 (atB p z) []).length≤400
  mq : (mrgR 2 (atB q z) []).length≤400
noncomputable def secB (kind : Int) (p q : List qh) (z : Int) : List qj:=mrgR kind (atB p z) (atB q z)
theorem qvg (kind : Int) {p q : List qh} (h : p.length + q.length≤100000) {xs : List Int} (hx : xs.length≤1000000) {i : Nat} (hi : i + 1 < xs.length) (t : qjf kind p q xs[i]) (s : Mg qj qh) (hl : (s.flat putB).length + 400≤1000000)
    (h0 : i = 0→s.sec = []) (h1 : 0 < i→s.hi = xs[i]) :
    q26 xs p q kind (s.sec,(s.done.length : Int),(i : Int),s.flat putB) =
      some (.inl ((addM putB s xs[i] xs[i + 1] (secB kind p q xs[i])).sec,((addM putB s xs[i] xs[i + 1] (secB kind p q xs[i])).done.length : Int),((i + 1 : Nat) : Int),(addM putB s xs[i] xs[i + 1] (secB kind p q xs[i])).flat putB)):=by
  have f : i < xs.length:=by omega
  have y : w64 ((i : Int) + 1) = ((i + 1 : Nat) : Int):=w64s f hx;have aj : (s.flat putB).length = s.done.length + s.sec.length:=by simp [Mg.flat]
  obtain ⟨z,hm,ah,av⟩:=t;have ap : Uc p xs[i] = some (atB p xs[i]):=qdx p q6 _;have aq : Uc q xs[i] = some (atB q xs[i]):=qdx q q6 _;have jj : Jp kind (atB p xs[i]) (atB q xs[i]) = some (secB kind p q xs[i]):=q6s kind z;have jp : Jp 2 (atB p xs[i]) [] = some (mrgR 2 (atB p xs[i]) []):=q6s 2 (by simp;omega);have jq : Jp 2 (atB q xs[i]) [] = some (mrgR 2 (atB q xs[i]) []):=q6s 2 (by simp;omega);have hm : (secB kind p q xs[i]).length≤400:=hm;have d1 : decide (((secB kind p q xs[i]).length : Int) > 400) = false:=Q9 q6;have d2 : decide (((mrgR 2 (atB p xs[i]) []).length : Int) > 400) = false:=Q9 q6;have d3 : decide (((mrgR 2 (atB q xs[i]) []).length : Int) > 400) = false:=Q9 q6;unfold q26;simp only [y,dlt hi,Q3,Qv f,ap,aq,jj,jp,jq,d1,d2,d3,Q0,qk];generalize hc : secB kind p q xs[i] = c at hm ⊢;by_cases a : 0 < i∧c = s.sec
  · obtain ⟨b,l⟩:=a;have hb : decide ((i : Int) > 0) = true:=Qc q6
    have d:=qcz (fun v : qh=>({Lo:=v.Lo,Hi:=({X:=v.Hi.X,Y:=v.Hi.Y,Z:=xs[i + 1]} : qw)} : qh)) s.done (s.sec.map (putB s.lo s.hi)) (by simp;omega) (q4w xs (s.sec,(s.done.length : Int),(i : Int),s.flat putB)) (fun k o g ho=>by
      have h5 : (s.done ++ s.sec.map (putB s.lo s.hi)).length = (s.flat putB).length:=rfl
      simp only [q4w,dlt g,Q3,Qv g,Qv hi,y,qk,w64s g q6,Int.toNat_natCast]) (fun o=>by simp only [q4w,dnl,Q0])
    have u : q6t c s.sec = some true:=by rw [qop _ _ q6];simp [l]
    have d : loop (q4w xs (s.sec,(s.done.length : Int),(i : Int),s.flat putB)) ((s.done.length : Int),s.flat putB) = _:=d;simp only [hb,Q3,u,qk,d];rcases q1o putB s xs[i] xs[i + 1] c with ⟨_,_,_,j⟩ | ⟨h3,j⟩
    · rw [j];simp only [Mg.flat,List.map_map];rfl
    · have m : c = []:=Classical.byContradiction fun z=>h3 ⟨z,l,h1 b⟩;rw [j];simp [Mg.flat,← l,m]
  · have r : (cond (decide ((i : Int) > 0)) ((q6t c s.sec).bind fun n=>some n) (some false)) = some false:=by
      by_cases b : 0 < i
      · have hb : decide ((i : Int) > 0) = true:=Qc q6;have x : c≠s.sec:=fun h=>a ⟨b,h⟩;rw [hb,Q3,qop _ _ q6];simp [x]
      · have hb : decide ((i : Int) > 0) = false:=Q9 q6;rw [hb,Q0]
    have w:=qa2 c (putB xs[i] xs[i + 1]) (s.flat putB) (fun o=>(c,((s.flat putB).length : Int),o)) (q6y c xs (s.sec,(s.done.length : Int),(i : Int),s.flat putB)) (fun k g o ho=>by
      simp only [q6y,dlt g,Q3,Qv g,Qv f,Qv hi,y,qk,w64s g q6];rw [Y7 (by simp;omega)]
      rfl) (fun o=>by simp only [q6y,dnl,Q0])
    have j : addM putB s xs[i] xs[i + 1] c = ⟨s.flat putB,c,xs[i],xs[i + 1]⟩:=by
      rcases q1o putB s xs[i] xs[i + 1] c with ⟨g1,g2,_,_⟩ | ⟨_,j⟩
      · refine absurd ?_ a;refine ⟨Nat.pos_of_ne_zero fun h=>g1 ?_,g2⟩;rw [g2,h0 h]
      · exact j
    rw [j];simp only [r,qk,Q0,w];simp [Mg.flat]
noncomputable def mrgB (kind : Int) (p q : List qh) : List qh:=(K4 putB K2 (Yy (K1 (zsOf p ++ zsOf q)) (secB kind p q))).flat putB
section
variable {σ β : Type} (put : Int→Int→σ→β)
def Alike (s t : Mg σ β) : Prop:=s = t∨(s.flat put = t.flat put∧s.sec = []∧t.sec = [])
theorem Alike.flat {s t : Mg σ β} (h : Alike put s t) : s.flat put = t.flat put:=by
  rcases h with rfl | h
  · rfl
  · exact h.1
end
section
variable {σ β : Type} [DecidableEq σ] (put : Int→Int→σ→β)
def runM (sec : Int→List σ) : Mg σ β→List Int→Mg σ β
  | s,a::b::r=>runM sec (addM put s a b (sec a)) (b::r)
  | s,_=>s
theorem qli (sec : Int→List σ) : ∀ (c : List Int) (s : Mg σ β),K4 put s (Yy c sec) = runM put sec s c
  | [],s=>rfl
  | [a],s=>rfl
  | a::b::r,s=>by
    have:=qli sec (b::r) (addM put s a b (sec a))
    simp only [runM,← this]
    rfl
theorem Alike.add {s t : Mg σ β} (h : Alike put s t) (a b : Int) (c : List σ) : Alike put (addM put s a b c) (addM put t a b c):=by
  rcases h with rfl | ⟨n,g,k⟩
  · exact .inl rfl
  · refine .inl ?_;rcases q1o put s a b c with ⟨f,m,_,_⟩ | ⟨_,d⟩
    · exact absurd (m.trans g) f
    · rcases q1o put t a b c with ⟨l,o,_,_⟩ | ⟨_,j⟩
      · exact absurd (o.trans k) l
      · rw [d,j,n]
end
end Go.Sh
namespace Go.Sh
open Go Go.Am
structure Grp (σ : Type) where
  lo : Int
  hi : Int
  sec : List σ
section
variable {σ β : Type}
def CanG (gs : List (Grp σ)) : Prop:=(∀ g∈gs,g.lo < g.hi∧g.sec≠[])∧gs.Pairwise (fun g h=>g.hi≤h.lo∧(g.hi = h.lo→g.sec≠h.sec))
def secG : List (Grp σ)→Int→List σ
  | [],_=>[]
  | g::r,x=>if g.lo≤x∧x < g.hi then g.sec else secG r x
def Yd (put : Int→Int→σ→β) (gs : List (Grp σ)) : List β:=gs.flatMap fun g=>g.sec.map (put g.lo g.hi)
theorem qua (put : Int→Int→σ→β) (a b : List (Grp σ)) : Yd put (a ++ b) = Yd put a ++ Yd put b:=by simp [Yd]
theorem q3m {y x : Int} : ∀ {r : List (Grp σ)},(∀ h∈r,y≤h.lo)→x < y→secG r x = []
  | [],_,_=>rfl
  | g::r,h,hx=>by
    have:=h g qg
    rw [secG,qp q6]
    exact q3m (fun k a=>h k (by simp [a])) hx
theorem q7g {y x : Int} : ∀ {r : List (Grp σ)},(∀ h∈r,h.hi≤y)→y≤x→secG r x = []
  | [],_,_=>rfl
  | g::r,h,hx=>by
    have:=h g qg
    rw [secG,qp q6]
    exact q7g (fun k a=>h k (by simp [a])) hx
theorem qal {x : Int} : ∀ {a b : List (Grp σ)},secG a x = []→(∀ g∈a,g.sec≠[])→secG (a ++ b) x = secG b x
  | [],_,_,_=>rfl
  | g::a,b,h,hne=>by
    rw [secG] at h
    split at h
    · exact absurd h (hne g qg)
    · rename_i d
      rw [List.cons_append,secG,qp d]
      exact qal h fun k c=>hne k (by simp [c])
theorem qic {y x : Int} {a b : List (Grp σ)} (hb : ∀ h∈b,y≤h.lo) (c : x < y) : secG (a ++ b) x = secG a x:=by
  induction a with
  | nil=>exact q3m hb c
  | cons g a ih=>simp only [List.cons_append,secG,ih]
theorem CanG.tail {g : Grp σ} {r : List (Grp σ)} (h : CanG (g::r)) : CanG r:=⟨fun k a=>h.1 k (by simp [a]),(List.pairwise_cons.1 h.2).2⟩
theorem CanG.nxt {g : Grp σ} {r : List (Grp σ)} (h : CanG (g::r)) : ∀ k∈r,g.hi≤k.lo∧(g.hi = k.lo→g.sec≠k.sec):=(List.pairwise_cons.1 h.2).1
theorem q3l {g : Grp σ} {r : List (Grp σ)} {x : Int} (b : g.lo≤x) (a : x < g.hi) : secG (g::r) x = g.sec:=by rw [secG,qr ⟨b,a⟩]
theorem q113 {g : Grp σ} {r : List (Grp σ)} (h : CanG (g::r)) : secG (g::r) g.hi≠g.sec:=by
  rw [secG,qp q6]
  cases r with
  | nil=>exact fun e=>(h.1 g qg).2 e.symm
  | cons k r=>
    have c:=h.nxt k qg;have d:=h.tail.1 k qg;by_cases a : g.hi = k.lo
    · rw [q3l q6 q6];exact fun e=>c.2 a e.symm
    · rw [secG,qp q6,q3m (y:=k.hi) (fun m b=>(h.tail.nxt m b).1) q6];exact fun e=>(h.1 g qg).2 e.symm
theorem qfr : ∀ {a b : List (Grp σ)},CanG a→CanG b→(∀ x,secG a x = secG b x)→a = b
  | [],[],_,_,_=>rfl
  | [],g::r,_,hb,h=>by
    have:=h g.lo
    rw [q3l (Int.le_refl _) (hb.1 g qg).1] at this
    exact absurd this.symm (hb.1 g qg).2
  | g::r,[],c,_,h=>by
    have:=h g.lo
    rw [q3l (Int.le_refl _) (c.1 g qg).1] at this
    exact absurd this (c.1 g qg).2
  | g::r,k::s,c,hb,h=>by
    have q:=c.1 g qg
    have t:=hb.1 k qg
    have low : ∀ {g k : Grp σ} {r s : List (Grp σ)},CanG (g::r)→CanG (k::s)→(∀ x,secG (g::r) x = secG (k::s) x)→k.lo≤g.lo:=by
      intro g k r s c hb h;refine Int.not_lt.1 fun f=>?_;have d:=h g.lo;rw [q3l (Int.le_refl _) (c.1 g qg).1,q3m (y:=k.lo) (fun m j=>?_) f] at d
      · exact (c.1 g qg).2 d
      · rcases List.mem_cons.1 j with rfl | j
        · exact Int.le_refl _
        · have:=(hb.nxt m j).1;have:=(hb.1 k qg).1;omega
    have n : g.lo = k.lo:=Int.le_antisymm (low hb c fun x=>(h x).symm) (low c hb h)
    have l : g.sec = k.sec:=by
      have d:=h g.lo
      rwa [q3l (Int.le_refl _) q.1,q3l q6 q6] at d
    have hi : ∀ {g k : Grp σ} {r s : List (Grp σ)},CanG (g::r)→CanG (k::s)→(∀ x,secG (g::r) x = secG (k::s) x)→g.lo = k.lo→g.sec = k.sec→k.hi≤g.hi:=by
      intro g k r s c hb h n l;refine Int.not_lt.1 fun f=>?_;have d:=h g.hi;have:=(c.1 g qg).1;rw [q3l (g:=k) q6 f,← l] at d;exact q113 c d
    have o : g.hi = k.hi:=Int.le_antisymm (hi hb c (fun x=>(h x).symm) n.symm l.symm) (hi c hb h n l)
    have e : g = k:=by cases g;cases k;simp at n l o;simp [n,l,o]
    subst e
    have : r = s:=qfr c.tail hb.tail fun x=>by
      by_cases p : x < g.hi
      · rw [q3m (y:=g.hi) (fun m j=>(c.nxt m j).1) p,q3m (y:=g.hi) (fun m j=>(hb.nxt m j).1) p]
      · have d:=h x
        rwa [secG,secG,qp q6,qp q6] at d
    rw [this]
def curG (s : Mg σ β) : List (Grp σ):=if s.sec = [] then [] else [⟨s.lo,s.hi,s.sec⟩]
def secC (sec : Int→List σ) : List Int→Int→List σ
  | a::b::r,x=>if a≤x∧x < b then sec a else secC sec (b::r) x
  | _,_=>[]
theorem qlf (put : Int→Int→σ→β) (s : Mg σ β) (a : List (Grp σ)) (h : s.done = Yd put a) : s.flat put = Yd put (a ++ curG s):=by
  rw [qua,Mg.flat,h];unfold curG;split
  · rename_i b;simp [b,Yd]
  · simp [Yd]
theorem qdj {s : Mg σ β} {g : Grp σ} (h : g∈curG s) : s.sec≠[]∧g = ⟨s.lo,s.hi,s.sec⟩:=by
  unfold curG at h;split at h
  · cases h
  · rename_i a;exact ⟨a,by simpa using h⟩
theorem qe6 (sec : Int→List σ) {x : Int} : ∀ {d : List Int},d.Pairwise (· < ·)→
    (∀ a∈d,a≤x→(∀ c∈d,c≤a∨x < c)→sec a = sec x)→((∀ c∈d,x < c)→sec x = [])→((∀ c∈d,c≤x)→sec x = [])→secC sec d x = sec x
  | [],_,_,h2,_=>(h2 qg).symm
  | [a],_,_,h2,h3=>by
    rw [secC]
    · by_cases k : x < a
      · exact (h2 (by simpa using k)).symm
      · exact (h3 (by simpa using k)).symm
    · intro a b r h;simp at h
  | a::b::r,hp,h1,h2,h3=>by
    have o : a < b:=(List.pairwise_cons.1 hp).1 b qg
    have n:=(List.pairwise_cons.1 (List.pairwise_cons.1 hp).2).1
    rw [secC]
    split
    · rename_i k
      refine h1 a qg k.1 fun c f=>?_
      rcases List.mem_cons.1 f with rfl | f
      · exact .inl (Int.le_refl _)
      · rcases List.mem_cons.1 f with rfl | f
        · exact .inr k.2
        · have:=n c f;exact .inr q6
    · rename_i k
      by_cases m : x < a
      · have e : sec x = []:=h2 fun c f=>by
          rcases List.mem_cons.1 f with rfl | f
          · exact m
          · have:=(List.pairwise_cons.1 hp).1 c f;omega
        have:=qe6 sec (x:=x) (List.pairwise_cons.1 hp).2 (fun a' j l _=>by
          exfalso;have:=(List.pairwise_cons.1 hp).1 a' j;omega) (fun _=>e) (fun _=>e)
        exact this
      · have p : b≤x:=by omega
        exact qe6 sec (List.pairwise_cons.1 hp).2 (fun a' j l g=>h1 a' (by simp [j]) l fun c f=>by
          rcases List.mem_cons.1 f with rfl | f
          · have:=(List.pairwise_cons.1 hp).1 a' j;exact .inl q6
          · exact g c f) (fun g=>by have:=g b qg;omega) (fun g=>h3 fun c f=>by
          rcases List.mem_cons.1 f with rfl | f
          · omega
          · exact g c f)
variable [DecidableEq σ] (put : Int→Int→σ→β)
structure InvG (s : Mg σ β) (gs : List (Grp σ)) (c : Int) : Prop where
  done : s.done = Yd put gs
  can : CanG (gs ++ curG s)
  le : ∀ g∈gs ++ curG s,g.hi≤c
  gap : s.sec = []→∀ g∈gs,g.hi = c→False
theorem qv9 {s : Mg σ β} {j : List (Grp σ)} {a b : Int} {c : List σ} (v : a < b) (hi : InvG put s j a) :
    ∃ r,InvG put (addM put s a b c) r b∧∀ x,secG (r ++ curG (addM put s a b c)) x = if a≤x∧x < b then c else secG (j ++ curG s) x:=by
  rcases q1o put s a b c with ⟨h1,h2,h3,h4⟩ | ⟨h1,h4⟩
  · rw [h4];have hs : s.sec≠[]:=h2 ▸ h1;have c1 : curG s = [⟨s.lo,s.hi,s.sec⟩]:=by unfold curG;rw [qp hs]
    have c2 : curG (⟨s.done,s.sec,s.lo,b⟩ : Mg σ β) = [⟨s.lo,b,s.sec⟩]:=by unfold curG;rw [qp hs]
    have f:=hi.can;rw [c1] at f;have af : s.lo < s.hi:=(f.1 ⟨s.lo,s.hi,s.sec⟩ qg).1;refine ⟨j,⟨hi.done,?_,?_,fun h=>absurd h hs⟩,?_⟩
    · rw [c2];refine ⟨fun g d=>?_,?_⟩
      · rcases List.mem_append.1 d with d | d
        · exact f.1 g (by simp [d])
        · obtain rfl:=List.mem_singleton.1 d;exact ⟨by simp only;omega,hs⟩
      · have:=List.pairwise_append.1 f.2;refine List.pairwise_append.2 ⟨this.1,qg,fun g d k u=>?_⟩;obtain rfl:=List.mem_singleton.1 u;exact this.2.2 g d ⟨s.lo,s.hi,s.sec⟩ qg
    · rw [c2];intro g d;rcases List.mem_append.1 d with d | d
      · have:=hi.le g (by simp [d]);omega
      · obtain rfl:=List.mem_singleton.1 d;exact Int.le_refl _
    · intro x;rw [c1,c2];have w : ∀ g∈j,g.hi≤s.lo:=fun g d=>((List.pairwise_append.1 f.2).2.2 g d ⟨s.lo,s.hi,s.sec⟩ qg).1;have o : ∀ g∈j,g.sec≠[]:=fun g d=>(f.1 g (by simp [d])).2;by_cases n : x < s.lo
      · rw [qp q6,qic (y:=s.lo) qg n,qic (y:=s.lo) qg n]
      · have e : secG j x = []:=q7g w q6;rw [qal e o,qal e o];simp only [secG];by_cases ac : x < s.hi
        · rw [qr ⟨q6,q6⟩,qp q6,qr ⟨q6,ac⟩]
        · by_cases q : x < b
          · rw [qr ⟨q6,q⟩,qr ⟨q6,q⟩,h2]
          · rw [qp q6,qp q6,qp q6]
  · rw [h4];have hd : s.flat put = Yd put (j ++ curG s):=qlf put s j hi.done;refine ⟨j ++ curG s,⟨hd,?_,?_,?_⟩,?_⟩
    · by_cases m : c = []
      · have : curG (⟨s.flat put,c,a,b⟩ : Mg σ β) = []:=by unfold curG;rw [qr m]
        rw [this,List.append_nil];exact hi.can
      · have : curG (⟨s.flat put,c,a,b⟩ : Mg σ β) = [⟨a,b,c⟩]:=by unfold curG;rw [qp m]
        rw [this];refine ⟨fun g d=>?_,List.pairwise_append.2 ⟨hi.can.2,qg,fun g d k u=>?_⟩⟩
        · rcases List.mem_append.1 d with d | d
          · exact hi.can.1 g d
          · obtain rfl:=List.mem_singleton.1 d;exact ⟨v,m⟩
        · obtain rfl:=List.mem_singleton.1 u;refine ⟨hi.le g d,fun t p=>?_⟩;rcases List.mem_append.1 d with l | l
          · by_cases hs : s.sec = []
            · exact hi.gap hs g l t
            · have h5 : (⟨s.lo,s.hi,s.sec⟩ : Grp σ)∈curG s:=by unfold curG;rw [qp hs];simp
              have h6:=((List.pairwise_append.1 hi.can.2).2.2 g l _ h5).1;have h7:=(hi.can.1 _ (List.mem_append.2 (.inr h5))).1;have h8:=hi.le _ (List.mem_append.2 (.inr h5));simp only at t h6 h7 h8;omega
          · obtain ⟨hs,rfl⟩:=qdj l;exact h1 ⟨m,p.symm,t⟩
    · intro g d;rcases List.mem_append.1 d with d | d
      · have:=hi.le g d;omega
      · obtain ⟨_,rfl⟩:=qdj d;exact Int.le_refl _
    · intro m g d t;have:=hi.le g d;omega
    · intro x;by_cases n : a≤x∧x < b
      · rw [qr n,qal (q7g hi.le n.1) fun g d=>(hi.can.1 g d).2];unfold curG;split
        · rename_i m;simp only at m;rw [m];rfl
        · simp only [secG];rw [qr n]
      · rw [qp n];by_cases z : x < a
        · exact qic (y:=a) (fun g d=>by obtain ⟨_,rfl⟩:=qdj d;exact Int.le_refl _) z
        · have e:=q7g (x:=x) hi.le q6;rw [qal e fun g d=>(hi.can.1 g d).2,e];exact q7g (y:=b) (fun g d=>by obtain ⟨_,rfl⟩:=qdj d;exact Int.le_refl _) q6
theorem qon (sec : Int→List σ) : ∀ (d : List Int) (c : Int) (s : Mg σ β) (h : List (Grp σ)),(c::d).Pairwise (· < ·)→InvG put s h c→
    ∃ f,(runM put sec s (c::d)).flat put = Yd put f∧CanG f∧∀ x,secG f x = if x < c then secG (h ++ curG s) x else secC sec (c::d) x
  | [],c,s,h,_,hi=>by
    refine ⟨h ++ curG s,qlf put s h hi.done,hi.can,fun x=>?_⟩
    by_cases j : x < c
    · rw [qr j]
    · rw [qp j];exact q7g hi.le q6
  | b::d,a,s,h,hp,hi=>by
    have m : a < b:=(List.pairwise_cons.1 hp).1 b qg
    obtain ⟨f,l,k⟩:=qv9 (b:=b) (c:=sec a) put m hi
    obtain ⟨n,p,o,q⟩:=qon sec d b _ f (List.pairwise_cons.1 hp).2 l
    refine ⟨n,p,o,fun x=>?_⟩
    rw [q x]
    by_cases j : x < a
    · rw [qr q6,qr j,k,qp q6]
    · rw [qp j]
      simp only [secC]
      by_cases g : x < b
      · rw [qr g,k,qr ⟨q6,g⟩,qr ⟨q6,g⟩]
      · rw [qp g,qp q6]
theorem qn1 (sec : Int→List σ) {a : List Int} (f : a.Pairwise (· < ·)) :
    ∃ d,(K4 put K2 (Yy a sec)).flat put = Yd put d∧CanG d∧∀ x,secG d x = secC sec a x:=by
  rw [qli]
  cases a with
  | nil=>exact ⟨[],rfl,⟨qg,qg⟩,fun x=>rfl⟩
  | cons c a=>
    obtain ⟨d,h,k,j⟩:=qon put sec a c (K2 : Mg σ β) [] f ⟨rfl,⟨by simp [curG,K2],by simp [curG,K2]⟩,by simp [curG,K2],qg⟩;refine ⟨d,h,k,fun x=>?_⟩;rw [j x];split
    · rename_i g
      have : ∀ (a : List Int) (c : Int),(c::a).Pairwise (· < ·)→x < c→secC sec (c::a) x = []:=by
        intro a
        induction a with
        | nil=>intros;rfl
        | cons b r ih=>
          intro c hp g;rw [secC,qp q6];exact ih b (List.pairwise_cons.1 hp).2 (by have:=(List.pairwise_cons.1 hp).1 b qg;omega)
      rw [this a c f g];rfl
    · rfl
end
end Go.Sh
namespace Go.Sh
open Go Go.Am
section
variable {σ : Type}
theorem qie {x : Int} : ∀ (b : List (Grp σ)),secG b x = []∨∃ g∈b,g.lo≤x∧x < g.hi∧secG b x = g.sec
  | []=>.inl rfl
  | g::r=>by
    by_cases a : g.lo≤x∧x < g.hi
    · exact .inr ⟨g,qg,a.1,a.2,by rw [secG,qr a]⟩
    · rw [secG,qp a]
      rcases qie r with h | ⟨k,c,h⟩
      · exact .inl h
      · exact .inr ⟨k,by simp [c],h⟩
theorem qid : ∀ {b : List (Grp σ)},CanG b→∀ g∈b,∀ x,g.lo≤x→x < g.hi→secG b x = g.sec
  | k::r,h,g,a,x,h1,h2=>by
    rcases List.mem_cons.1 a with rfl | a
    · exact q3l h1 h2
    · have:=(h.nxt g a).1
      rw [secG,qp q6]
      exact qid h.tail g a x h1 h2
end
theorem qmg (kind : Int) : Jl kind [] [] = []:=by
  have a:=(q66 kind [] [] qg qg).2;refine q5q a.can ⟨qg,qg⟩ fun x=>?_;rw [a.pts];have:=q22 x;unfold Y9;simp [this]
theorem qtl (a b : List qj) (x : Int) : covS (a ++ b) x = covS a x ++ covS b x:=by simp [covS]
theorem qtm (s : List qn) (lo hi x : Int) : covS (s.map (putR lo hi)) x = if lo≤x∧x < hi then s else []:=by
  induction s with
  | nil=>simp [covS]
  | cons t s ih=>
    have e : covS (List.map (putR lo hi) (t::s)) x = (if covR x (putR lo hi t) = true then [t] else []) ++ covS (s.map (putR lo hi)) x:=rfl;rw [e,ih];have : covR x (putR lo hi t) = (decide (lo≤x) && decide (x < hi)):=rfl;rw [this];by_cases b : lo≤x <;> by_cases a : x < hi <;> simp [b,a]
theorem q9n : ∀ {b : List (Grp qn)},CanG b→∀ x,covS (Yd putR b) x = secG b x
  | [],_,x=>rfl
  | g::r,h,x=>by
    have e : Yd putR (g::r) = g.sec.map (putR g.lo g.hi) ++ Yd putR r:=rfl
    rw [e,qtl,qtm,q9n h.tail x]
    by_cases a : g.lo≤x∧x < g.hi
    · rw [qr a,secG,qr a,q3m (y:=g.hi) (fun m c=>(h.nxt m c).1) a.2,List.append_nil]
    · rw [qp a,secG,qp a,List.nil_append]
theorem qks {l : List qj} {a x : Int} (h : ∀ r∈l,covR a r = covR x r) : covS l a = covS l x:=by
  induction l with
  | nil=>rfl
  | cons r l ih=>
    have e : ∀ y,covS (r::l) y = (if covR y r = true then [ysp r] else []) ++ covS l y:=fun _=>rfl;rw [e,e,h r qg,ih fun k b=>h k (by simp [b])]
theorem qct {l : List qj} {x : Int} (h : ∀ r∈l,covR x r = false) : covS l x = []:=by
  induction l with
  | nil=>rfl
  | cons r l ih=>
    have e : covS (r::l) x = (if covR x r = true then [ysp r] else []) ++ covS l x:=rfl;rw [e,h r qg,ih fun k a=>h k (by simp [a])];rfl
theorem q5u {x : Int} {r : qj} : covR x r = true↔r.X0≤x∧x < r.X1:=by simp [covR]
theorem qmz {p q : List qj} {r : qj} (h : r∈p∨r∈q) : r.X0∈xsOf p ++ xsOf q∧r.X1∈xsOf p ++ xsOf q:=by
  unfold xsOf;simp only [List.mem_append,List.mem_flatMap];rcases h with h | h
  · exact ⟨.inl ⟨r,h,qg⟩,.inl ⟨r,h,qg⟩⟩
  · exact ⟨.inr ⟨r,h,qg⟩,.inr ⟨r,h,qg⟩⟩
theorem qn5 (kind : Int) {p q : List qj} (h : p.length + q.length≤100000) :
    ∃ f,mrgR kind p q = Yd putR f∧CanG f∧∀ x,secG f x = secJ kind p q x:=by
  have s:=Ug p;have t:=Ug q;have hs:=(U5 (l:=xsOf p ++ xsOf q) (by simp;omega)).2.1;obtain ⟨f,m,o,n⟩:=qn1 putR (secJ kind p q) hs.1;refine ⟨f,m,o,fun x=>?_⟩;rw [n]
  have g : ∀ r,(r∈p∨r∈q)→r.X0∈K1 (xsOf p ++ xsOf q)∧r.X1∈K1 (xsOf p ++ xsOf q):=fun r b=>
    ⟨(hs.2 _).2 (qmz b).1,(hs.2 _).2 (qmz b).2⟩
  refine qe6 _ hs.1 (fun a _ k c=>?_) (fun c=>?_) (fun c=>?_)
  · have d : ∀ r,(r∈p∨r∈q)→covR a r = covR x r:=fun r b=>by
      have j:=c _ (g r b).1;have u:=c _ (g r b).2;rw [Bool.eq_iff_iff,q5u,q5u];omega
    unfold secJ;rw [qks fun r b=>d r (.inl b),qks fun r b=>d r (.inr b)]
  · have d : ∀ r,(r∈p∨r∈q)→covR x r = false:=fun r b=>by
      have j:=c _ (g r b).1;rw [← Bool.not_eq_true,q5u];omega
    unfold secJ;rw [qct fun r b=>d r (.inl b),qct fun r b=>d r (.inr b),qmg]
  · have d : ∀ r,(r∈p∨r∈q)→covR x r = false:=fun r b=>by
      have j:=c _ (g r b).2;rw [← Bool.not_eq_true,q5u];omega
    unfold secJ;rw [qct fun r b=>d r (.inl b),qct fun r b=>d r (.inr b),qmg]
def CanR (l : List qj) : Prop:=∃ gs : List (Grp qn),l = Yd putR gs∧CanG gs∧∀ g∈gs,Can g.sec
theorem qs8 : Can []:=⟨qg,qg⟩
theorem CanR.nil : CanR []:=⟨[],rfl,⟨qg,qg⟩,qg⟩
theorem CanR.cov {l : List qj} (h : CanR l) (x : Int) : Can (covS l x):=by
  obtain ⟨c,rfl,d,a⟩:=h;rw [q9n d];rcases qie (x:=x) c with e | ⟨g,b,_,_,e⟩
  · rw [e];exact qs8
  · rw [e];exact a g b
theorem qfs {a b : List qj} (f : CanR a) (hb : CanR b) (h : ∀ x y,hasR a x y↔hasR b x y) : a = b:=by
  have g : ∀ x,covS a x = covS b x:=fun x=>q5q (f.cov x) (hb.cov x) fun y=>by rw [q1c,q1c];exact h x y
  obtain ⟨j,rfl,d,_⟩:=f;obtain ⟨k,rfl,c,_⟩:=hb;rw [qfr d c fun x=>by rw [← q9n d,← q9n c];exact g x]
theorem qov (kind : Int) {p q : List qj} (h : p.length + q.length≤100000) (x : Int) : qfb kind (covS p x) (covS q x) (secJ kind p q x):=by
  have b:=Uz p x;have a:=Uz q x;exact (q66 kind (covS p x) (covS q x) q6 q6).2
theorem qdm (kind : Int) {p q : List qj} (h : p.length + q.length≤100000) : CanR (mrgR kind p q):=by
  obtain ⟨d,c,a,f⟩:=qn5 kind h;refine ⟨d,c,a,fun g b=>?_⟩;have:=f g.lo;rw [qid a g b _ (Int.le_refl _) (a.1 g b).1] at this;rw [this];exact (qov kind h _).can
theorem qkt (kind : Int) {p q : List qj} (h : p.length + q.length≤100000) (x : Int) : covS (mrgR kind p q) x = secJ kind p q x:=by
  obtain ⟨d,a,c,b⟩:=qn5 kind h;rw [a,q9n c,b]
theorem qd9 (kind : Int) {p q : List qj} (h : p.length + q.length≤100000) (x y : Int) : hasR (mrgR kind p q) x y↔Y9 kind (hasR p x y) (hasR q x y):=by
  rw [← q1c,qkt kind h,(qov kind h x).pts,q1c,q1c]
theorem qgr (x y : Int) : ¬ hasR [] x y:=by rintro ⟨r,h,_⟩;cases h
theorem q4c {a b : Prop} : Y9 2 a b↔a∨b:=by unfold Y9;simp
theorem qux {l : List qj} (h : l.length≤100000) (x y : Int) : hasR (mrgR 2 l []) x y↔hasR l x y:=by
  rw [qd9 2 (by simpa using h),q4c];simp [qgr]
theorem qn6 {l : List qj} (a : l.length≤100000) (h : CanR l) : mrgR 2 l [] = l:=
  qfs (qdm 2 (by simpa using a)) h fun x y=>qux a x y
theorem qmx {σ β : Type} {put : Int→Int→σ→β} {a : List (Grp σ)} {r : β} : r∈Yd put a↔∃ g∈a,∃ t∈g.sec,r = put g.lo g.hi t:=by
  unfold Yd;simp only [List.mem_flatMap,List.mem_map];exact ⟨fun ⟨g,hg,t,ht,e⟩=>⟨g,hg,t,ht,e.symm⟩,fun ⟨g,hg,t,ht,e⟩=>⟨g,hg,t,ht,e.symm⟩⟩
theorem CanR.lt {l : List qj} (h : CanR l) : ∀ r∈l,r.X0 < r.X1∧r.Y0 < r.Y1:=by
  obtain ⟨j,rfl,f,b⟩:=h;intro r c;obtain ⟨g,a,t,d,rfl⟩:=qmx.1 c;exact ⟨(f.1 g a).1,(b g a).1 t d⟩
def InR (l : List qj) : Prop:=∀ x y,hasR l x y→(-1000000≤x∧x < 1000000)∧(-1000000≤y∧y < 1000000)
theorem CanR.vR {l : List qj} (h : CanR l) (hi : InR l) : ∀ r∈l,vR r:=by
  intro r a;have d:=h.lt r a;have b:=hi r.X0 r.Y0 ⟨r,a,q6⟩;have c:=hi (r.X1 - 1) (r.Y1 - 1) ⟨r,a,q6⟩;unfold Go.Sh.vR;omega
theorem InR.mrg {kind : Int} {p q : List qj} (h : p.length + q.length≤100000) (hp : InR p) (b : InR q) : InR (mrgR kind p q):=fun x y c=>by
  rcases qgu ((qd9 kind h x y).1 c) with a | a
  · exact hp x y a
  · exact b x y a
theorem InR.nil : InR []:=fun x y h=>absurd h (qgr x y)
theorem q9i {l : List qj} : Yq l = 0↔l.length≤400∧(∀ r∈l,vR r)∧CanR l:=by
  constructor
  · intro h;obtain ⟨c,a,b⟩:=qsx h;exact ⟨c,a,b ▸ qdm 2 (by simp;omega)⟩
  · rintro ⟨c,a,b⟩;unfold Yq;rw [qp q6,qr a,qr (qn6 q6 b)]
end Go.Sh
namespace Go.Sh
open Go Go.Am
def hasB (l : List qh) (x y z : Int) : Prop:=∃ b∈l,(b.Lo.X≤x∧x < b.Hi.X)∧(b.Lo.Y≤y∧y < b.Hi.Y)∧(b.Lo.Z≤z∧z < b.Hi.Z)
theorem q2r {z : Int} {b : qh} : covB z b = true↔b.Lo.Z≤z∧z < b.Hi.Z:=by simp [covB]
theorem qha {l : List qh} {z : Int} {r : qj} : r∈atB l z↔∃ b∈l,(b.Lo.Z≤z∧z < b.Hi.Z)∧r = Jq b:=by
  unfold atB;rw [List.mem_flatMap];constructor
  · rintro ⟨b,hb,h⟩;split at h
    · rename_i a;exact ⟨b,hb,q2r.1 a,by simpa using h⟩
    · cases h
  · rintro ⟨b,hb,a,rfl⟩;exact ⟨b,hb,by rw [qr (q2r.2 a)];simp⟩
theorem q4b {l : List qh} {x y z : Int} : hasR (atB l z) x y↔hasB l x y z:=by
  constructor
  · rintro ⟨r,h,g,a,d,f⟩;obtain ⟨b,hb,c,rfl⟩:=qha.1 h;exact ⟨b,hb,⟨g,a⟩,⟨d,f⟩,c⟩
  · rintro ⟨b,hb,⟨g,a⟩,⟨d,f⟩,c⟩;exact ⟨Jq b,qha.2 ⟨b,hb,c,rfl⟩,g,a,d,f⟩
theorem q37 (x y z : Int) : ¬ hasB [] x y z:=by rintro ⟨r,h,_⟩;cases h
theorem qrn (a b : List qh) (z : Int) : atB (a ++ b) z = atB a z ++ atB b z:=by simp [atB]
theorem qro (s : List qj) (lo hi z : Int) : atB (s.map (putB lo hi)) z = if lo≤z∧z < hi then s else []:=by
  induction s with
  | nil=>simp [atB]
  | cons t s ih=>
    have e : atB (List.map (putB lo hi) (t::s)) z = (if covB z (putB lo hi t) = true then [t] else []) ++ atB (s.map (putB lo hi)) z:=rfl;rw [e,ih];have : covB z (putB lo hi t) = (decide (lo≤z) && decide (z < hi)):=rfl;rw [this];by_cases b : lo≤z <;> by_cases a : z < hi <;> simp [b,a]
theorem q9e : ∀ {b : List (Grp qj)},CanG b→∀ z,atB (Yd putB b) z = secG b z
  | [],_,z=>rfl
  | g::r,h,z=>by
    have e : Yd putB (g::r) = g.sec.map (putB g.lo g.hi) ++ Yd putB r:=rfl
    rw [e,qrn,qro,q9e h.tail z]
    by_cases a : g.lo≤z∧z < g.hi
    · rw [qr a,secG,qr a,q3m (y:=g.hi) (fun m c=>(h.nxt m c).1) a.2,List.append_nil]
    · rw [qp a,secG,qp a,List.nil_append]
theorem qjs {l : List qh} {a x : Int} (h : ∀ r∈l,covB a r = covB x r) : atB l a = atB l x:=by
  induction l with
  | nil=>rfl
  | cons r l ih=>
    have e : ∀ y,atB (r::l) y = (if covB y r = true then [Jq r] else []) ++ atB l y:=fun _=>rfl;rw [e,e,h r qg,ih fun k b=>h k (by simp [b])]
theorem qcl {l : List qh} {x : Int} (h : ∀ r∈l,covB x r = false) : atB l x = []:=by
  induction l with
  | nil=>rfl
  | cons r l ih=>
    have e : atB (r::l) x = (if covB x r = true then [Jq r] else []) ++ atB l x:=rfl;rw [e,h r qg,ih fun k a=>h k (by simp [a])];rfl
theorem qn0 {p q : List qh} {r : qh} (h : r∈p∨r∈q) : r.Lo.Z∈zsOf p ++ zsOf q∧r.Hi.Z∈zsOf p ++ zsOf q:=by
  unfold zsOf;simp only [List.mem_append,List.mem_flatMap];rcases h with h | h
  · exact ⟨.inl ⟨r,h,qg⟩,.inl ⟨r,h,qg⟩⟩
  · exact ⟨.inr ⟨r,h,qg⟩,.inr ⟨r,h,qg⟩⟩
theorem qhh (kind : Int) : mrgR kind [] [] = []:=by
  refine qfs (qdm kind qg) .nil fun x y=>?_;rw [qd9 kind qg];have:=qgr x y;unfold Y9;simp [this]
theorem qn3 (kind : Int) {p q : List qh} (h : p.length + q.length≤100000) :
    ∃ f,mrgB kind p q = Yd putB f∧CanG f∧∀ z,secG f z = secB kind p q z:=by
  have t:=J3 p;have u:=J3 q;have hs:=(U5 (l:=zsOf p ++ zsOf q) (by simp;omega)).2.1;obtain ⟨f,k,m,o⟩:=qn1 putB (secB kind p q) hs.1;refine ⟨f,k,m,fun x=>?_⟩;rw [o]
  have g : ∀ r,(r∈p∨r∈q)→r.Lo.Z∈K1 (zsOf p ++ zsOf q)∧r.Hi.Z∈K1 (zsOf p ++ zsOf q):=fun r b=>
    ⟨(hs.2 _).2 (qn0 b).1,(hs.2 _).2 (qn0 b).2⟩
  refine qe6 _ hs.1 (fun a _ n c=>?_) (fun c=>?_) (fun c=>?_)
  · have d : ∀ r,(r∈p∨r∈q)→covB a r = covB x r:=fun r b=>by
      have j:=c _ (g r b).1;have s:=c _ (g r b).2;rw [Bool.eq_iff_iff,q2r,q2r];omega
    unfold secB;rw [qjs fun r b=>d r (.inl b),qjs fun r b=>d r (.inr b)]
  · have d : ∀ r,(r∈p∨r∈q)→covB x r = false:=fun r b=>by
      have j:=c _ (g r b).1;rw [← Bool.not_eq_true,q2r];omega
    unfold secB;rw [qcl fun r b=>d r (.inl b),qcl fun r b=>d r (.inr b),qhh]
  · have d : ∀ r,(r∈p∨r∈q)→covB x r = false:=fun r b=>by
      have j:=c _ (g r b).2;rw [← Bool.not_eq_true,q2r];omega
    unfold secB;rw [qcl fun r b=>d r (.inl b),qcl fun r b=>d r (.inr b),qhh]
def CanB (l : List qh) : Prop:=∃ gs : List (Grp qj),l = Yd putB gs∧CanG gs∧∀ g∈gs,CanR g.sec
theorem CanB.nil : CanB []:=⟨[],rfl,⟨qg,qg⟩,qg⟩
theorem CanB.at {l : List qh} (h : CanB l) (z : Int) : CanR (atB l z):=by
  obtain ⟨c,rfl,d,a⟩:=h;rw [q9e d];rcases qie (x:=z) c with e | ⟨g,b,_,_,e⟩
  · rw [e];exact .nil
  · rw [e];exact a g b
theorem qfq {a b : List qh} (f : CanB a) (hb : CanB b) (h : ∀ x y z,hasB a x y z↔hasB b x y z) : a = b:=by
  have g : ∀ z,atB a z = atB b z:=fun z=>qfs (f.at z) (hb.at z) fun x y=>by rw [q4b,q4b];exact h x y z
  obtain ⟨j,rfl,d,_⟩:=f;obtain ⟨k,rfl,c,_⟩:=hb;rw [qfr d c fun x=>by rw [← q9e d,← q9e c];exact g x]
theorem qju {p q : List qh} (h : p.length + q.length≤100000) (z : Int) : (atB p z).length + (atB q z).length≤100000:=by
  have:=Uh p z;have:=Uh q z;omega
theorem q6j (kind : Int) {p q : List qh} (h : p.length + q.length≤100000) : CanB (mrgB kind p q):=by
  obtain ⟨d,c,a,f⟩:=qn3 kind h;refine ⟨d,c,a,fun g b=>?_⟩;have:=f g.lo;rw [qid a g b _ (Int.le_refl _) (a.1 g b).1] at this;rw [this];exact qdm kind (qju h _)
theorem qjt (kind : Int) {p q : List qh} (h : p.length + q.length≤100000) (z : Int) : atB (mrgB kind p q) z = secB kind p q z:=by
  obtain ⟨d,a,c,b⟩:=qn3 kind h;rw [a,q9e c,b]
theorem qd8 (kind : Int) {p q : List qh} (h : p.length + q.length≤100000) (x y z : Int) : hasB (mrgB kind p q) x y z↔Y9 kind (hasB p x y z) (hasB q x y z):=by
  rw [← q4b,qjt kind h,secB,qd9 kind (qju h z),q4b,q4b]
theorem qgo {l : List qh} (h : l.length≤100000) (x y z : Int) : hasB (mrgB 2 l []) x y z↔hasB l x y z:=by
  rw [qd8 2 (by simpa using h),q4c];simp [q37]
theorem qwa {l : List qh} (a : l.length≤100000) (h : CanB l) : mrgB 2 l [] = l:=
  qfq (q6j 2 (by simpa using a)) h fun x y z=>qgo a x y z
theorem CanB.lt {l : List qh} (h : CanB l) : ∀ b∈l,b.Lo.X < b.Hi.X∧b.Lo.Y < b.Hi.Y∧b.Lo.Z < b.Hi.Z:=by
  obtain ⟨k,rfl,j,c⟩:=h;intro r d;obtain ⟨g,a,t,f,rfl⟩:=qmx.1 d;have:=(c g a).lt t f;exact ⟨this.1,this.2,(j.1 g a).1⟩
def vB (b : qh) : Prop:=(b.Lo.X < b.Hi.X∧b.Lo.Y < b.Hi.Y∧b.Lo.Z < b.Hi.Z)∧(-1000000≤b.Lo.X∧-1000000≤b.Lo.Y∧-1000000≤b.Lo.Z)∧b.Hi.X≤1000000∧b.Hi.Y≤1000000∧b.Hi.Z≤1000000
instance (b : qh) : Decidable (vB b):=by unfold vB;infer_instance
def InB (l : List qh) : Prop:=∀ x y z,hasB l x y z→(-1000000≤x∧x < 1000000)∧(-1000000≤y∧y < 1000000)∧(-1000000≤z∧z < 1000000)
theorem qf2 {l : List qh} (h : ∀ r∈l,vB r) : InB l:=by
  rintro x y z ⟨r,a,b⟩;have:=h r a;unfold vB at this;omega
theorem CanB.vB {l : List qh} (h : CanB l) (hi : InB l) : ∀ r∈l,vB r:=by
  intro r a;have d:=h.lt r a;have b:=hi r.Lo.X r.Lo.Y r.Lo.Z ⟨r,a,q6⟩;have c:=hi (r.Hi.X - 1) (r.Hi.Y - 1) (r.Hi.Z - 1) ⟨r,a,q6⟩;unfold Go.Sh.vB;omega
theorem InB.mrg {kind : Int} {p q : List qh} (h : p.length + q.length≤100000) (hp : InB p) (b : InB q) : InB (mrgB kind p q):=fun x y z c=>by
  rcases qgu ((qd8 kind h x y z).1 c) with a | a
  · exact hp x y z a
  · exact b x y z a
theorem InB.nil : InB []:=fun x y z h=>absurd h (q37 x y z)
theorem qqx {l : List qh} (h : ∀ b∈l,vB b) (z : Int) : ∀ r∈atB l z,vR r:=by
  intro r a;obtain ⟨b,hb,_,rfl⟩:=qha.1 a;have:=h b hb;unfold vB at this;unfold vR Jq;simp only;omega
theorem InB.at {l : List qh} (h : InB l) (z : Int) : InR (atB l z):=fun x y a=>by
  have:=h x y z (q4b.1 a);exact ⟨this.1,this.2.1⟩
noncomputable def Qy (l : List qh) : Int:=if 400 < l.length then 4 else if ∀ b∈l,vB b then (if mrgB 2 l [] = l then 0 else 8) else 8
theorem Y8 {l : List qh} : Qy l = 0↔l.length≤400∧(∀ b∈l,vB b)∧CanB l:=by
  unfold Qy;constructor
  · intro h;split at h
    · exact absurd h qz
    · rename_i d;split at h
      · rename_i a;split at h
        · rename_i c;exact ⟨q6,a,c ▸ q6j 2 (by simp;omega)⟩
        · exact absurd h qz
      · exact absurd h qz
  · rintro ⟨d,a,c⟩;rw [qp q6,qr a,qr (qwa q6 c)]
theorem qou (kind : Int) {p q : List qh} (h : p.length + q.length≤100000) (z : Int) : (secB kind p q z).length≤(mrgB kind p q).length:=by
  rw [← qjt kind h];exact Uh _ _
theorem q114 (kind : Int) {p q : List qj} (h : p.length + q.length≤100000) (x : Int) : (secJ kind p q x).length≤(mrgR kind p q).length:=by
  rw [← qkt kind h];exact Uz _ _
noncomputable def mkB (l : List qh) : List qh × Int:=if 400 < l.length then ([],4) else if ∀ b∈l,vB b then (if 400 < (mrgB 2 l []).length then ([],4) else (mrgB 2 l [],0)) else ([],8)
noncomputable def jB (kind : Int) (p q : List qh) : List qh × Int:=
  if Qy p≠0 then ([],Qy p) else if Qy q≠0 then ([],Qy q) else if 400 < (mrgB kind p q).length then ([],4) else (mrgB kind p q,0)
noncomputable def mkR (l : List qj) : List qj × Int:=if 400 < l.length then ([],4) else if ∀ b∈l,vR b then (if 400 < (mrgR 2 l []).length then ([],4) else (mrgR 2 l [],0)) else ([],8)
noncomputable def jR (kind : Int) (p q : List qj) : List qj × Int:=
  if Yq p≠0 then ([],Yq p) else if Yq q≠0 then ([],Yq q) else if 400 < (mrgR kind p q).length then ([],4) else (mrgR kind p q,0)
end Go.Sh
