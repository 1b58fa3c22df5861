/- Pt1 Pt2 Pt3 Pt4 Pt5 Pt6 Pt7 Qa1 Qa2 Qa3 Su5 -/
import Derived.Test.YtmnfbjlabfeneaaGreatK10
namespace Go.Sh
open Go Go.Am
theorem Zx {α β : Type} {f : α→Option (α ⊕ β)} (st : Nat→α) (n : Nat) (b : β) (hs : ∀ k,k < n→f (st k) = some (.inl (st (k + 1)))) (hd : f (st n) = some (.inr b)) : ∀ {k : Nat},k≤n→loop f (st k) = some b:=by
  have key : ∀ m k,n - k = m→k≤n→loop f (st k) = some b:=by
    intro m
    induction m with
    | zero => intro k c a; obtain rfl : k = n := by omega
              exact K7 hd
    | succ m ih=>intro k c a;rw [Kc (hs k q6)];exact ih (k + 1) q6 q6
  intro k a;exact key _ k rfl a
theorem w64s {k : Nat} {n : Nat} (h : k < n) (a : n≤1000000) : w64 ((k : Int) + 1) = ((k + 1 : Nat) : Int):=by rw [Q8 q6];omega
theorem dlt {k n : Nat} (h : k < n) : decide ((k : Int) < (n : Int)) = true:=Qb q6
theorem dnl {n : Nat} : decide ((n : Int) < (n : Int)) = false:=Q6 q6
theorem Jk {α β γ : Type} (src : List α) (_ : src.length≤1000000) (h : α→List γ) (out : List γ) (fin : List γ→β) (f : Int × List γ→Option ((Int × List γ) ⊕ β))
    (hs : ∀ (k : Nat) (a : k < src.length) (o : List γ),o = out ++ (src.take k).flatMap h→f ((k : Int),o) = some (.inl (((k + 1 : Nat) : Int),o ++ h src[k])))
    (hd : ∀ o,f ((src.length : Int),o) = some (.inr (fin o))) : loop f (0,out) = some (fin (out ++ src.flatMap h)):=by
  have e : ∀ k (a : k < src.length),(src.take (k + 1)).flatMap h = (src.take k).flatMap h ++ h src[k]:=fun k a=>by
    rw [List.take_succ_eq_append_getElem a,List.flatMap_append,List.flatMap_cons,List.flatMap_nil,List.append_nil]
  have:=Zx (f:=f) (fun k=>((k : Int),out ++ (src.take k).flatMap h)) src.length (fin (out ++ src.flatMap h)) (fun k a=>by
    rw [hs k a _ rfl,e k a,List.append_assoc]) (by simp only [List.take_length];exact hd _) (Nat.zero_le _)
  simpa using this
theorem q7f {α β γ : Type} (src : List α) (h : α→γ) (out : List γ) (fin : List γ→β) (f : Int × List γ→Option ((Int × List γ) ⊕ β))
    (hs : ∀ (k : Nat) (a : k < src.length) (o : List γ),o.length = out.length + k→f ((k : Int),o) = some (.inl (((k + 1 : Nat) : Int),o ++ [h src[k]])))
    (hd : ∀ o,f ((src.length : Int),o) = some (.inr (fin o))) : loop f (0,out) = some (fin (out ++ src.map h)):=by
  have e : ∀ k (a : k < src.length),(src.take (k + 1)).map h = (src.take k).map h ++ [h src[k]]:=fun k a=>by
    rw [List.take_succ_eq_append_getElem a,List.map_append,List.map_cons,List.map_nil]
  have:=Zx (f:=f) (fun k=>((k : Int),out ++ (src.take k).map h)) src.length (fin (out ++ src.map h)) (fun k a=>by
    rw [hs k a _ (by simp;omega),e k a,List.append_assoc]) (by simp only [List.take_length];exact hd _) (Nat.zero_le _)
  simpa using this
theorem qa7 {γ : Type} (g : γ→γ) (a b : List γ) (l : (a ++ b).length≤1000000) (f : Int × List γ→Option ((Int × List γ) ⊕ (List γ)))
    (hs : ∀ (k : Nat) (o : List γ) (h : k < o.length),o.length = (a ++ b).length→f ((k : Int),o) = some (.inl (((k + 1 : Nat) : Int),o.set k (g o[k]))))
    (hd : ∀ o : List γ,f ((o.length : Int),o) = some (.inr o)) : loop f ((a.length : Int),a ++ b) = some (a ++ b.map g):=by
  have m : a.length + b.length≤1000000:=by simpa using l
  have key:=Zx (f:=f) (fun k=>(((a.length + k : Nat) : Int),a ++ ((b.take k).map g ++ b.drop k))) b.length (a ++ b.map g) (fun k h=>by
    have c : (a ++ ((b.take k).map g ++ b.drop k)).length = (a ++ b).length:=by simp;omega
    have d : a.length + k < (a ++ ((b.take k).map g ++ b.drop k)).length:=by rw [c];simp;omega
    rw [hs (a.length + k) _ d c];have j : ((b.take k).map g).length = k:=by simp;omega
    have e : (a ++ ((b.take k).map g ++ b.drop k))[a.length + k]'d = b[k]:=by
      rw [List.getElem_append_right q6];rw [List.getElem_append_right (by rw [j];omega)];simp [List.length_take,Nat.min_eq_left (Nat.le_of_lt h)]
    rw [e];congr 4;rw [List.set_append,qr q6,List.set_append,qr (by rw [j];omega),j];have z : a.length + k - a.length - k = 0:=by omega
    rw [z,List.take_succ_eq_append_getElem h,List.drop_eq_getElem_cons h,List.set_cons_zero,List.map_append,List.map_cons,List.map_nil,List.append_assoc]
    rfl) (by
    simp only [List.take_length,List.drop_length,List.append_nil];have:=hd (a ++ b.map g)
    simpa using this) (Nat.zero_le _)
  simpa using key
theorem Uu {α γ υ : Type} (l : List α) (c : α→Bool) (n : (k : Nat)→k < l.length→γ) (u : υ) (f : Int→Option (Int ⊕ (υ ⊕ γ)))
    (hs : ∀ (k : Nat) (h : k < l.length),f (k : Int) = some (if c l[k] = true then .inr (.inr (n k h)) else .inl ((k + 1 : Nat) : Int))) (hd : f (l.length : Int) = some (.inr (.inl u))) :
    ((∀ v∈l,c v = false)∧loop f 0 = some (.inl u))∨∃ k,∃ h : k < l.length,c l[k] = true∧(∀ j (d : j < k),c (l[j]'(q6)) = false)∧loop f 0 = some (.inr (n k h)):=by
  by_cases q : ∀ v∈l,c v = false
  · refine .inl ⟨q,?_⟩;exact Zx (f:=f) (fun k=>(k : Int)) l.length _ (fun k b=>by rw [hs k b,q _ (Y6 b)];rfl) hd (Nat.zero_le _)
  · refine .inr ?_
    have : ∃ k,∃ h : k < l.length,c l[k] = true:=by
      refine Classical.byContradiction fun s=>q fun v r=>?_;obtain ⟨k,b,rfl⟩:=List.getElem_of_mem r;cases o : c l[k]
      · rfl
      · exact absurd ⟨k,b,o⟩ s
    have g : ∃ k,(∃ h : k < l.length,c l[k] = true)∧∀ j,j < k→¬ ∃ h : j < l.length,c l[j] = true:=by
      obtain ⟨k,b⟩:=this
      induction k using Nat.strongRecOn with
      | _ k ih=>
        by_cases d : ∃ j,j < k∧∃ h : j < l.length,c l[j] = true
        · obtain ⟨j,p,g⟩:=d;exact ih j p g
        · exact ⟨k,b,fun j p g=>d ⟨j,p,g⟩⟩
    obtain ⟨k,⟨b,o⟩,m⟩:=g
    have a : ∀ j (d : j < k),c (l[j]'(q6)) = false:=fun j d=>by
      cases h : c (l[j]'(q6))
      · rfl
      · exact absurd ⟨q6,h⟩ (m j d)
    refine ⟨k,b,o,a,?_⟩;exact Zx (f:=f) (fun k=>(k : Int)) k _ (fun j d=>by rw [hs j q6,a j d];rfl) (by rw [hs k b,qp o]) (Nat.zero_le _)
theorem qkv : ∀ {l a b : List Int},Yo l a→Yo l b→a = b:=by
  have key : ∀ (a b : List Int),a.Pairwise (· < ·)→b.Pairwise (· < ·)→(∀ x,x∈a↔x∈b)→a = b:=by
    intro a
    induction a with
    | nil=>intro b _ _ h;cases b with
      | nil=>rfl
      | cons y b=>exact absurd ((h y).2 qd) qd
    | cons x a ih=>
      intro b d hb h
      cases b with
      | nil=>exact absurd ((h x).1 qd) qd
      | cons y b=>
        rw [List.pairwise_cons] at d hb
        have g : x = y:=by
          rcases List.mem_cons.1 ((h x).1 qd) with c | c
          · exact c
          · rcases List.mem_cons.1 ((h y).2 qd) with j | j
            · exact j.symm
            · have:=hb.1 _ c;have:=d.1 _ j;omega
        subst g;rw [ih b d.2 hb.2 fun z=>?_];constructor
        · intro f;rcases List.mem_cons.1 ((h z).1 (by simp [f])) with c | c
          · have:=d.1 _ f;omega
          · exact c
        · intro f;rcases List.mem_cons.1 ((h z).2 (by simp [f])) with c | c
          · have:=hb.1 _ f;omega
          · exact c
  intro l a b d hb;exact key a b d.1 hb.1 fun x=>(d.2 x).trans (hb.2 x).symm
def ltI (a b : Int) : Bool:=decide (a < b)
theorem swoI : Sort.SWO ltI where
  irrefl:=by intro x;simp [ltI]
  trans:=by intro x y z;simp only [ltI,decide_eq_true_eq];omega
  ntrans:=by intro x y z;simp only [ltI,decide_eq_false_iff_not];omega
theorem cmpI : Kq qO ltI (fun _=>True):=by
  intro x y _ _;refine ⟨sg x y,rfl,?_⟩;rw [Zl];rfl
theorem qku (l : List Int) (f : l.length≤1000000) : ∃ ys,Uj l = some ys∧ys.Perm l∧ys.Pairwise (·≤·):=by
  obtain ⟨ys,d,g,c⟩:=qkt cmpI swoI l f (fun _ _=>trivial);refine ⟨ys,by rw [qvo];exact d,g,c.imp ?_⟩;intro a b h;simp only [ltI,decide_eq_false_iff_not] at h;omega
end Go.Sh
namespace Go.Sh
open Go Go.Am
structure CInv (p : List Int) (k k2 i : Nat) (a : List Int) : Prop where
  len : a.length = p.length
  hi : i≤k + k2 - 1
  same : ∀ j (h : j < p.length),k + k2 - 1≤j→a[j]? = some p[j]
  so : Yo (p.take (k + k2)) (a.take i)
theorem qnc {p : List Int} (hp : p.Pairwise (·≤·)) (hl : p.length≤1000000) {k b i : Nat} {a : List Int} (hk : 0 < k) (h2 : 0 < b) (s : k + b < p.length) (h : CInv p k b i a) :
    ∃ (i' : Nat) (a' : List Int),q1i ((i : Int),(k,p.length - k),(b : Int),a) = some (.inl ((i' : Int),(k,p.length - k),((b + 1 : Nat) : Int),a'))∧CInv p k (b + 1) i' a':=by
  obtain ⟨h1,h3,q,h5,t⟩:=h;have hb : decide ((b : Int) < ((p.length - k : Nat) : Int)) = true:=dlt q6
  have r1 : idxW a (k,p.length - k) (b : Int) = some (p[k + b]):=by
    unfold idxW;rw [qp ⟨q6,q6⟩];simp only [Int.toNat_natCast];exact q (k + b) s q6
  have r2 : idxW a (k,p.length - k) (w64 ((b : Int) - 1)) = some (p[k + b - 1]):=by
    rw [Q8 q6];have e : (b : Int) - 1 = ((b - 1 : Nat) : Int):=by omega
    rw [e];unfold idxW;rw [qp ⟨q6,q6⟩];simp only [Int.toNat_natCast];have:=q (k + b - 1) q6 q6;rw [show k + (b - 1) = k + b - 1 by omega];exact this
  have aj : p[k + b - 1]≤p[k + b]:=List.pairwise_iff_getElem.1 hp _ _ q6 s q6
  have d : p[k + b - 1]∈p.take (k + b):=by
    rw [List.mem_take_iff_getElem];exact ⟨k + b - 1,q6,rfl⟩
  have l : p.take (k + (b + 1)) = p.take (k + b) ++ [p[k + b]]:=by rw [← Nat.add_assoc,List.take_succ_eq_append_getElem s]
  have hw : w64 ((b : Int) + 1) = ((b + 1 : Nat) : Int):=w64s (n:=p.length) q6 hl;by_cases z : p[k + b] = p[k + b - 1]
  · refine ⟨i,a,?_,h1,q6,fun j o u=>q j o q6,?_⟩
    · have c : (p[k + b] != p[k + b - 1]) = false:=by rw [z];simp
      simp only [q1i,hb,qy,r1,r2,qh,c,Q0,hw]
    · rw [l];refine ⟨h5,fun x=>?_⟩;rw [t x];constructor
      · intro g;exact List.mem_append.2 (.inl g)
      · intro g;rcases List.mem_append.1 g with h | h
        · exact h
        · simp only [List.mem_singleton] at h;rw [h,z];exact d
  · have c : (p[k + b] != p[k + b - 1]) = true:=by simpa using z
    have m : i < a.length:=by omega
    have r3 : idx a (i : Int) = some a[i]:=Qx m;have v : w64 ((i : Int) + 1) = ((i + 1 : Nat) : Int):=w64s (n:=p.length) q6 hl;refine ⟨i + 1,a.set i p[k + b],?_,by simpa using h1,q6,fun j o u=>?_,?_⟩
    · simp only [q1i,hb,qy,r1,r2,qh,c,r3,hw,v,Int.toNat_natCast]
    · rw [List.getElem?_set_ne q6];exact q j o q6
    · have e : (a.set i p[k + b]).take (i + 1) = a.take i ++ [p[k + b]]:=by
        rw [List.take_succ_eq_append_getElem (by simpa using m)];simp [List.take_set_of_le]
      rw [e,l];refine ⟨?_,fun x=>?_⟩
      · rw [List.pairwise_append];refine ⟨h5,qd,fun x g y hy=>?_⟩;simp only [List.mem_singleton] at hy;subst hy;have f:=(t x).1 g;rw [List.mem_take_iff_getElem] at f;obtain ⟨j,o,rfl⟩:=f
        have : p[j]≤p[k + b - 1]:=by
          by_cases r : j = k + b - 1
          · subst r;exact Int.le_refl _
          · exact List.pairwise_iff_getElem.1 hp _ _ q6 q6 q6
        omega
      · rw [List.mem_append,List.mem_append,t x]
theorem qnb {p : List Int} (hp : p.Pairwise (·≤·)) (s : p.length≤1000000) {k : Nat} (x : 0 < k) (o : k < p.length) (u : Yo (p.take (k + 1)) (p.take k)) :
    ∃ i : Nat,∃ a : List Int,loop q1i ((k : Int),(k,p.length - k),1,p) = some ((i : Int),a)∧a.length = p.length∧i≤p.length∧Yo p (a.take i):=by
  have h:=Jf (f:=q1i) (mk:=fun d (c : Nat × List Int)=>((c.1 : Int),(k,p.length - k),((d : Nat) : Int),c.2)) (p.length - k) (fun d c=>0 < d∧CInv p k d c.1 c.2)
    (fun b=>∃ i : Nat,∃ a : List Int,b = ((i : Int),a)∧a.length = p.length∧i≤p.length∧Yo p (a.take i))
    (fun d c q g=>by
      obtain ⟨y,a',m,r⟩:=qnc hp s x g.1 q6 g.2
      exact .inl ⟨(y,a'),m,q6,r⟩)
    (fun c g=>by
      obtain ⟨l,v,h3,h4,z⟩:=g;refine ⟨((c.1 : Int),c.2),?_,c.1,c.2,rfl,v,q6,?_⟩
      · simp only [q1i,dnl,Q0]
      · rwa [List.take_of_length_le q6] at z)
    (k0:=1) (c0:=(k,p)) q6 ⟨q6,rfl,qd,fun j n _=>by simp [n],u⟩
  obtain ⟨b,hb,i,a,rfl,t⟩:=h;exact ⟨i,a,hb,t⟩
theorem qfs {p : List Int} (hp : p.Pairwise (·≤·)) (y : p.length≤1000000) :
    ∃ w a,q2k p = some ((0,w),a)∧a.length = p.length∧w≤p.length∧Yo p (a.take w):=by
  unfold q2k;by_cases hs : p.length < 2
  · rw [Qb (by omega : (p.length : Int) < 2),qy];refine ⟨p.length,p,rfl,rfl,Nat.le_refl _,?_⟩;rw [List.take_length];refine ⟨?_,fun x=>Iff.rfl⟩
    match p,hs with
    | [],_=>simp
    | [x],_=>simp
  rw [Q6 (by omega : ¬ (p.length : Int) < 2),Q0]
  have b : ∀ k,k≤p.length→(∀ j (d : j < k),0 < j→∀ h : j < p.length,p[j]≠p[j - 1])→Yo (p.take k) (p.take k):=by
    intro k l q;refine ⟨?_,fun x=>Iff.rfl⟩;rw [List.pairwise_iff_getElem];intro i j hi d ad;simp only [List.length_take] at hi d;simp only [List.getElem_take];have g : p[j - 1]≤p[j]:=List.pairwise_iff_getElem.1 hp _ _ q6 q6 q6;have r:=q j q6 q6 q6
    have h3 : p[i]≤p[j - 1]:=by
      by_cases e : i = j - 1
      · subst e;exact Int.le_refl _
      · exact List.pairwise_iff_getElem.1 hp _ _ q6 q6 q6
    omega
  have c : ∀ k,0 < k→∀ h : k < p.length,p[k]≠p[k - 1]→J0 p (k : Int) = some (.inl ((k + 1 : Nat) : Int)):=by
    intro k m h q;have t : idx p (w64 ((k : Int) - 1)) = some (p[k - 1]):=by rw [Q8 q6];exact q17 q6 q6
    have hb : (p[k] == p[k - 1]) = false:=by simpa using q
    simp only [J0,dlt h,qy,Qx h,t,qh,hb,Q0,w64s h y]
  by_cases v : ∀ j,0 < j→∀ h : j < p.length,p[j]≠p[j - 1]
  · have g : loop (J0 p) 1 = some (.inl ()):=by
      exact Zx (f:=J0 p) (fun k=>((k + 1 : Nat) : Int)) (p.length - 1) _ (fun k l=>by
        exact c (k + 1) q6 q6 (v (k + 1) q6 q6)) (by
        show J0 p (((p.length - 1) + 1 : Nat) : Int) = _;rw [show p.length - 1 + 1 = p.length by omega]
        simp only [J0,dnl,Q0]) (Nat.zero_le _)
    rw [g];refine ⟨p.length,p,rfl,rfl,Nat.le_refl _,?_⟩;have:=b p.length (Nat.le_refl _) fun j _ m h=>v j m h;rw [List.take_length] at this ⊢;exact this
  · have r : ∃ k,(0 < k∧∃ h : k < p.length,p[k] = p[k - 1])∧∀ j,j < k→¬ (0 < j∧∃ h : j < p.length,p[j] = p[j - 1]):=by
      have : ∃ k,0 < k∧∃ h : k < p.length,p[k] = p[k - 1]:=by
        refine Classical.byContradiction fun hn=>v fun j m h o=>hn ⟨j,m,h,o⟩
      obtain ⟨k,l⟩:=this
      induction k using Nat.strongRecOn with
      | _ k ih=>
        by_cases d : ∃ j,j < k∧(0 < j∧∃ h : j < p.length,p[j] = p[j - 1])
        · obtain ⟨j,g,r⟩:=d;exact ih j g r
        · exact ⟨k,l,fun j g r=>d ⟨j,g,r⟩⟩
    obtain ⟨k,⟨m,l,o⟩,n⟩:=r;have u : Yo (p.take k) (p.take k):=b k q6 fun j d m h o=>n j d ⟨m,h,o⟩
    have s : Yo (p.take (k + 1)) (p.take k):=by
      refine ⟨u.1,fun x=>?_⟩;rw [List.take_succ_eq_append_getElem l,List.mem_append];refine ⟨.inl,fun h=>h.elim id fun h=>?_⟩;simp only [List.mem_singleton] at h;rw [h,o,List.mem_take_iff_getElem];exact ⟨k - 1,q6,rfl⟩
    obtain ⟨i,a,z,e2,e3,e4⟩:=qnb hp y m l s;have s1 : sub2 p.length (k : Int) (p.length : Int) = some (k,p.length - k):=by unfold sub2;rw [qp ⟨q6,q6,q6⟩];simp
    have s2 : sub2 a.length (i : Int) (a.length : Int) = some (i,a.length - i):=by unfold sub2;rw [qp ⟨q6,q6,q6⟩];simp
    have s3 : sub2 a.length 0 (i : Int) = some (0,i):=by unfold sub2;rw [qp ⟨q6,q6,q6⟩];simp
    have t : idx p (w64 ((k : Int) - 1)) = some (p[k - 1]):=by rw [Q8 q6];exact q17 q6 q6
    have g : loop (J0 p) 1 = some (.inr ((0,i),clrw a (i,a.length - i) 0)):=by
      exact Zx (f:=J0 p) (fun k=>((k + 1 : Nat) : Int)) (k - 1) _ (fun j d=>by
        exact c (j + 1) q6 q6 fun o=>n (j + 1) q6 ⟨q6,q6,o⟩) (by
        show J0 p (((k - 1) + 1 : Nat) : Int) = _;rw [show k - 1 + 1 = k by omega];have hb : (p[k] == p[k - 1]) = true:=by simpa using o
        simp only [J0,dlt l,qy,Qx l,t,qh,hb,s1,z,s2,s3]) (Nat.zero_le _)
    rw [g];refine ⟨i,clrw a (i,a.length - i) 0,rfl,by rw [qfj (by simp;omega)];exact e2,e3,?_⟩
    have : (clrw a (i,a.length - i) 0).take i = a.take i:=by
      unfold clrw splice;rw [List.append_assoc,List.take_append_of_le_length (by simp;omega)];simp [List.take_take]
    rw [this];exact e4
end Go.Sh
namespace Go.Sh
open Go Go.Am
theorem q79 {α : Type} [DecidableEq α] (e : α→α→Bool) (j : ∀ v w,e v w = decide (v = w)) (p q : List α) (n : p.length≤1000000) (f : Int→Option (Int ⊕ (Unit ⊕ Bool)))
    (g : ∀ k,f k = cond (decide (k < (p.length : Int))) ((idx p k).bind fun v=>(idx q k).bind fun w=>cond (!(e v w)) (some (.inr (.inr false))) (some (.inl (w64 (k + 1))))) (some (.inr (.inl ())))) :
    cond ((p.length : Int) != (q.length : Int)) (some false) ((loop f 0).bind fun m=>(match m with | .inl _=>some true | .inr x=>some x)) = some (decide (p = q)):=by
  by_cases a : p.length = q.length
  · have : ((p.length : Int) != (q.length : Int)) = false:=by rw [a];simp
    rw [this,Q0]
    let c : Nat→Bool:=fun k=>if h : k < p.length then !(e p[k] (q[k]'(q6))) else false
    have hs : ∀ (k : Nat) (h : k < (List.range p.length).length),f (k : Int) = some (if c (List.range p.length)[k] = true then .inr (.inr false) else .inl ((k + 1 : Nat) : Int)):=by
      intro k h;have h : k < p.length:=by simpa using h
      rw [g];simp only [dlt h,qy,Qx h,Qx (xs:=q) (k:=k) q6,qh,List.getElem_range,c,dif_pos h,w64s h n];cases e p[k] (q[k]'(q6)) <;> simp
    have hd : f ((List.range p.length).length : Int) = some (.inr (.inl ())):=by rw [g];simp []
    rcases Uu (List.range p.length) c (fun _ _=>false) () f hs hd with ⟨o,b⟩ | ⟨k,r,l,_,b⟩
    · rw [b]
      have : p = q:=by
        refine List.ext_getElem a fun k d t=>?_;have:=o k (by simpa using d);simp only [c,dif_pos d,j,Bool.not_eq_false',decide_eq_true_eq] at this;exact this
      simp [this]
    · rw [b];have s : k < p.length:=by simpa using r
      have : p≠q:=by
        intro h;simp only [List.getElem_range,c,j,h] at l;simp at l
      simp [this]
  · have : ((p.length : Int) != (q.length : Int)) = true:=by simpa using (fun h : (p.length : Int) = q.length=>a q6)
    rw [this,qy];have : p≠q:=fun h=>a (by rw [h]);simp [this]
theorem qg9 (p q : List qo) (a : p.length≤1000000) : q8a p q = some (decide (p = q)):=
  q79 (fun v w=>((v.Lo == w.Lo) && ((v.Hi == w.Hi) && true))) (fun v w=>by cases v;cases w;rw [Bool.eq_iff_iff];simp) p q a (qbg p q) (fun _=>rfl)
theorem qk6 (p q : List qo) (a : p.length≤1000000) : q4t p q = some (decide (p = q)):=
  q79 (fun v w=>((v.Lo == w.Lo) && ((v.Hi == w.Hi) && true))) (fun v w=>by cases v;cases w;rw [Bool.eq_iff_iff];simp) p q a (qay p q) (fun _=>rfl)
theorem qg8 (p q : List qq) (a : p.length≤1000000) : q89 p q = some (decide (p = q)):=
  q79 (fun v w=>((v.X0 == w.X0) && ((v.Y0 == w.Y0) && ((v.X1 == w.X1) && ((v.Y1 == w.Y1) && true))))) (fun v w=>by cases v;cases w;rw [Bool.eq_iff_iff];simp) p q a (qbe p q) (fun _=>rfl)
theorem qk5 (p q : List qq) (a : p.length≤1000000) : q4x p q = some (decide (p = q)):=
  q79 (fun v w=>((v.X0 == w.X0) && ((v.Y0 == w.Y0) && ((v.X1 == w.X1) && ((v.Y1 == w.Y1) && true))))) (fun v w=>by cases v;cases w;rw [Bool.eq_iff_iff];simp) p q a (qaz p q) (fun _=>rfl)
theorem sameBox (p q : List qj) (a : p.length≤1000000) : qb2 p q = some (decide (p = q)):=
  q79 (fun v w=>((v.Lo.X == w.Lo.X) && ((v.Lo.Y == w.Lo.Y) && ((v.Lo.Z == w.Lo.Z) && ((v.Hi.X == w.Hi.X) && ((v.Hi.Y == w.Hi.Y) && ((v.Hi.Z == w.Hi.Z) && true))))))) (fun v w=>by rcases v with ⟨⟨_,_,_⟩,⟨_,_,_⟩⟩;rcases w with ⟨⟨_,_,_⟩,⟨_,_,_⟩⟩;rw [Bool.eq_iff_iff];simp [and_assoc]) p q a (qb3 p q) (fun _=>rfl)
structure Mg (σ β : Type) where
  done : List β
  sec : List σ
  lo : Int
  hi : Int
section
variable {σ β : Type} [DecidableEq σ] (put : Int→Int→σ→β)
def Mg.flat (s : Mg σ β) : List β:=s.done ++ s.sec.map (put s.lo s.hi)
def addM (s : Mg σ β) (a b : Int) (c : List σ) : Mg σ β:=if c≠[]∧c = s.sec∧s.hi = a then ⟨s.done,s.sec,s.lo,b⟩ else ⟨s.flat put,c,a,b⟩
def K4 : Mg σ β:=⟨[],[],0,0⟩
def K5 (s0 : Mg σ β) (steps : List (Int × Int × List σ)) : Mg σ β:=steps.foldl (fun s t=>addM put s t.1 t.2.1 t.2.2) s0
theorem q4h {s0 : Mg σ β} {steps : List (Int × Int × List σ)} {i : Nat} (h : i < steps.length) : K5 put s0 (steps.take (i + 1)) = addM put (K5 put s0 (steps.take i)) steps[i].1 steps[i].2.1 steps[i].2.2:=by
  unfold K5;rw [List.take_succ_eq_append_getElem h,List.foldl_append];rfl
theorem qev (s : Mg σ β) (a b : Int) (c : List σ) : (addM put s a b c).hi = b:=by unfold addM;split <;> rfl
theorem qlo (s : Mg σ β) (a b : Int) (c : List σ) : ((addM put s a b c).flat put).length≤(s.flat put).length + c.length:=by
  unfold addM;split
  · simp [Mg.flat]
  · simp [Mg.flat];omega
theorem qcp {s0 : Mg σ β} {M : Nat} : ∀ {steps : List (Int × Int × List σ)},(∀ t∈steps,t.2.2.length≤M)→((K5 put s0 steps).flat put).length≤(s0.flat put).length + steps.length * M:=by
  intro steps
  induction steps generalizing s0 with
  | nil=>intro _;simp [K5]
  | cons t r ih=>
    intro h;have f:=ih (s0:=addM put s0 t.1 t.2.1 t.2.2) fun u a=>h u (by simp [a]);have d:=qlo put s0 t.1 t.2.1 t.2.2;have c:=h t qd;have b : K5 put s0 (t::r) = K5 put (addM put s0 t.1 t.2.1 t.2.2) r:=rfl;rw [b];simp only [List.length_cons,Nat.succ_mul];omega
end
section
variable {σ : Type}
def Yl (cuts : List Int) (sec : Int→List σ) : List (Int × Int × List σ):=(cuts.zip cuts.tail).map fun c=>(c.1,c.2,sec c.1)
theorem q9f (a : List Int) (sec : Int→List σ) : (Yl a sec).length = a.length - 1:=by simp [Yl]
theorem q9e {a : List Int} {sec : Int→List σ} {i : Nat} (h : i < (Yl a sec).length) (b : i + 1 < a.length) : (Yl a sec)[i] = (a[i],a[i + 1],sec a[i]):=by
  simp [Yl]
theorem qyf {a : List Int} {sec : Int→List σ} {M : Nat} (h : ∀ x,(sec x).length≤M) : ∀ t∈Yl a sec,t.2.2.length≤M:=by
  intro t b;simp only [Yl,List.mem_map] at b;obtain ⟨c,_,rfl⟩:=b;exact h _
end
theorem Up {σ β : Type} [DecidableEq σ] (put : Int→Int→σ→β) (s : Mg σ β) (a b : Int) (c : List σ) : (c≠[]∧c = s.sec∧s.hi = a∧addM put s a b c = ⟨s.done,s.sec,s.lo,b⟩)∨(¬ (c≠[]∧c = s.sec∧s.hi = a)∧addM put s a b c = ⟨s.flat put,c,a,b⟩):=by
  unfold addM;split
  · rename_i h;exact .inl ⟨h.1,h.2.1,h.2.2,rfl⟩
  · rename_i h;exact .inr ⟨h,rfl⟩
def putR (a b : Int) (t : qo) : qq:={X0:=a,Y0:=t.Lo,X1:=b,Y1:=t.Hi}
theorem qm1 (s : Mg qo qq) (a b : Int) (c : List qo) (hl : (s.flat putR).length + c.length≤1000000) :
    q81 (s.flat putR) s.sec (s.done.length : Int) s.hi a b c = some ((addM putR s a b c).sec,((addM putR s a b c).done.length : Int),(addM putR s a b c).hi,(addM putR s a b c).flat putR):=by
  have d : s.sec.length≤1000000:=by have : (s.flat putR).length = s.done.length + s.sec.length:=(by simp [Mg.flat]);omega
  unfold q81;rcases Up putR s a b c with ⟨m,r,t,q⟩ | ⟨m,q⟩
  · have hb : decide ((c.length : Int) > 0) = true:=Qb (by have:=List.length_pos_iff.2 m;omega);have y : (s.hi == a) = true:=by simpa using t
    rw [r] at hb;rw [q,r];simp only [hb,qy,y,qh,qg9 _ _ d,decide_true]
    have:=qa7 (fun v : qq=>({X0:=v.X0,Y0:=v.Y0,X1:=b,Y1:=v.Y1} : qq)) s.done (s.sec.map (putR s.lo s.hi)) (by have : (s.done ++ s.sec.map (putR s.lo s.hi)).length = (s.flat putR).length:=rfl;omega) (q5g b) (fun k o f u=>by
      have l : (s.done ++ s.sec.map (putR s.lo s.hi)).length = (s.flat putR).length:=rfl
      simp only [q5g,dlt f,qy,Qx f,qh,w64s f q6,Int.toNat_natCast]) (fun o=>by simp only [q5g,dnl,Q0])
    rw [show s.flat putR = s.done ++ s.sec.map (putR s.lo s.hi) from rfl,this];simp only [qh,Mg.flat,List.map_map];rfl
  · rw [q]
    have z : ((cond (decide ((c.length : Int) > 0)) (some (s.hi == a)) (some false)).bind fun g=>(cond g ((q8a s.sec c).bind fun j=>some j) (some false))) = some false:=by
      by_cases l : c = []
      · subst l;simp
      · have hb : decide ((c.length : Int) > 0) = true:=Qb (by have:=List.length_pos_iff.2 l;omega);simp only [hb,qy,qh,qg9 _ _ d];by_cases p : s.hi = a
        · have x : s.sec≠c:=fun h=>m ⟨l,h.symm,p⟩;simp [p,x]
        · have : (s.hi == a) = false:=by simpa using p
          simp [this]
    have n:=q7f c (putR a b) (s.flat putR) (fun o=>(c,((s.flat putR).length : Int),b,o)) (q5h c a b (s.flat putR)) (fun k f o u=>by
      simp only [q5h,dlt f,qy,Qx f,qh,w64s f q6];rw [Y8 (by simp;omega)]
      rfl) (fun o=>by simp only [q5h,dnl,Q0])
    rw [← Option.bind_assoc,z];simp only [qh,Q0,n];simp [Mg.flat]
end Go.Sh
namespace Go.Sh
open Go Go.Am
def vR (r : qq) : Prop:=r.X0 < r.X1∧r.Y0 < r.Y1∧-1000000≤r.X0∧r.X0≤1000000∧-1000000≤r.X1∧r.X1≤1000000∧-1000000≤r.Y0∧r.Y0≤1000000∧-1000000≤r.Y1∧r.Y1≤1000000
instance (r : qq) : Decidable (vR r):=by unfold vR;infer_instance
theorem qo5 (x : Int) : q2e x = some (decide (-1000000≤x∧x≤1000000)):=by
  unfold q2e;by_cases h : x ≥ -1000000 <;> by_cases a : x≤1000000 <;> simp [h,a] <;> omega
theorem qz3 (r : qq) : q83 r = some (decide (vR r)):=by
  unfold q83;simp only [qo5,qnd,qh,vR];by_cases g : r.X0 < r.X1 <;> by_cases f : r.Y0 < r.Y1 <;> by_cases a : -1000000≤r.X0∧r.X0≤1000000 <;> by_cases c : -1000000≤r.X1∧r.X1≤1000000 <;> by_cases d : -1000000≤r.Y0∧r.Y0≤1000000 <;> by_cases b : -1000000≤r.Y1∧r.Y1≤1000000 <;> simp [g,f,a,c,d,b] <;> omega
def covR (x : Int) (r : qq) : Bool:=decide (r.X0≤x) && decide (x < r.X1)
def ysp (r : qq) : qo:={Lo:=r.Y0,Hi:=r.Y1}
def covS (l : List qq) (x : Int) : List qo:=l.flatMap fun r=>if covR x r = true then [ysp r] else []
def hasR (l : List qq) (x y : Int) : Prop:=∃ r∈l,r.X0≤x∧x < r.X1∧r.Y0≤y∧y < r.Y1
theorem qam {l : List qq} {x : Int} {t : qo} : t∈covS l x↔∃ r∈l,covR x r = true∧t = ysp r:=by
  unfold covS;rw [List.mem_flatMap];constructor
  · rintro ⟨r,b,h⟩;split at h
    · rename_i a;simp only [List.mem_singleton] at h;exact ⟨r,b,a,h⟩
    · cases h
  · rintro ⟨r,b,a,rfl⟩;exact ⟨r,b,by simp [a]⟩
theorem Ua {l : List qq} {x y : Int} : has (covS l x) y↔hasR l x y:=by
  unfold has hasR;constructor
  · rintro ⟨t,h,d,c⟩;obtain ⟨r,b,a,rfl⟩:=qam.1 h;simp only [covR,Bool.and_eq_true,decide_eq_true_eq] at a;exact ⟨r,b,a.1,a.2,d,c⟩
  · rintro ⟨r,b,d,c,f,g⟩;exact ⟨ysp r,qam.2 ⟨r,b,by simp [covR,d,c],rfl⟩,f,g⟩
theorem q1s (l : List qq) (x : Int) : (covS l x).length≤l.length:=by
  unfold covS
  induction l with
  | nil=>simp
  | cons r l ih=>
    simp only [List.flatMap_cons,List.length_append,List.length_cons];have : (if covR x r = true then [ysp r] else []).length≤1:=by split <;> simp
    omega
theorem qnl {l : List qq} (h : ∀ r∈l,vR r) (x : Int) : ∀ t∈covS l x,vld t:=by
  intro t d;obtain ⟨r,c,_,rfl⟩:=qam.1 d;obtain ⟨_,f,_,_,_,_,a,_,_,b⟩:=h r c;exact ⟨f,a,b⟩
def xsOf (l : List qq) : List Int:=l.flatMap fun r=>[r.X0,r.X1]
def ysOf (l : List qq) : List Int:=l.flatMap fun r=>[r.Y0,r.Y1]
theorem q1p (l : List qq) : (xsOf l).length = 2 * l.length:=by
  unfold xsOf;induction l with
  | nil=>rfl
  | cons r l ih=>simp only [List.flatMap_cons,List.length_append,List.length_cons,List.length_nil];omega
theorem q9o (l : List qq) : (ysOf l).length = 2 * l.length:=by
  unfold ysOf;induction l with
  | nil=>rfl
  | cons r l ih=>simp only [List.flatMap_cons,List.length_append,List.length_cons,List.length_nil];omega
theorem qg6 {l : List qq} {x y : Int} (h : y∈ends (covS l x)) : y∈ysOf l:=by
  obtain ⟨t,b,h⟩:=q7h.1 h;obtain ⟨r,a,_,rfl⟩:=qam.1 b;unfold ysOf;rw [List.mem_flatMap];exact ⟨r,a,by rcases h with h | h <;> simp [h,ysp]⟩
noncomputable def Qu (l : List Int) : List Int:=(Jh l).getD []
theorem Jz {l : List Int} (b : l.length≤1000000) : Jh l = some (Qu l)∧Yo l (Qu l)∧(Qu l).length≤l.length:=by
  obtain ⟨t,d,c,a⟩:=qkw l b;unfold Qu;rw [d];exact ⟨rfl,c,a⟩
noncomputable def secJ (kind : Int) (p q : List qq) (x : Int) : List qo:=q37 kind (covS p x) (covS q x)
theorem qec (kind : Int) {p q : List qq} (h : p.length + q.length≤100000) (x : Int) : (secJ kind p q x).length≤2 * (p.length + q.length):=by
  have b:=q1s p x;have a:=q1s q x;have:=(q7d kind (covS p x) (covS q x) q6 q6).2.len;unfold secJ;omega
noncomputable def mrg (kind : Int) (p q : List qq) : Mg qo qq:=K5 putR K4 (Yl (Qu (xsOf p ++ xsOf q)) (secJ kind p q))
noncomputable def mrgR (kind : Int) (p q : List qq) : List qq:=(mrg kind p q).flat putR
theorem qa4 {p q : List qq} (h : p.length + q.length≤490) : Jh (xsOf p ++ xsOf q) = some (Qu (xsOf p ++ xsOf q))∧Yo (xsOf p ++ xsOf q) (Qu (xsOf p ++ xsOf q))∧(Qu (xsOf p ++ xsOf q)).length≤2 * (p.length + q.length):=by
  have d:=q1p p;have f:=q1p q;obtain ⟨a,b,c⟩:=Jz (l:=xsOf p ++ xsOf q) (by simp;omega);exact ⟨a,b,by simp at c;omega⟩
theorem qch {p q : List qq} (h : p.length + q.length≤490) : Jh (ysOf p ++ ysOf q) = some (Qu (ysOf p ++ ysOf q))∧Yo (ysOf p ++ ysOf q) (Qu (ysOf p ++ ysOf q))∧(Qu (ysOf p ++ ysOf q)).length≤2 * (p.length + q.length):=by
  have d:=q9o p;have f:=q9o q;obtain ⟨a,b,c⟩:=Jz (l:=ysOf p ++ ysOf q) (by simp;omega);exact ⟨a,b,by simp at c;omega⟩
theorem qih (kind : Int) {p q : List qq} (h : p.length + q.length≤490) (i : Nat) :
    ((K5 putR K4 ((Yl (Qu (xsOf p ++ xsOf q)) (secJ kind p q)).take i)).flat putR).length≤980 * 980:=by
  have f:=qcp putR (s0:=K4) (M:=980) (steps:=(Yl (Qu (xsOf p ++ xsOf q)) (secJ kind p q)).take i) (fun t a=>by
    have:=qyf (M:=2 * (p.length + q.length)) (fun x=>qec kind q6 x) t (List.mem_of_mem_take a)
    omega)
  have b : ((Yl (Qu (xsOf p ++ xsOf q)) (secJ kind p q)).take i).length≤980:=by
    have:=(qa4 h).2.2;rw [List.length_take,q9f];omega
  have c : (K4.flat putR : List qq).length = 0:=rfl;have d : ((Yl (Qu (xsOf p ++ xsOf q)) (secJ kind p q)).take i).length * 980≤980 * 980:=Nat.mul_le_mul_right _ b;omega
theorem qpl (l : List qq) (hl : l.length≤400) :
    (((idx [l] 0).bind fun g=>(loop (q2f g) (0,[])).bind fun s=>some s).bind fun f=>(Uj f).bind fun c=>(Qz c.length f.length).bind fun _=>(q2k c).bind fun b=>(Qz b.2.length c.length).bind fun _=>(q2s b.2.length b.1).bind fun _=>some ((b.2.drop b.1.1).take b.1.2)) = some (Qu (xsOf l)):=by
  have u : idx [l] 0 = some l:=rfl
  have n : loop (q2f l) (0,[]) = some (xsOf l):=by
    have:=Jk l q6 (fun r=>[r.X0,r.X1]) [] (fun o=>o) (q2f l) (fun k h o t=>by
      have y : o.length = 2 * k:=by rw [t,List.nil_append];have:=q1p (l.take k);rw [List.length_take,Nat.min_eq_left q6] at this;exact this
      simp only [q2f,dlt h,qy,Qx h,qh,w64s h q6];rw [Y8 (by simp;omega)]
      rfl) (fun o=>by simp only [q2f,dnl,Q0])
    rw [List.nil_append] at this;exact this
  have z:=q1p l;obtain ⟨ys,p,m,v⟩:=qku (xsOf l) q6;have j : ys.length = (xsOf l).length:=m.length_eq;obtain ⟨w,a,c1,c2,c3,c4⟩:=qfs v q6;obtain ⟨_,q,_⟩:=Jz (l:=xsOf l) q6
  have d : a.take w = Qu (xsOf l):=by
    refine qkv (l:=xsOf l) ⟨c4.1,fun x=>?_⟩ q;rw [c4.2 x];exact m.mem_iff
  simp only [u,qh,n,p,Qz,j,if_true,c1,c2,q2s];rw [qp q6];simp only [qh,List.drop_zero,d]
theorem qpk (l : List qq) (g : l.length≤400) (x : Int) : loop (q3q l x) (0,[]) = some (covS l x):=by
  have:=Jk l q6 (fun r=>if covR x r = true then [ysp r] else []) [] (fun o=>o) (q3q l x) (fun k a o d=>by
    have f : o.length≤k:=by rw [d,List.nil_append];have:=q1s (l.take k) x;rw [List.length_take,Nat.min_eq_left q6] at this;exact this
    simp only [q3q,dlt a,qy,Qx a,qh,w64s a q6];by_cases b : l[k].X0≤x
    · by_cases c : x < l[k].X1
      · simp only [b,c,decide_true,qy,qh,covR,Bool.and_self,if_true];rw [Y8 (by simp;omega)];rfl
      · simp only [b,c,decide_true,decide_false,qy,Q0,qh,covR,Bool.and_false,if_false,Bool.false_eq_true,List.append_nil]
    · simp only [b,decide_false,Q0,qh,covR,Bool.false_and,if_false,Bool.false_eq_true,List.append_nil]) (fun o=>by simp only [q3q,dnl,Q0])
  rw [List.nil_append] at this;exact this
theorem qpm (l : List qq) (s : l.length≤400) (y : ∀ r∈l,vR r) : q82 l = some (if 400 < (mrgR 2 l []).length then ([],4) else (mrgR 2 l [],0)):=by
  unfold q82;rw [qpl l s];simp only [qh];have c : Qu (xsOf l ++ xsOf []) = Qu (xsOf l):=by simp [xsOf]
  obtain ⟨_,o,a⟩:=qa4 (p:=l) (q:=[]) (by simp;omega);have g:=fun i=>qih 2 (p:=l) (q:=[]) (by simp;omega) i;rw [c] at o a;have a : (Qu (xsOf l)).length≤2 * l.length:=by simpa using a
  have d : loop (q2g (Qu (xsOf l)) l) (1,[],0,0,[]) = some ((mrg 2 l []).sec,((mrg 2 l []).done.length : Int),(mrg 2 l []).hi,mrgR 2 l []):=by
    unfold mrgR mrg;rw [c] at g ⊢;generalize h : Yl (Qu (xsOf l)) (secJ 2 l []) = steps at g ⊢;have z : steps.length = (Qu (xsOf l)).length - 1:=by rw [← h];exact q9f _ _
    have j : K5 putR K4 (steps.take steps.length) = K5 putR K4 steps:=by rw [List.take_length]
    have key:=Zx (f:=q2g (Qu (xsOf l)) l) (fun k=>(((k + 1 : Nat) : Int),(K5 putR K4 (steps.take k)).sec,((K5 putR K4 (steps.take k)).done.length : Int),(K5 putR K4 (steps.take k)).hi,(K5 putR K4 (steps.take k)).flat putR))
      steps.length ((K5 putR K4 steps).sec,((K5 putR K4 steps).done.length : Int),(K5 putR K4 steps).hi,(K5 putR K4 steps).flat putR) (fun k u=>by
        have b : k + 1 < (Qu (xsOf l)).length:=by omega
        have hg : steps[k] = ((Qu (xsOf l))[k],(Qu (xsOf l))[k + 1],secJ 2 l [] (Qu (xsOf l))[k]):=by
          subst h;exact q9e u b
        have i1 : idx (Qu (xsOf l)) (w64 (((k + 1 : Nat) : Int) - 1)) = some (Qu (xsOf l))[k]:=by rw [Q8 q6];exact q17 q6 q6
        have x:=q1s l (Qu (xsOf l))[k]
        have n : q6l (covS l (Qu (xsOf l))[k]) = some (secJ 2 l [] (Qu (xsOf l))[k],0):=by
          rw [qpn];unfold qdb;rw [qr q6,qp (qnl y _)];rfl
        have m:=qec 2 (p:=l) (q:=[]) (by simp;omega) (Qu (xsOf l))[k];have t:=g k;have hb:=qm1 (K5 putR K4 (steps.take k)) (Qu (xsOf l))[k] (Qu (xsOf l))[k + 1] (secJ 2 l [] (Qu (xsOf l))[k]) (by simp at m;omega);rw [q4h putR u,hg];simp only [q2g,dlt b,qy,i1,Qx b,qh,show idx [l] 0 = some l from rfl,qpk l s,n,hb]
        rw [w64s b q6]) (by
        rw [j];by_cases h0 : (Qu (xsOf l)).length = 0
        · have : decide (((steps.length + 1 : Nat) : Int) < ((Qu (xsOf l)).length : Int)) = false:=Q6 q6;simp only [q2g,this,Q0]
        · have : decide (((steps.length + 1 : Nat) : Int) < ((Qu (xsOf l)).length : Int)) = false:=Q6 q6
          simp only [q2g,this,Q0]) (Nat.zero_le _)
    exact key
  rw [d];simp only [qh];by_cases v : 400 < (mrgR 2 l []).length
  · rw [Qb (by omega : ((mrgR 2 l []).length : Int) > 400),qp v];rfl
  · rw [Q6 (by omega : ¬ ((mrgR 2 l []).length : Int) > 400),qr v];rfl
end Go.Sh
namespace Go.Sh
open Go Go.Am
theorem qry {p q : List qq} (h : p.length + q.length≤490) : q7o p q = some (Qu (xsOf p ++ xsOf q)):=by
  have d : loop (q3i p) (0,[]) = some (xsOf p):=by
    have:=Jk p q6 (fun r=>[r.X0,r.X1]) [] (fun o=>o) (q3i p) (fun k a o b=>by
      have c : o.length = 2 * k:=by rw [b,List.nil_append];have:=q1p (p.take k);rw [List.length_take,Nat.min_eq_left q6] at this;exact this
      simp only [q3i,dlt a,qy,Qx a,qh,w64s a q6];rw [Y8 (by simp;omega)]
      rfl) (fun o=>by simp only [q3i,dnl,Q0])
    rw [List.nil_append] at this;exact this
  have f : loop (q3j q) (0,xsOf p) = some (xsOf p ++ xsOf q):=by
    have hp:=q1p p
    exact Jk q q6 (fun r=>[r.X0,r.X1]) (xsOf p) (fun o=>o) (q3j q) (fun k a o b=>by
      have c : o.length = 2 * p.length + 2 * k:=by
        rw [b,List.length_append,hp];have:=q1p (q.take k);rw [List.length_take,Nat.min_eq_left q6] at this;unfold xsOf at this;omega
      simp only [q3j,dlt a,qy,Qx a,qh,w64s a q6];rw [Y8 (by simp;omega)]
      rfl) (fun o=>by simp only [q3j,dnl,Q0])
  unfold q7o;simp only [d,f,qh,(qa4 h).1]
theorem qs0 {p q : List qq} (h : p.length + q.length≤490) : q7p p q = some (Qu (ysOf p ++ ysOf q)):=by
  have d : loop (q3k p) (0,[]) = some (ysOf p):=by
    have:=Jk p q6 (fun r=>[r.Y0,r.Y1]) [] (fun o=>o) (q3k p) (fun k a o b=>by
      have c : o.length = 2 * k:=by rw [b,List.nil_append];have:=q9o (p.take k);rw [List.length_take,Nat.min_eq_left q6] at this;exact this
      simp only [q3k,dlt a,qy,Qx a,qh,w64s a q6];rw [Y8 (by simp;omega)]
      rfl) (fun o=>by simp only [q3k,dnl,Q0])
    rw [List.nil_append] at this;exact this
  have f : loop (q3l q) (0,ysOf p) = some (ysOf p ++ ysOf q):=by
    have hp:=q9o p
    exact Jk q q6 (fun r=>[r.Y0,r.Y1]) (ysOf p) (fun o=>o) (q3l q) (fun k a o b=>by
      have c : o.length = 2 * p.length + 2 * k:=by
        rw [b,List.length_append,hp];have:=q9o (q.take k);rw [List.length_take,Nat.min_eq_left q6] at this;unfold ysOf at this;omega
      simp only [q3l,dlt a,qy,Qx a,qh,w64s a q6];rw [Y8 (by simp;omega)]
      rfl) (fun o=>by simp only [q3l,dnl,Q0])
  unfold q7p;simp only [d,f,qh,(qch h).1]
open Classical in
theorem qjk (l : List qq) (x y : Int) (j : l.length≤1000000) : q4u l x y = some (decide (hasR l x y)):=by
  let c : qq→Bool:=fun r=>decide (r.X0≤x) && (decide (x < r.X1) && (decide (r.Y0≤y) && decide (y < r.Y1)))
  have hs : ∀ (k : Nat) (h : k < l.length),q28 l x y (k : Int) = some (if c l[k] = true then .inr (.inr true) else .inl ((k + 1 : Nat) : Int)):=by
    intro k h;simp only [q28,dlt h,qy,Qx h,qh,w64s h j,c];by_cases d : l[k].X0≤x <;> by_cases a : x < l[k].X1 <;> by_cases f : l[k].Y0≤y <;> by_cases o : y < l[k].Y1 <;> simp [d,a,f,o]
  have hd : q28 l x y (l.length : Int) = some (.inr (.inl ())):=by simp only [q28,dnl,Q0]
  unfold q4u;rcases Uu l c (fun _ _=>true) () (q28 l x y) hs hd with ⟨d,a⟩ | ⟨k,p,b,_,a⟩
  · rw [a]
    have : ¬ hasR l x y:=by
      rintro ⟨r,g,n,m,s,q⟩;have:=d r g;simp [c,n,m,s,q] at this
    simp [this]
  · rw [a]
    have : hasR l x y:=by
      simp only [c,Bool.and_eq_true,decide_eq_true_eq] at b;exact ⟨l[k],Y6 p,b.1,b.2.1,b.2.2.1,b.2.2.2⟩
    simp [this]
theorem qd2 {kind : Int} {a b : Prop} (h : Yd kind a b) : a∨b:=by
  rcases h with ⟨_,h,_⟩ | ⟨_,h⟩ | ⟨_,_,h,_⟩
  · exact .inl h
  · exact h
  · exact .inl h
theorem qhh {kind : Int} {a b a' c : Prop} (d : a↔a') (f : b↔c) : Yd kind a b↔Yd kind a' c:=by
  unfold Yd;rw [d,f]
open Classical in
theorem qme (kind : Int) {p q : List qq} (h : p.length + q.length≤490) (x : Int) :
    q3c (Qu (ysOf p ++ ysOf q)) ((Qu (ysOf p ++ ysOf q)).map fun y=>decide (Yd kind (hasR p x y) (hasR q x y))) = some (secJ kind p q x):=by
  obtain ⟨_,a,g⟩:=qch h;generalize Qu (ysOf p ++ ysOf q) = ys at a g ⊢;obtain ⟨c,n,l⟩:=qfe ys (ys.map fun y=>decide (Yd kind (hasR p x y) (hasR q x y))) a.1 q6 qd;rw [n];have s:=q1s p x;have r:=q1s q x;have k:=(q7d kind (covS p x) (covS q x) q6 q6).2;have mp : ∀ z∈ends (covS p x),z∈ys:=fun z j=>(a.2 z).2 (List.mem_append.2 (.inl (qg6 j)));have mq : ∀ z∈ends (covS q x),z∈ys:=fun z j=>(a.2 z).2 (List.mem_append.2 (.inr (qg6 j)));congr 1;refine q70 l.can k.can fun z=>?_;unfold secJ;rw [l.pts z,k.pts z];constructor
  · rintro ⟨i,hi,o,_,f,b,d⟩;simp only [List.getElem_map,decide_eq_true_eq] at f;refine (qhh ?_ ?_).2 f
    · rw [q2j a.1 mp hi b d,Ua]
    · rw [q2j a.1 mq hi b d,Ua]
  · intro m
    have : ∃ i,∃ (h : i + 1 < ys.length),ys[i]≤z∧z < ys[i + 1]:=by
      rcases qd2 m with h | h
      · exact qae a.1 mp h
      · exact qae a.1 mq h
    obtain ⟨i,hi,b,d⟩:=this;refine ⟨i,hi,by simp;omega,q6,?_,b,d⟩;simp only [List.getElem_map,decide_eq_true_eq];refine (qhh ?_ ?_).1 m
    · rw [q2j a.1 mp hi b d,Ua]
    · rw [q2j a.1 mq hi b d,Ua]
open Classical in
theorem qp7 (kind : Int) {p q : List qq} (h : p.length + q.length≤490) (ys xs : List Int) (c : ys.length≤1000000) (i : Nat) (hi : i < xs.length) (a : List qo × Int × Int × List qq) (d : a.2.2.1 = i) :
    loop (q3g ys xs a p q kind) (0,[]) = some (ys.map fun y=>decide (Yd kind (hasR p xs[i] y) (hasR q xs[i] y))):=by
  have:=q7f ys (fun y=>decide (Yd kind (hasR p xs[i] y) (hasR q xs[i] y))) [] (fun o=>o) (q3g ys xs a p q kind) (fun k b o f=>by
    simp only [q3g,dlt b,qy,d,Qx b,Qx hi,qh,qjk p _ _ q6,qjk q _ _ q6,qhi,w64s b c];rw [Y8 (by simp at f ⊢;omega)]
    rfl) (fun o=>by simp only [q3g,dnl,Q0])
  rw [List.nil_append] at this;exact this
theorem qp8 (kind : Int) {p q : List qq} (h : p.length + q.length≤490) {xs : List Int} (hx : xs.length≤1000000) {i : Nat} (hi : i + 1 < xs.length) (s : Mg qo qq) (hl : (s.flat putR).length + (secJ kind p q xs[i]).length≤1000000)
    (h0 : i = 0→s.sec = []) (h1 : 0 < i→s.hi = xs[i]) :
    q29 xs (Qu (ysOf p ++ ysOf q)) p q kind (s.sec,(s.done.length : Int),(i : Int),s.flat putR) =
      some (.inl ((addM putR s xs[i] xs[i + 1] (secJ kind p q xs[i])).sec,((addM putR s xs[i] xs[i + 1] (secJ kind p q xs[i])).done.length : Int),((i + 1 : Nat) : Int),(addM putR s xs[i] xs[i + 1] (secJ kind p q xs[i])).flat putR)):=by
  have l : i < xs.length:=by omega
  have u : w64 ((i : Int) + 1) = ((i + 1 : Nat) : Int):=w64s l hx;have hy:=(qch h).2.2;have ai : (s.flat putR).length = s.done.length + s.sec.length:=by simp [Mg.flat]
  have r:=qp7 kind h (Qu (ysOf p ++ ysOf q)) xs q6 i l (s.sec,(s.done.length : Int),(i : Int),s.flat putR) rfl;unfold q29;simp only [u,dlt hi,qy,r,qh,qme kind h];generalize hc : secJ kind p q xs[i] = c at hl ⊢;by_cases a : 0 < i∧c = s.sec
  · obtain ⟨b,f⟩:=a;have hb : decide ((i : Int) > 0) = true:=Qb q6
    have d:=qa7 (fun v : qq=>({X0:=v.X0,Y0:=v.Y0,X1:=xs[i + 1],Y1:=v.Y1} : qq)) s.done (s.sec.map (putR s.lo s.hi)) (by simp;omega) (q3h xs (s.sec,(s.done.length : Int),(i : Int),s.flat putR)) (fun k o g ho=>by
      have h5 : (s.done ++ s.sec.map (putR s.lo s.hi)).length = (s.flat putR).length:=rfl
      simp only [q3h,dlt g,qy,Qx g,Qx hi,u,qh,w64s g q6,Int.toNat_natCast]) (fun o=>by simp only [q3h,dnl,Q0])
    have z : q4t c s.sec = some true:=by rw [qk6 _ _ q6];simp [f]
    have d : loop (q3h xs (s.sec,(s.done.length : Int),(i : Int),s.flat putR)) ((s.done.length : Int),s.flat putR) = _:=d;simp only [hb,qy,z,qh,d];rcases Up putR s xs[i] xs[i + 1] c with ⟨_,_,_,j⟩ | ⟨h3,j⟩
    · rw [j];simp only [Mg.flat,List.map_map];rfl
    · have m : c = []:=Classical.byContradiction fun hn=>h3 ⟨hn,f,h1 b⟩;rw [j];simp [Mg.flat,← f,m]
  · have n : (cond (decide ((i : Int) > 0)) ((q4t c s.sec).bind fun t=>some t) (some false)) = some false:=by
      by_cases b : 0 < i
      · have hb : decide ((i : Int) > 0) = true:=Qb q6;have y : c≠s.sec:=fun h=>a ⟨b,h⟩;rw [hb,qy,qk6 _ _ q6];simp [y]
      · have hb : decide ((i : Int) > 0) = false:=Q6 q6;rw [hb,Q0]
    have x:=q7f c (putR xs[i] xs[i + 1]) (s.flat putR) (fun o=>(c,((s.flat putR).length : Int),o)) (q4v c xs (s.sec,(s.done.length : Int),(i : Int),s.flat putR)) (fun k g o ho=>by
      simp only [q4v,dlt g,qy,Qx g,Qx l,Qx hi,u,qh,w64s g q6];rw [Y8 (by simp;omega)]
      rfl) (fun o=>by simp only [q4v,dnl,Q0])
    have j : addM putR s xs[i] xs[i + 1] c = ⟨s.flat putR,c,xs[i],xs[i + 1]⟩:=by
      rcases Up putR s xs[i] xs[i + 1] c with ⟨g1,g2,_,_⟩ | ⟨_,j⟩
      · refine absurd ?_ a;refine ⟨Nat.pos_of_ne_zero fun h=>g1 ?_,g2⟩;rw [g2,h0 h]
      · exact j
    rw [j];simp only [n,qh,Q0,x];simp [Mg.flat]
theorem q4w (kind : Int) {p q : List qq} (h : p.length + q.length≤490) : Zz kind p q = some (mrgR kind p q):=by
  unfold Zz;rw [qry h,qs0 h];simp only [qh];obtain ⟨_,g,d⟩:=qa4 h;have b:=fun i=>qih kind h i;unfold mrgR mrg;generalize Qu (xsOf p ++ xsOf q) = xs at g d b ⊢;generalize a : Yl xs (secJ kind p q) = steps at b ⊢;have o : steps.length = xs.length - 1:=by rw [← a];exact q9f _ _
  have key:=Zx (f:=q29 xs (Qu (ysOf p ++ ysOf q)) p q kind) (fun k=>((K5 putR K4 (steps.take k)).sec,((K5 putR K4 (steps.take k)).done.length : Int),(k : Int),(K5 putR K4 (steps.take k)).flat putR))
    steps.length ((K5 putR K4 steps).flat putR) (fun k l=>by
      have c : k + 1 < xs.length:=by omega
      have t : steps[k] = (xs[k],xs[k + 1],secJ kind p q xs[k]):=by subst a;exact q9e l c
      have r:=qec kind (p:=p) (q:=q) q6 xs[k];have j:=b k
      have:=qp8 kind h (xs:=xs) q6 c (K5 putR K4 (steps.take k)) q6 (fun s=>by subst s;rfl) (fun n=>by
        obtain ⟨m,rfl⟩ : ∃ m,k = m + 1:=⟨k - 1,q6⟩
        rw [q4h putR q6,qev];subst a
        rw [q9e q6 q6])
      rw [this,q4h putR l,t]) (by
      rw [List.take_length]
      have hb : decide (w64 ((steps.length : Int) + 1) < (xs.length : Int)) = false:=by
        rw [Q8 q6];exact Q6 q6
      unfold q29
      simp only [hb,Q0]) (Nat.zero_le _)
  have key : loop (q29 xs (Qu (ysOf p ++ ysOf q)) p q kind) ([],0,0,[]) = some ((K5 putR K4 steps).flat putR):=key;rw [key];rfl
end Go.Sh
namespace Go.Sh
open Go Go.Am
def putB (a b : Int) (r : qq) : qj:={Lo:={X:=r.X0,Y:=r.Y0,Z:=a},Hi:={X:=r.X1,Y:=r.Y1,Z:=b}}
def qgi (z : Int) : Prop:=-1000000≤z∧z≤1000000
instance (z : Int) : Decidable (qgi z):=by unfold qgi;infer_instance
end Go.Sh
namespace Go.Sh
open Go Go.Am
def covB (z : Int) (b : qj) : Bool:=decide (b.Lo.Z≤z) && decide (z < b.Hi.Z)
def Ug (b : qj) : qq:={X0:=b.Lo.X,Y0:=b.Lo.Y,X1:=b.Hi.X,Y1:=b.Hi.Y}
def atB (l : List qj) (z : Int) : List qq:=l.flatMap fun b=>if covB z b = true then [Ug b] else []
theorem Jx (l : List qj) (x : Int) : (atB l x).length≤l.length:=by
  unfold atB
  induction l with
  | nil=>simp
  | cons r l ih=>
    simp only [List.flatMap_cons,List.length_append,List.length_cons];have : (if covB x r = true then [Ug r] else []).length≤1:=by split <;> simp
    omega
theorem qb0 (l : List qj) (d : l.length≤1000000) (z : Int) : Ji l z = some (atB l z):=by
  have:=Jk l d (fun b=>if covB z b = true then [Ug b] else []) [] (fun o=>o) (q4z l z) (fun k a o g=>by
    have h : o.length≤k:=by rw [g,List.nil_append];have:=Jx (l.take k) z;rw [List.length_take,Nat.min_eq_left q6] at this;exact this
    simp only [q4z,dlt a,qy,Qx a,qh,w64s a d];by_cases c : l[k].Lo.Z≤z
    · by_cases f : z < l[k].Hi.Z
      · simp only [c,f,decide_true,qy,qh,covB,Bool.and_self,if_true];rw [Y8 (by simp;omega)];rfl
      · simp only [c,f,decide_true,decide_false,qy,Q0,qh,covB,Bool.and_false,if_false,Bool.false_eq_true,List.append_nil]
    · simp only [c,decide_false,Q0,qh,covB,Bool.false_and,if_false,Bool.false_eq_true,List.append_nil]) (fun o=>by simp only [q4z,dnl,Q0])
  rw [List.nil_append] at this;unfold Ji;rw [this];rfl
def zsOf (l : List qj) : List Int:=l.flatMap fun b=>[b.Lo.Z,b.Hi.Z]
theorem J4 (l : List qj) : (zsOf l).length = 2 * l.length:=by
  unfold zsOf;induction l with
  | nil=>rfl
  | cons r l ih=>simp only [List.flatMap_cons,List.length_append,List.length_cons,List.length_nil];omega
theorem qs4 {p q : List qj} (h : p.length + q.length≤100000) : q7q p q = some (Qu (zsOf p ++ zsOf q)):=by
  have d : loop (q3m p) (0,[]) = some (zsOf p):=by
    have:=Jk p q6 (fun r=>[r.Lo.Z,r.Hi.Z]) [] (fun o=>o) (q3m p) (fun k a o b=>by
      have c : o.length = 2 * k:=by rw [b,List.nil_append];have:=J4 (p.take k);rw [List.length_take,Nat.min_eq_left q6] at this;exact this
      simp only [q3m,dlt a,qy,Qx a,qh,w64s a q6];rw [Y8 (by simp;omega)]
      rfl) (fun o=>by simp only [q3m,dnl,Q0])
    rw [List.nil_append] at this;exact this
  have f : loop (q3n q) (0,zsOf p) = some (zsOf p ++ zsOf q):=by
    have hp:=J4 p
    exact Jk q q6 (fun r=>[r.Lo.Z,r.Hi.Z]) (zsOf p) (fun o=>o) (q3n q) (fun k a o b=>by
      have c : o.length = 2 * p.length + 2 * k:=by
        rw [b,List.length_append,hp];have:=J4 (q.take k);rw [List.length_take,Nat.min_eq_left q6] at this;unfold zsOf at this;omega
      simp only [q3n,dlt a,qy,Qx a,qh,w64s a q6];rw [Y8 (by simp;omega)]
      rfl) (fun o=>by simp only [q3n,dnl,Q0])
  have j:=J4 p;have g:=J4 q;unfold q7q;simp only [d,f,qh,(Jz (l:=zsOf p ++ zsOf q) (by simp;omega)).1]
structure qeu (kind : Int) (p q : List qj) (z : Int) : Prop where
  n : (atB p z).length + (atB q z).length≤490
  m : (mrgR kind (atB p z) (atB q z)).length≤400
  mp : (mrgR 2 (atB p z) []).length≤400
  mq : (mrgR 2 (atB q z) []).length≤400
noncomputable def secB (kind : Int) (p q : List qj) (z : Int) : List qq:=mrgR kind (atB p z) (atB q z)
theorem qp6 (kind : Int) {p q : List qj} (h : p.length + q.length≤100000) {xs : List Int} (hx : xs.length≤1000000) {i : Nat} (hi : i + 1 < xs.length) (z : qeu kind p q xs[i]) (s : Mg qq qj) (hl : (s.flat putB).length + 400≤1000000)
    (h0 : i = 0→s.sec = []) (h1 : 0 < i→s.hi = xs[i]) :
    q1e xs p q kind (s.sec,(s.done.length : Int),(i : Int),s.flat putB) =
      some (.inl ((addM putB s xs[i] xs[i + 1] (secB kind p q xs[i])).sec,((addM putB s xs[i] xs[i + 1] (secB kind p q xs[i])).done.length : Int),((i + 1 : Nat) : Int),(addM putB s xs[i] xs[i + 1] (secB kind p q xs[i])).flat putB)):=by
  have l : i < xs.length:=by omega
  have y : w64 ((i : Int) + 1) = ((i + 1 : Nat) : Int):=w64s l hx;have av : (s.flat putB).length = s.done.length + s.sec.length:=by simp [Mg.flat]
  obtain ⟨u,x,ai,ah⟩:=z;have ap : Ji p xs[i] = some (atB p xs[i]):=qb0 p q6 _;have aq : Ji q xs[i] = some (atB q xs[i]):=qb0 q q6 _;have jj : Zz kind (atB p xs[i]) (atB q xs[i]) = some (secB kind p q xs[i]):=q4w kind u;have jp : Zz 2 (atB p xs[i]) [] = some (mrgR 2 (atB p xs[i]) []):=q4w 2 (by simp;omega);have jq : Zz 2 (atB q xs[i]) [] = some (mrgR 2 (atB q xs[i]) []):=q4w 2 (by simp;omega);have x : (secB kind p q xs[i]).length≤400:=x;have d1 : decide (((secB kind p q xs[i]).length : Int) > 400) = false:=Q6 q6;have d2 : decide (((mrgR 2 (atB p xs[i]) []).length : Int) > 400) = false:=Q6 q6;have d3 : decide (((mrgR 2 (atB q xs[i]) []).length : Int) > 400) = false:=Q6 q6;unfold q1e;simp only [y,dlt hi,qy,Qx l,ap,aq,jj,jp,jq,d1,d2,d3,Q0,qh];generalize hc : secB kind p q xs[i] = c at x ⊢;by_cases a : 0 < i∧c = s.sec
  · obtain ⟨b,f⟩:=a;have hb : decide ((i : Int) > 0) = true:=Qb q6
    have d:=qa7 (fun v : qj=>({Lo:=v.Lo,Hi:=({X:=v.Hi.X,Y:=v.Hi.Y,Z:=xs[i + 1]} : Q4)} : qj)) s.done (s.sec.map (putB s.lo s.hi)) (by simp;omega) (q3p xs (s.sec,(s.done.length : Int),(i : Int),s.flat putB)) (fun k o g ho=>by
      have h5 : (s.done ++ s.sec.map (putB s.lo s.hi)).length = (s.flat putB).length:=rfl
      simp only [q3p,dlt g,qy,Qx g,Qx hi,y,qh,w64s g q6,Int.toNat_natCast]) (fun o=>by simp only [q3p,dnl,Q0])
    have ab : q4x c s.sec = some true:=by rw [qk5 _ _ q6];simp [f]
    have d : loop (q3p xs (s.sec,(s.done.length : Int),(i : Int),s.flat putB)) ((s.done.length : Int),s.flat putB) = _:=d;simp only [hb,qy,ab,qh,d];rcases Up putB s xs[i] xs[i + 1] c with ⟨_,_,_,j⟩ | ⟨h3,j⟩
    · rw [j];simp only [Mg.flat,List.map_map];rfl
    · have m : c = []:=Classical.byContradiction fun u=>h3 ⟨u,f,h1 b⟩;rw [j];simp [Mg.flat,← f,m]
  · have n : (cond (decide ((i : Int) > 0)) ((q4x c s.sec).bind fun r=>some r) (some false)) = some false:=by
      by_cases b : 0 < i
      · have hb : decide ((i : Int) > 0) = true:=Qb q6;have t : c≠s.sec:=fun h=>a ⟨b,h⟩;rw [hb,qy,qk5 _ _ q6];simp [t]
      · have hb : decide ((i : Int) > 0) = false:=Q6 q6;rw [hb,Q0]
    have aa:=q7f c (putB xs[i] xs[i + 1]) (s.flat putB) (fun o=>(c,((s.flat putB).length : Int),o)) (q52 c xs (s.sec,(s.done.length : Int),(i : Int),s.flat putB)) (fun k g o ho=>by
      simp only [q52,dlt g,qy,Qx g,Qx l,Qx hi,y,qh,w64s g q6];rw [Y8 (by simp;omega)]
      rfl) (fun o=>by simp only [q52,dnl,Q0])
    have j : addM putB s xs[i] xs[i + 1] c = ⟨s.flat putB,c,xs[i],xs[i + 1]⟩:=by
      rcases Up putB s xs[i] xs[i + 1] c with ⟨g1,g2,_,_⟩ | ⟨_,j⟩
      · refine absurd ?_ a;refine ⟨Nat.pos_of_ne_zero fun h=>g1 ?_,g2⟩;rw [g2,h0 h]
      · exact j
    rw [j];simp only [n,qh,Q0,aa];simp [Mg.flat]
noncomputable def mrgB (kind : Int) (p q : List qj) : List qj:=(K5 putB K4 (Yl (Qu (zsOf p ++ zsOf q)) (secB kind p q))).flat putB
section
variable {σ β : Type} (put : Int→Int→σ→β)
def Alike (s t : Mg σ β) : Prop:=s = t∨(s.flat put = t.flat put∧s.sec = []∧t.sec = [])
theorem Alike.flat {s t : Mg σ β} (h : Alike put s t) : s.flat put = t.flat put:=by
  rcases h with rfl | h
  · rfl
  · exact h.1
end
section
variable {σ β : Type} [DecidableEq σ] (put : Int→Int→σ→β)
def runM (sec : Int→List σ) : Mg σ β→List Int→Mg σ β
  | s,a::b::r=>runM sec (addM put s a b (sec a)) (b::r)
  | s,_=>s
theorem qgo (sec : Int→List σ) : ∀ (c : List Int) (s : Mg σ β),K5 put s (Yl c sec) = runM put sec s c
  | [],s=>rfl
  | [a],s=>rfl
  | a::b::r,s=>by
    have:=qgo sec (b::r) (addM put s a b (sec a))
    simp only [runM,← this]
    rfl
theorem Alike.add {s t : Mg σ β} (h : Alike put s t) (a b : Int) (c : List σ) : Alike put (addM put s a b c) (addM put t a b c):=by
  rcases h with rfl | ⟨o,n,d⟩
  · exact .inl rfl
  · refine .inl ?_;rcases Up put s a b c with ⟨g,k,_,_⟩ | ⟨_,j⟩
    · exact absurd (k.trans n) g
    · rcases Up put t a b c with ⟨f,m,_,_⟩ | ⟨_,l⟩
      · exact absurd (m.trans d) f
      · rw [j,l,o]
end
end Go.Sh
namespace Go.Sh
open Go Go.Am
structure Grp (σ : Type) where
  lo : Int
  hi : Int
  sec : List σ
section
variable {σ β : Type}
def CanG (gs : List (Grp σ)) : Prop:=(∀ g∈gs,g.lo < g.hi∧g.sec≠[])∧gs.Pairwise (fun g h=>g.hi≤h.lo∧(g.hi = h.lo→g.sec≠h.sec))
def secG : List (Grp σ)→Int→List σ
  | [],_=>[]
  | g::r,x=>if g.lo≤x∧x < g.hi then g.sec else secG r x
def Y4 (put : Int→Int→σ→β) (gs : List (Grp σ)) : List β:=gs.flatMap fun g=>g.sec.map (put g.lo g.hi)
theorem qo7 (put : Int→Int→σ→β) (a b : List (Grp σ)) : Y4 put (a ++ b) = Y4 put a ++ Y4 put b:=by simp [Y4]
theorem q2i {y x : Int} : ∀ {r : List (Grp σ)},(∀ h∈r,y≤h.lo)→x < y→secG r x = []
  | [],_,_=>rfl
  | g::r,h,hx=>by
    have:=h g qd
    rw [secG,qr q6]
    exact q2i (fun k a=>h k (by simp [a])) hx
theorem q5l {y x : Int} : ∀ {r : List (Grp σ)},(∀ h∈r,h.hi≤y)→y≤x→secG r x = []
  | [],_,_=>rfl
  | g::r,h,hx=>by
    have:=h g qd
    rw [secG,qr q6]
    exact q5l (fun k a=>h k (by simp [a])) hx
theorem q85 {x : Int} : ∀ {a b : List (Grp σ)},secG a x = []→(∀ g∈a,g.sec≠[])→secG (a ++ b) x = secG b x
  | [],_,_,_=>rfl
  | g::a,b,h,hne=>by
    rw [secG] at h
    split at h
    · exact absurd h (hne g qd)
    · rename_i d
      rw [List.cons_append,secG,qr d]
      exact q85 h fun k c=>hne k (by simp [c])
theorem qe9 {y x : Int} {a b : List (Grp σ)} (hb : ∀ h∈b,y≤h.lo) (c : x < y) : secG (a ++ b) x = secG a x:=by
  induction a with
  | nil=>exact q2i hb c
  | cons g a ih=>simp only [List.cons_append,secG,ih]
theorem CanG.tail {g : Grp σ} {r : List (Grp σ)} (h : CanG (g::r)) : CanG r:=⟨fun k a=>h.1 k (by simp [a]),(List.pairwise_cons.1 h.2).2⟩
theorem CanG.nxt {g : Grp σ} {r : List (Grp σ)} (h : CanG (g::r)) : ∀ k∈r,g.hi≤k.lo∧(g.hi = k.lo→g.sec≠k.sec):=(List.pairwise_cons.1 h.2).1
theorem q2h {g : Grp σ} {r : List (Grp σ)} {x : Int} (b : g.lo≤x) (a : x < g.hi) : secG (g::r) x = g.sec:=by rw [secG,qp ⟨b,a⟩]
theorem qul {g : Grp σ} {r : List (Grp σ)} (h : CanG (g::r)) : secG (g::r) g.hi≠g.sec:=by
  rw [secG,qr q6]
  cases r with
  | nil=>exact fun e=>(h.1 g qd).2 e.symm
  | cons k r=>
    have a:=h.nxt k qd;have b:=h.tail.1 k qd;by_cases d : g.hi = k.lo
    · rw [q2h q6 q6];exact fun e=>a.2 d e.symm
    · rw [secG,qr q6,q2i (y:=k.hi) (fun m c=>(h.tail.nxt m c).1) q6];exact fun e=>(h.1 g qd).2 e.symm
theorem qca : ∀ {a b : List (Grp σ)},CanG a→CanG b→(∀ x,secG a x = secG b x)→a = b
  | [],[],_,_,_=>rfl
  | [],g::r,_,hb,h=>by
    have:=h g.lo
    rw [q2h (Int.le_refl _) (hb.1 g qd).1] at this
    exact absurd this.symm (hb.1 g qd).2
  | g::r,[],c,_,h=>by
    have:=h g.lo
    rw [q2h (Int.le_refl _) (c.1 g qd).1] at this
    exact absurd this (c.1 g qd).2
  | g::r,k::s,c,hb,h=>by
    have q:=c.1 g qd
    have t:=hb.1 k qd
    have low : ∀ {g k : Grp σ} {r s : List (Grp σ)},CanG (g::r)→CanG (k::s)→(∀ x,secG (g::r) x = secG (k::s) x)→k.lo≤g.lo:=by
      intro g k r s c hb h;refine Int.not_lt.1 fun f=>?_;have d:=h g.lo;rw [q2h (Int.le_refl _) (c.1 g qd).1,q2i (y:=k.lo) (fun m j=>?_) f] at d
      · exact (c.1 g qd).2 d
      · rcases List.mem_cons.1 j with rfl | j
        · exact Int.le_refl _
        · have:=(hb.nxt m j).1;have:=(hb.1 k qd).1;omega
    have n : g.lo = k.lo:=Int.le_antisymm (low hb c fun x=>(h x).symm) (low c hb h)
    have l : g.sec = k.sec:=by
      have d:=h g.lo
      rwa [q2h (Int.le_refl _) q.1,q2h q6 q6] at d
    have hi : ∀ {g k : Grp σ} {r s : List (Grp σ)},CanG (g::r)→CanG (k::s)→(∀ x,secG (g::r) x = secG (k::s) x)→g.lo = k.lo→g.sec = k.sec→k.hi≤g.hi:=by
      intro g k r s c hb h n l;refine Int.not_lt.1 fun f=>?_;have d:=h g.hi;have:=(c.1 g qd).1;rw [q2h (g:=k) q6 f,← l] at d;exact qul c d
    have p : g.hi = k.hi:=Int.le_antisymm (hi hb c (fun x=>(h x).symm) n.symm l.symm) (hi c hb h n l)
    have e : g = k:=by cases g;cases k;simp at n l p;simp [n,l,p]
    subst e
    have : r = s:=qca c.tail hb.tail fun x=>by
      by_cases o : x < g.hi
      · rw [q2i (y:=g.hi) (fun m j=>(c.nxt m j).1) o,q2i (y:=g.hi) (fun m j=>(hb.nxt m j).1) o]
      · have d:=h x
        rwa [secG,secG,qr q6,qr q6] at d
    rw [this]
def curG (s : Mg σ β) : List (Grp σ):=if s.sec = [] then [] else [⟨s.lo,s.hi,s.sec⟩]
def secC (sec : Int→List σ) : List Int→Int→List σ
  | a::b::r,x=>if a≤x∧x < b then sec a else secC sec (b::r) x
  | _,_=>[]
theorem qgm (put : Int→Int→σ→β) (s : Mg σ β) (a : List (Grp σ)) (h : s.done = Y4 put a) : s.flat put = Y4 put (a ++ curG s):=by
  rw [qo7,Mg.flat,h];unfold curG;split
  · rename_i b;simp [b,Y4]
  · simp [Y4]
theorem qan {s : Mg σ β} {g : Grp σ} (h : g∈curG s) : s.sec≠[]∧g = ⟨s.lo,s.hi,s.sec⟩:=by
  unfold curG at h;split at h
  · cases h
  · rename_i a;exact ⟨a,by simpa using h⟩
theorem qbc (sec : Int→List σ) {x : Int} : ∀ {d : List Int},d.Pairwise (· < ·)→
    (∀ a∈d,a≤x→(∀ c∈d,c≤a∨x < c)→sec a = sec x)→((∀ c∈d,x < c)→sec x = [])→((∀ c∈d,c≤x)→sec x = [])→secC sec d x = sec x
  | [],_,_,h2,_=>(h2 qd).symm
  | [a],_,_,h2,h3=>by
    rw [secC]
    · by_cases k : x < a
      · exact (h2 (by simpa using k)).symm
      · exact (h3 (by simpa using k)).symm
    · intro a b r h;simp at h
  | a::b::r,hp,h1,h2,h3=>by
    have o : a < b:=(List.pairwise_cons.1 hp).1 b qd
    have m:=(List.pairwise_cons.1 (List.pairwise_cons.1 hp).2).1
    rw [secC]
    split
    · rename_i k
      refine h1 a qd k.1 fun c g=>?_
      rcases List.mem_cons.1 g with rfl | g
      · exact .inl (Int.le_refl _)
      · rcases List.mem_cons.1 g with rfl | g
        · exact .inr k.2
        · have:=m c g;exact .inr q6
    · rename_i k
      by_cases n : x < a
      · have e : sec x = []:=h2 fun c g=>by
          rcases List.mem_cons.1 g with rfl | g
          · exact n
          · have:=(List.pairwise_cons.1 hp).1 c g;omega
        have:=qbc sec (x:=x) (List.pairwise_cons.1 hp).2 (fun a' j l _=>by
          exfalso;have:=(List.pairwise_cons.1 hp).1 a' j;omega) (fun _=>e) (fun _=>e)
        exact this
      · have p : b≤x:=by omega
        exact qbc sec (List.pairwise_cons.1 hp).2 (fun a' j l f=>h1 a' (by simp [j]) l fun c g=>by
          rcases List.mem_cons.1 g with rfl | g
          · have:=(List.pairwise_cons.1 hp).1 a' j;exact .inl q6
          · exact f c g) (fun f=>by have:=f b qd;omega) (fun f=>h3 fun c g=>by
          rcases List.mem_cons.1 g with rfl | g
          · omega
          · exact f c g)
variable [DecidableEq σ] (put : Int→Int→σ→β)
structure InvG (s : Mg σ β) (gs : List (Grp σ)) (c : Int) : Prop where
  done : s.done = Y4 put gs
  can : CanG (gs ++ curG s)
  le : ∀ g∈gs ++ curG s,g.hi≤c
  gap : s.sec = []→∀ g∈gs,g.hi = c→False
theorem qp2 {s : Mg σ β} {l : List (Grp σ)} {a b : Int} {c : List σ} (u : a < b) (hi : InvG put s l a) :
    ∃ q,InvG put (addM put s a b c) q b∧∀ x,secG (q ++ curG (addM put s a b c)) x = if a≤x∧x < b then c else secG (l ++ curG s) x:=by
  rcases Up put s a b c with ⟨z,h2,h3,h4⟩ | ⟨z,h4⟩
  · rw [h4];have hs : s.sec≠[]:=h2 ▸ z;have c1 : curG s = [⟨s.lo,s.hi,s.sec⟩]:=by unfold curG;rw [qr hs]
    have c2 : curG (⟨s.done,s.sec,s.lo,b⟩ : Mg σ β) = [⟨s.lo,b,s.sec⟩]:=by unfold curG;rw [qr hs]
    have f:=hi.can;rw [c1] at f;have ah : s.lo < s.hi:=(f.1 ⟨s.lo,s.hi,s.sec⟩ qd).1;refine ⟨l,⟨hi.done,?_,?_,fun h=>absurd h hs⟩,?_⟩
    · rw [c2];refine ⟨fun g d=>?_,?_⟩
      · rcases List.mem_append.1 d with d | d
        · exact f.1 g (by simp [d])
        · obtain rfl:=List.mem_singleton.1 d;exact ⟨by simp only;omega,hs⟩
      · have:=List.pairwise_append.1 f.2;refine List.pairwise_append.2 ⟨this.1,qd,fun g d k hk=>?_⟩;obtain rfl:=List.mem_singleton.1 hk;exact this.2.2 g d ⟨s.lo,s.hi,s.sec⟩ qd
    · rw [c2];intro g d;rcases List.mem_append.1 d with d | d
      · have:=hi.le g (by simp [d]);omega
      · obtain rfl:=List.mem_singleton.1 d;exact Int.le_refl _
    · intro x;rw [c1,c2];have ab : ∀ g∈l,g.hi≤s.lo:=fun g d=>((List.pairwise_append.1 f.2).2.2 g d ⟨s.lo,s.hi,s.sec⟩ qd).1;have p : ∀ g∈l,g.sec≠[]:=fun g d=>(f.1 g (by simp [d])).2;by_cases n : x < s.lo
      · rw [qr q6,qe9 (y:=s.lo) qd n,qe9 (y:=s.lo) qd n]
      · have e : secG l x = []:=q5l ab q6;rw [q85 e p,q85 e p];simp only [secG];by_cases v : x < s.hi
        · rw [qp ⟨q6,q6⟩,qr q6,qp ⟨q6,v⟩]
        · by_cases o : x < b
          · rw [qp ⟨q6,o⟩,qp ⟨q6,o⟩,h2]
          · rw [qr q6,qr q6,qr q6]
  · rw [h4];have hd : s.flat put = Y4 put (l ++ curG s):=qgm put s l hi.done;refine ⟨l ++ curG s,⟨hd,?_,?_,?_⟩,?_⟩
    · by_cases m : c = []
      · have : curG (⟨s.flat put,c,a,b⟩ : Mg σ β) = []:=by unfold curG;rw [qp m]
        rw [this,List.append_nil];exact hi.can
      · have : curG (⟨s.flat put,c,a,b⟩ : Mg σ β) = [⟨a,b,c⟩]:=by unfold curG;rw [qr m]
        rw [this];refine ⟨fun g d=>?_,List.pairwise_append.2 ⟨hi.can.2,qd,fun g d k hk=>?_⟩⟩
        · rcases List.mem_append.1 d with d | d
          · exact hi.can.1 g d
          · obtain rfl:=List.mem_singleton.1 d;exact ⟨u,m⟩
        · obtain rfl:=List.mem_singleton.1 hk;refine ⟨hi.le g d,fun t r=>?_⟩;rcases List.mem_append.1 d with j | j
          · by_cases hs : s.sec = []
            · exact hi.gap hs g j t
            · have h5 : (⟨s.lo,s.hi,s.sec⟩ : Grp σ)∈curG s:=by unfold curG;rw [qr hs];simp
              have h6:=((List.pairwise_append.1 hi.can.2).2.2 g j _ h5).1;have h7:=(hi.can.1 _ (List.mem_append.2 (.inr h5))).1;have h8:=hi.le _ (List.mem_append.2 (.inr h5));simp only at t h6 h7 h8;omega
          · obtain ⟨hs,rfl⟩:=qan j;exact z ⟨m,r.symm,t⟩
    · intro g d;rcases List.mem_append.1 d with d | d
      · have:=hi.le g d;omega
      · obtain ⟨_,rfl⟩:=qan d;exact Int.le_refl _
    · intro m g d t;have:=hi.le g d;omega
    · intro x;by_cases n : a≤x∧x < b
      · rw [qp n,q85 (q5l hi.le n.1) fun g d=>(hi.can.1 g d).2];unfold curG;split
        · rename_i m;simp only at m;rw [m];rfl
        · simp only [secG];rw [qp n]
      · rw [qr n];by_cases ac : x < a
        · exact qe9 (y:=a) (fun g d=>by obtain ⟨_,rfl⟩:=qan d;exact Int.le_refl _) ac
        · have e:=q5l (x:=x) hi.le q6;rw [q85 e fun g d=>(hi.can.1 g d).2,e];exact q5l (y:=b) (fun g d=>by obtain ⟨_,rfl⟩:=qan d;exact Int.le_refl _) q6
theorem qk3 (sec : Int→List σ) : ∀ (d : List Int) (c : Int) (s : Mg σ β) (h : List (Grp σ)),(c::d).Pairwise (· < ·)→InvG put s h c→
    ∃ f,(runM put sec s (c::d)).flat put = Y4 put f∧CanG f∧∀ x,secG f x = if x < c then secG (h ++ curG s) x else secC sec (c::d) x
  | [],c,s,h,_,hi=>by
    refine ⟨h ++ curG s,qgm put s h hi.done,hi.can,fun x=>?_⟩
    by_cases k : x < c
    · rw [qp k]
    · rw [qr k];exact q5l hi.le q6
  | b::d,a,s,h,hp,hi=>by
    have n : a < b:=(List.pairwise_cons.1 hp).1 b qd
    obtain ⟨f,m,j⟩:=qp2 (b:=b) (c:=sec a) put n hi
    obtain ⟨l,o,p,q⟩:=qk3 sec d b _ f (List.pairwise_cons.1 hp).2 m
    refine ⟨l,o,p,fun x=>?_⟩
    rw [q x]
    by_cases k : x < a
    · rw [qp q6,qp k,j,qr q6]
    · rw [qr k]
      simp only [secC]
      by_cases g : x < b
      · rw [qp g,j,qp ⟨q6,g⟩,qp ⟨q6,g⟩]
      · rw [qr g,qr q6]
theorem qia (sec : Int→List σ) {a : List Int} (f : a.Pairwise (· < ·)) :
    ∃ d,(K5 put K4 (Yl a sec)).flat put = Y4 put d∧CanG d∧∀ x,secG d x = secC sec a x:=by
  rw [qgo]
  cases a with
  | nil=>exact ⟨[],rfl,⟨qd,qd⟩,fun x=>rfl⟩
  | cons c a=>
    obtain ⟨d,h,j,k⟩:=qk3 put sec a c (K4 : Mg σ β) [] f ⟨rfl,⟨by simp [curG,K4],by simp [curG,K4]⟩,by simp [curG,K4],qd⟩;refine ⟨d,h,j,fun x=>?_⟩;rw [k x];split
    · rename_i g
      have : ∀ (a : List Int) (c : Int),(c::a).Pairwise (· < ·)→x < c→secC sec (c::a) x = []:=by
        intro a
        induction a with
        | nil=>intros;rfl
        | cons b r ih=>
          intro c hp g;rw [secC,qr q6];exact ih b (List.pairwise_cons.1 hp).2 (by have:=(List.pairwise_cons.1 hp).1 b qd;omega)
      rw [this a c f g];rfl
    · rfl
end
end Go.Sh
namespace Go.Sh
open Go Go.Am
section
variable {σ : Type}
theorem qeb {x : Int} : ∀ (b : List (Grp σ)),secG b x = []∨∃ g∈b,g.lo≤x∧x < g.hi∧secG b x = g.sec
  | []=>.inl rfl
  | g::r=>by
    by_cases a : g.lo≤x∧x < g.hi
    · exact .inr ⟨g,qd,a.1,a.2,by rw [secG,qp a]⟩
    · rw [secG,qr a]
      rcases qeb r with h | ⟨k,c,h⟩
      · exact .inl h
      · exact .inr ⟨k,by simp [c],h⟩
theorem qea : ∀ {b : List (Grp σ)},CanG b→∀ g∈b,∀ x,g.lo≤x→x < g.hi→secG b x = g.sec
  | k::r,h,g,a,x,h1,h2=>by
    rcases List.mem_cons.1 a with rfl | a
    · exact q2h h1 h2
    · have:=(h.nxt g a).1
      rw [secG,qr q6]
      exact qea h.tail g a x h1 h2
end
theorem qho (kind : Int) : q37 kind [] [] = []:=by
  have a:=(q7d kind [] [] qd qd).2;refine q70 a.can ⟨qd,qd⟩ fun x=>?_;rw [a.pts];have:=q16 x;unfold Yd;simp [this]
theorem qni (a b : List qq) (x : Int) : covS (a ++ b) x = covS a x ++ covS b x:=by simp [covS]
theorem qnk (s : List qo) (lo hi x : Int) : covS (s.map (putR lo hi)) x = if lo≤x∧x < hi then s else []:=by
  induction s with
  | nil=>simp [covS]
  | cons t s ih=>
    have e : covS (List.map (putR lo hi) (t::s)) x = (if covR x (putR lo hi t) = true then [t] else []) ++ covS (s.map (putR lo hi)) x:=rfl;rw [e,ih];have : covR x (putR lo hi t) = (decide (lo≤x) && decide (x < hi)):=rfl;rw [this];by_cases b : lo≤x <;> by_cases a : x < hi <;> simp [b,a]
theorem q74 : ∀ {b : List (Grp qo)},CanG b→∀ x,covS (Y4 putR b) x = secG b x
  | [],_,x=>rfl
  | g::r,h,x=>by
    have e : Y4 putR (g::r) = g.sec.map (putR g.lo g.hi) ++ Y4 putR r:=rfl
    rw [e,qni,qnk,q74 h.tail x]
    by_cases a : g.lo≤x∧x < g.hi
    · rw [qp a,secG,qp a,q2i (y:=g.hi) (fun m c=>(h.nxt m c).1) a.2,List.append_nil]
    · rw [qr a,secG,qr a,List.nil_append]
theorem qfx {l : List qq} {a x : Int} (h : ∀ r∈l,covR a r = covR x r) : covS l a = covS l x:=by
  induction l with
  | nil=>rfl
  | cons r l ih=>
    have e : ∀ y,covS (r::l) y = (if covR y r = true then [ysp r] else []) ++ covS l y:=fun _=>rfl;rw [e,e,h r qd,ih fun k b=>h k (by simp [b])]
theorem qa3 {l : List qq} {x : Int} (h : ∀ r∈l,covR x r = false) : covS l x = []:=by
  induction l with
  | nil=>rfl
  | cons r l ih=>
    have e : covS (r::l) x = (if covR x r = true then [ysp r] else []) ++ covS l x:=rfl;rw [e,h r qd,ih fun k a=>h k (by simp [a])];rfl
theorem q4d {x : Int} {r : qq} : covR x r = true↔r.X0≤x∧x < r.X1:=by simp [covR]
theorem qi8 {p q : List qq} {r : qq} (h : r∈p∨r∈q) : r.X0∈xsOf p ++ xsOf q∧r.X1∈xsOf p ++ xsOf q:=by
  unfold xsOf;simp only [List.mem_append,List.mem_flatMap];rcases h with h | h
  · exact ⟨.inl ⟨r,h,qd⟩,.inl ⟨r,h,qd⟩⟩
  · exact ⟨.inr ⟨r,h,qd⟩,.inr ⟨r,h,qd⟩⟩
theorem qig (kind : Int) {p q : List qq} (h : p.length + q.length≤100000) :
    ∃ f,mrgR kind p q = Y4 putR f∧CanG f∧∀ x,secG f x = secJ kind p q x:=by
  have t:=q1p p;have u:=q1p q;have hs:=(Jz (l:=xsOf p ++ xsOf q) (by simp;omega)).2.1;obtain ⟨f,k,m,n⟩:=qia putR (secJ kind p q) hs.1;refine ⟨f,k,m,fun x=>?_⟩;rw [n]
  have g : ∀ r,(r∈p∨r∈q)→r.X0∈Qu (xsOf p ++ xsOf q)∧r.X1∈Qu (xsOf p ++ xsOf q):=fun r b=>
    ⟨(hs.2 _).2 (qi8 b).1,(hs.2 _).2 (qi8 b).2⟩
  refine qbc _ hs.1 (fun a _ o c=>?_) (fun c=>?_) (fun c=>?_)
  · have d : ∀ r,(r∈p∨r∈q)→covR a r = covR x r:=fun r b=>by
      have j:=c _ (g r b).1;have s:=c _ (g r b).2;rw [Bool.eq_iff_iff,q4d,q4d];omega
    unfold secJ;rw [qfx fun r b=>d r (.inl b),qfx fun r b=>d r (.inr b)]
  · have d : ∀ r,(r∈p∨r∈q)→covR x r = false:=fun r b=>by
      have j:=c _ (g r b).1;rw [← Bool.not_eq_true,q4d];omega
    unfold secJ;rw [qa3 fun r b=>d r (.inl b),qa3 fun r b=>d r (.inr b),qho]
  · have d : ∀ r,(r∈p∨r∈q)→covR x r = false:=fun r b=>by
      have j:=c _ (g r b).2;rw [← Bool.not_eq_true,q4d];omega
    unfold secJ;rw [qa3 fun r b=>d r (.inl b),qa3 fun r b=>d r (.inr b),qho]
def CanR (l : List qq) : Prop:=∃ gs : List (Grp qo),l = Y4 putR gs∧CanG gs∧∀ g∈gs,Can g.sec
theorem qmd : Can []:=⟨qd,qd⟩
theorem CanR.nil : CanR []:=⟨[],rfl,⟨qd,qd⟩,qd⟩
theorem CanR.cov {l : List qq} (h : CanR l) (x : Int) : Can (covS l x):=by
  obtain ⟨a,rfl,c,b⟩:=h;rw [q74 c];rcases qeb (x:=x) a with e | ⟨g,d,_,_,e⟩
  · rw [e];exact qmd
  · rw [e];exact b g d
theorem qfd {a b : List qq} (c : CanR a) (hb : CanR b) (h : ∀ x y,hasR a x y↔hasR b x y) : a = b:=by
  have g : ∀ x,covS a x = covS b x:=fun x=>q70 (c.cov x) (hb.cov x) fun y=>by rw [Ua,Ua];exact h x y
  obtain ⟨k,rfl,f,_⟩:=c;obtain ⟨j,rfl,d,_⟩:=hb;rw [qca f d fun x=>by rw [← q74 f,← q74 d];exact g x]
theorem qkb (kind : Int) {p q : List qq} (h : p.length + q.length≤100000) (x : Int) : qbx kind (covS p x) (covS q x) (secJ kind p q x):=by
  have b:=q1s p x;have a:=q1s q x;exact (q7d kind (covS p x) (covS q x) q6 q6).2
theorem qif (kind : Int) {p q : List qq} (h : p.length + q.length≤100000) : CanR (mrgR kind p q):=by
  obtain ⟨d,c,a,f⟩:=qig kind h;refine ⟨d,c,a,fun g b=>?_⟩;have:=f g.lo;rw [qea a g b _ (Int.le_refl _) (a.1 g b).1] at this;rw [this];exact (qkb kind h _).can
theorem qnj (kind : Int) {p q : List qq} (h : p.length + q.length≤100000) (x : Int) : covS (mrgR kind p q) x = secJ kind p q x:=by
  obtain ⟨d,a,b,c⟩:=qig kind h;rw [a,q74 b,c]
theorem qcv (kind : Int) {p q : List qq} (h : p.length + q.length≤100000) (x y : Int) : hasR (mrgR kind p q) x y↔Yd kind (hasR p x y) (hasR q x y):=by
  rw [← Ua,qnj kind h,(qkb kind h x).pts,Ua,Ua]
theorem qha (x y : Int) : ¬ hasR [] x y:=by rintro ⟨r,h,_⟩;cases h
theorem qow {a b : Prop} : Yd 2 a b↔a∨b:=by unfold Yd;simp
theorem qi6 {σ β : Type} {put : Int→Int→σ→β} {a : List (Grp σ)} {r : β} : r∈Y4 put a↔∃ g∈a,∃ t∈g.sec,r = put g.lo g.hi t:=by
  unfold Y4;simp only [List.mem_flatMap,List.mem_map];exact ⟨fun ⟨g,hg,t,ht,e⟩=>⟨g,hg,t,ht,e.symm⟩,fun ⟨g,hg,t,ht,e⟩=>⟨g,hg,t,ht,e.symm⟩⟩
theorem CanR.lt {l : List qq} (h : CanR l) : ∀ r∈l,r.X0 < r.X1∧r.Y0 < r.Y1:=by
  obtain ⟨j,rfl,f,d⟩:=h;intro r b;obtain ⟨g,a,t,c,rfl⟩:=qi6.1 b;exact ⟨(f.1 g a).1,(d g a).1 t c⟩
def InR (l : List qq) : Prop:=∀ x y,hasR l x y→(-1000000≤x∧x < 1000000)∧(-1000000≤y∧y < 1000000)
theorem CanR.vR {l : List qq} (h : CanR l) (hi : InR l) : ∀ r∈l,vR r:=by
  intro r a;have d:=h.lt r a;have c:=hi r.X0 r.Y0 ⟨r,a,q6⟩;have b:=hi (r.X1 - 1) (r.Y1 - 1) ⟨r,a,q6⟩;unfold Go.Sh.vR;omega
theorem InR.mrg {kind : Int} {p q : List qq} (h : p.length + q.length≤100000) (hp : InR p) (c : InR q) : InR (mrgR kind p q):=fun x y b=>by
  rcases qd2 ((qcv kind h x y).1 b) with a | a
  · exact hp x y a
  · exact c x y a
theorem InR.nil : InR []:=fun x y h=>absurd h (qha x y)
end Go.Sh
namespace Go.Sh
open Go Go.Am
def hasB (l : List qj) (x y z : Int) : Prop:=∃ b∈l,(b.Lo.X≤x∧x < b.Hi.X)∧(b.Lo.Y≤y∧y < b.Hi.Y)∧(b.Lo.Z≤z∧z < b.Hi.Z)
theorem q1r {z : Int} {b : qj} : covB z b = true↔b.Lo.Z≤z∧z < b.Hi.Z:=by simp [covB]
theorem qdf {l : List qj} {z : Int} {r : qq} : r∈atB l z↔∃ b∈l,(b.Lo.Z≤z∧z < b.Hi.Z)∧r = Ug b:=by
  unfold atB;rw [List.mem_flatMap];constructor
  · rintro ⟨b,hb,h⟩;split at h
    · rename_i a;exact ⟨b,hb,q1r.1 a,by simpa using h⟩
    · cases h
  · rintro ⟨b,hb,a,rfl⟩;exact ⟨b,hb,by rw [qp (q1r.2 a)];simp⟩
theorem q35 {l : List qj} {x y z : Int} : hasR (atB l z) x y↔hasB l x y z:=by
  constructor
  · rintro ⟨r,h,g,f,a,d⟩;obtain ⟨b,hb,c,rfl⟩:=qdf.1 h;exact ⟨b,hb,⟨g,f⟩,⟨a,d⟩,c⟩
  · rintro ⟨b,hb,⟨g,f⟩,⟨a,d⟩,c⟩;exact ⟨Ug b,qdf.2 ⟨b,hb,c,rfl⟩,g,f,a,d⟩
theorem qcu (x y z : Int) : ¬ hasB [] x y z:=by rintro ⟨r,h,_⟩;cases h
theorem qly (a b : List qj) (z : Int) : atB (a ++ b) z = atB a z ++ atB b z:=by simp [atB]
theorem qlz (s : List qq) (lo hi z : Int) : atB (s.map (putB lo hi)) z = if lo≤z∧z < hi then s else []:=by
  induction s with
  | nil=>simp [atB]
  | cons t s ih=>
    have e : atB (List.map (putB lo hi) (t::s)) z = (if covB z (putB lo hi t) = true then [t] else []) ++ atB (s.map (putB lo hi)) z:=rfl;rw [e,ih];have : covB z (putB lo hi t) = (decide (lo≤z) && decide (z < hi)):=rfl;rw [this];by_cases b : lo≤z <;> by_cases a : z < hi <;> simp [b,a]
theorem q6x : ∀ {b : List (Grp qq)},CanG b→∀ z,atB (Y4 putB b) z = secG b z
  | [],_,z=>rfl
  | g::r,h,z=>by
    have e : Y4 putB (g::r) = g.sec.map (putB g.lo g.hi) ++ Y4 putB r:=rfl
    rw [e,qly,qlz,q6x h.tail z]
    by_cases a : g.lo≤z∧z < g.hi
    · rw [qp a,secG,qp a,q2i (y:=g.hi) (fun m c=>(h.nxt m c).1) a.2,List.append_nil]
    · rw [qr a,secG,qr a,List.nil_append]
theorem qf6 {l : List qj} {a x : Int} (h : ∀ r∈l,covB a r = covB x r) : atB l a = atB l x:=by
  induction l with
  | nil=>rfl
  | cons r l ih=>
    have e : ∀ y,atB (r::l) y = (if covB y r = true then [Ug r] else []) ++ atB l y:=fun _=>rfl;rw [e,e,h r qd,ih fun k b=>h k (by simp [b])]
theorem q9v {l : List qj} {x : Int} (h : ∀ r∈l,covB x r = false) : atB l x = []:=by
  induction l with
  | nil=>rfl
  | cons r l ih=>
    have e : atB (r::l) x = (if covB x r = true then [Ug r] else []) ++ atB l x:=rfl;rw [e,h r qd,ih fun k a=>h k (by simp [a])];rfl
theorem qi9 {p q : List qj} {r : qj} (h : r∈p∨r∈q) : r.Lo.Z∈zsOf p ++ zsOf q∧r.Hi.Z∈zsOf p ++ zsOf q:=by
  unfold zsOf;simp only [List.mem_append,List.mem_flatMap];rcases h with h | h
  · exact ⟨.inl ⟨r,h,qd⟩,.inl ⟨r,h,qd⟩⟩
  · exact ⟨.inr ⟨r,h,qd⟩,.inr ⟨r,h,qd⟩⟩
theorem qdj (kind : Int) : mrgR kind [] [] = []:=by
  refine qfd (qif kind qd) .nil fun x y=>?_;rw [qcv kind qd];have:=qha x y;unfold Yd;simp [this]
theorem qie (kind : Int) {p q : List qj} (h : p.length + q.length≤100000) :
    ∃ f,mrgB kind p q = Y4 putB f∧CanG f∧∀ z,secG f z = secB kind p q z:=by
  have u:=J4 p;have s:=J4 q;have hs:=(Jz (l:=zsOf p ++ zsOf q) (by simp;omega)).2.1;obtain ⟨f,k,m,n⟩:=qia putB (secB kind p q) hs.1;refine ⟨f,k,m,fun x=>?_⟩;rw [n]
  have g : ∀ r,(r∈p∨r∈q)→r.Lo.Z∈Qu (zsOf p ++ zsOf q)∧r.Hi.Z∈Qu (zsOf p ++ zsOf q):=fun r b=>
    ⟨(hs.2 _).2 (qi9 b).1,(hs.2 _).2 (qi9 b).2⟩
  refine qbc _ hs.1 (fun a _ o c=>?_) (fun c=>?_) (fun c=>?_)
  · have d : ∀ r,(r∈p∨r∈q)→covB a r = covB x r:=fun r b=>by
      have j:=c _ (g r b).1;have t:=c _ (g r b).2;rw [Bool.eq_iff_iff,q1r,q1r];omega
    unfold secB;rw [qf6 fun r b=>d r (.inl b),qf6 fun r b=>d r (.inr b)]
  · have d : ∀ r,(r∈p∨r∈q)→covB x r = false:=fun r b=>by
      have j:=c _ (g r b).1;rw [← Bool.not_eq_true,q1r];omega
    unfold secB;rw [q9v fun r b=>d r (.inl b),q9v fun r b=>d r (.inr b),qdj]
  · have d : ∀ r,(r∈p∨r∈q)→covB x r = false:=fun r b=>by
      have j:=c _ (g r b).2;rw [← Bool.not_eq_true,q1r];omega
    unfold secB;rw [q9v fun r b=>d r (.inl b),q9v fun r b=>d r (.inr b),qdj]
def CanB (l : List qj) : Prop:=∃ gs : List (Grp qq),l = Y4 putB gs∧CanG gs∧∀ g∈gs,CanR g.sec
theorem CanB.nil : CanB []:=⟨[],rfl,⟨qd,qd⟩,qd⟩
theorem CanB.at {l : List qj} (h : CanB l) (z : Int) : CanR (atB l z):=by
  obtain ⟨a,rfl,c,b⟩:=h;rw [q6x c];rcases qeb (x:=z) a with e | ⟨g,d,_,_,e⟩
  · rw [e];exact .nil
  · rw [e];exact b g d
theorem qmc {a b : List qj} (c : CanB a) (hb : CanB b) (h : ∀ x y z,hasB a x y z↔hasB b x y z) : a = b:=by
  have g : ∀ z,atB a z = atB b z:=fun z=>qfd (c.at z) (hb.at z) fun x y=>by rw [q35,q35];exact h x y z
  obtain ⟨k,rfl,f,_⟩:=c;obtain ⟨j,rfl,d,_⟩:=hb;rw [qca f d fun x=>by rw [← q6x f,← q6x d];exact g x]
theorem qf9 {p q : List qj} (h : p.length + q.length≤100000) (z : Int) : (atB p z).length + (atB q z).length≤100000:=by
  have:=Jx p z;have:=Jx q z;omega
theorem qid (kind : Int) {p q : List qj} (h : p.length + q.length≤100000) : CanB (mrgB kind p q):=by
  obtain ⟨d,c,a,f⟩:=qie kind h;refine ⟨d,c,a,fun g b=>?_⟩;have:=f g.lo;rw [qea a g b _ (Int.le_refl _) (a.1 g b).1] at this;rw [this];exact qif kind (qf9 h _)
theorem qf7 (kind : Int) {p q : List qj} (h : p.length + q.length≤100000) (z : Int) : atB (mrgB kind p q) z = secB kind p q z:=by
  obtain ⟨d,a,b,c⟩:=qie kind h;rw [a,q6x b,c]
theorem qh9 (kind : Int) {p q : List qj} (h : p.length + q.length≤100000) (x y z : Int) : hasB (mrgB kind p q) x y z↔Yd kind (hasB p x y z) (hasB q x y z):=by
  rw [← q35,qf7 kind h,secB,qcv kind (qf9 h z),q35,q35]
theorem qoq {l : List qj} (h : l.length≤100000) (x y z : Int) : hasB (mrgB 2 l []) x y z↔hasB l x y z:=by
  rw [qh9 2 (by simpa using h),qow];simp [qcu]
theorem qpv {l : List qj} (a : l.length≤100000) (h : CanB l) : mrgB 2 l [] = l:=
  qmc (qid 2 (by simpa using a)) h fun x y z=>qoq a x y z
theorem CanB.lt {l : List qj} (h : CanB l) : ∀ b∈l,b.Lo.X < b.Hi.X∧b.Lo.Y < b.Hi.Y∧b.Lo.Z < b.Hi.Z:=by
  obtain ⟨k,rfl,j,f⟩:=h;intro r c;obtain ⟨g,a,t,d,rfl⟩:=qi6.1 c;have:=(f g a).lt t d;exact ⟨this.1,this.2,(j.1 g a).1⟩
def vB (b : qj) : Prop:=(b.Lo.X < b.Hi.X∧b.Lo.Y < b.Hi.Y∧b.Lo.Z < b.Hi.Z)∧(-1000000≤b.Lo.X∧-1000000≤b.Lo.Y∧-1000000≤b.Lo.Z)∧b.Hi.X≤1000000∧b.Hi.Y≤1000000∧b.Hi.Z≤1000000
instance (b : qj) : Decidable (vB b):=by unfold vB;infer_instance
def InB (l : List qj) : Prop:=∀ x y z,hasB l x y z→(-1000000≤x∧x < 1000000)∧(-1000000≤y∧y < 1000000)∧(-1000000≤z∧z < 1000000)
theorem CanB.vB {l : List qj} (h : CanB l) (hi : InB l) : ∀ r∈l,vB r:=by
  intro r a;have d:=h.lt r a;have c:=hi r.Lo.X r.Lo.Y r.Lo.Z ⟨r,a,q6⟩;have b:=hi (r.Hi.X - 1) (r.Hi.Y - 1) (r.Hi.Z - 1) ⟨r,a,q6⟩;unfold Go.Sh.vB;omega
theorem InB.mrg {kind : Int} {p q : List qj} (h : p.length + q.length≤100000) (hp : InB p) (c : InB q) : InB (mrgB kind p q):=fun x y z b=>by
  rcases qd2 ((qh9 kind h x y z).1 b) with a | a
  · exact hp x y z a
  · exact c x y z a
theorem InB.nil : InB []:=fun x y z h=>absurd h (qcu x y z)
theorem qz2 {l : List qj} (h : ∀ b∈l,vB b) (z : Int) : ∀ r∈atB l z,vR r:=by
  intro r a;obtain ⟨b,hb,_,rfl⟩:=qdf.1 a;have:=h b hb;unfold vB at this;unfold vR Ug;simp only;omega
theorem InB.at {l : List qj} (h : InB l) (z : Int) : InR (atB l z):=fun x y a=>by
  have:=h x y z (q35.1 a);exact ⟨this.1,this.2.1⟩
noncomputable def Zb (l : List qj) : Int:=if 400 < l.length then 4 else if ∀ b∈l,vB b then (if mrgB 2 l [] = l then 0 else 8) else 8
theorem qn3 {l : List qj} : Zb l = 0↔l.length≤400∧(∀ b∈l,vB b)∧CanB l:=by
  unfold Zb;constructor
  · intro h;split at h
    · exact absurd h qt
    · rename_i d;split at h
      · rename_i c;split at h
        · rename_i a;exact ⟨q6,c,a ▸ qid 2 (by simp;omega)⟩
        · exact absurd h qt
      · exact absurd h qt
  · rintro ⟨d,c,a⟩;rw [qr q6,qp c,qp (qpv q6 a)]
theorem qka (kind : Int) {p q : List qj} (h : p.length + q.length≤100000) (z : Int) : (secB kind p q z).length≤(mrgB kind p q).length:=by
  rw [← qf7 kind h];exact Jx _ _
noncomputable def mkR (l : List qq) : List qq × Int:=if 400 < l.length then ([],4) else if ∀ b∈l,vR b then (if 400 < (mrgR 2 l []).length then ([],4) else (mrgR 2 l [],0)) else ([],8)
end Go.Sh
namespace Go.Sh
open Go Go.Am
def ofR (q : Rat) : Ql:={Num:=q.num,Den:=(q.den : Int)}
theorem Yc (q : Rat) : (0 : Int) < (q.den : Int):=by have:=q.den_pos;omega
theorem Uv (q : Rat) : fr q.num (q.den : Int) = q:=by
  unfold fr;rw [← Rat.divInt_eq_div];exact Rat.num_divInt_den q
theorem qi1 (q : Rat) : LowT q.num (q.den : Int):=⟨Yc q,by
  have:=q.reduced
  unfold Int.gcd;simpa [Nat.Coprime] using this⟩
theorem qdl {a b : Int} (h : LowT a b) : ofR (fr a b) = {Num:=a,Den:=b}:=by
  obtain ⟨c,d⟩:=qph (qi1 (fr a b)) h (Uv _);unfold ofR;rw [c,d]
theorem qhw (a b : Rat) : a.num * (b.den : Int) < b.num * (a.den : Int)↔a < b:=by
  rw [← q4i (Yc a) (Yc b),Uv,Uv]
theorem qcr (n m : Int) : fr (-n) (-m) = fr n m:=by
  unfold fr;rw [Rat.intCast_neg,Rat.intCast_neg];grind
theorem q19 {n m N M : Int} (p : 0 < m) (v : -N≤n∧n≤N) (u : m≤M) : (-N≤(fr n m).num∧(fr n m).num≤N)∧1≤((fr n m).den : Int)∧((fr n m).den : Int)≤M:=by
  obtain ⟨q,k⟩:=qd9 (n:=n) p;have e:=qdl q;rw [k] at e;have d : (fr n m).num = n / (Int.gcd n m : Int):=congrArg Ql.Num e;have f : ((fr n m).den : Int) = m / (Int.gcd n m : Int):=congrArg Ql.Den e;have t : 0 < Int.gcd n m:=Int.gcd_pos_of_ne_zero_right n q6;obtain ⟨a,r⟩:=Int.gcd_dvd_left (a:=n) (b:=m);obtain ⟨b,hb⟩:=Int.gcd_dvd_right (a:=n) (b:=m);have hp:=Yc (fr n m);generalize Int.gcd n m = g at *;have s : n / (g : Int) = a:=by rw [r];exact Int.mul_ediv_cancel_left a q6
  have h : m / (g : Int) = b:=by rw [hb];exact Int.mul_ediv_cancel_left b q6
  rw [s] at d;rw [h] at f;rw [d,f];have c : (1 : Int)≤g:=by omega
  have l : 0 < b:=by omega
  have j : b≤m:=by
    have : 1 * b≤(g : Int) * b:=Int.mul_le_mul_of_nonneg_right c q6;omega
  refine ⟨?_,q6,q6⟩;by_cases o : 0≤a
  · have : 1 * a≤(g : Int) * a:=Int.mul_le_mul_of_nonneg_right c o;omega
  · have : 1 * (-a)≤(g : Int) * (-a):=Int.mul_le_mul_of_nonneg_right c q6;simp only [Int.mul_neg] at this;omega
theorem qoe {a b c d : Int} (hb : 0 < b) (hd : 0 < d) : fr a b + fr c d = fr (a * d + c * b) (b * d):=by
  unfold fr;have g : (0 : Rat) < b:=by exact_mod_cast hb
  have f : (0 : Rat) < d:=by exact_mod_cast hd
  rw [Rat.intCast_add,Rat.intCast_mul,Rat.intCast_mul,Rat.intCast_mul];grind
theorem qgw {a b c d : Int} (hb : 0 < b) (hd : 0 < d) : fr a b * fr c d = fr (a * c) (b * d):=by
  unfold fr;have g : (0 : Rat) < b:=by exact_mod_cast hb
  have f : (0 : Rat) < d:=by exact_mod_cast hd
  rw [Rat.intCast_mul,Rat.intCast_mul];grind
theorem qby (a b : Rat) : fr (a.num * (b.den : Int) + b.num * (a.den : Int)) ((a.den : Int) * (b.den : Int)) = a + b:=by
  rw [← qoe (Yc a) (Yc b),Uv,Uv]
theorem qpw (a b : Rat) : fr (a.num * b.num) ((a.den : Int) * (b.den : Int)) = a * b:=by
  rw [← qgw (Yc a) (Yc b),Uv,Uv]
end Go.Sh
