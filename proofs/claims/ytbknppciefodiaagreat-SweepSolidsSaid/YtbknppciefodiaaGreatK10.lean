/- Pg4 Pg5 Pg6 Pj1 Pj2 Pl4 Pj3 Po1 -/
import Derived.Test.YtbknppciefodiaaGreatK9
namespace Go.Sh
open Go Go.Am
section
variable {T : Type} [Inhabited T] {P : T→Prop} {lt : T→T→Bool} {q : T→T→Option Int}
theorem qh3 {f : Int→Option (Int ⊕ Int)} (p : T→Bool) (d : Array T) (j : Nat)
    (b : ∀ k : Nat,k≤1000002→f (k : Int) = if (decide (k≤j) && p d[k]!) = true then some (.inl ((k + 1 : Nat) : Int)) else some (.inr (k : Int))) (g : j≤1000000) :
    ∀ (m i : Nat),j + 1 - i = m→i≤1000002→loop f (i : Int) = some ((Sort.scanUp p d j i : Nat) : Int):=by
  intro m
  induction m with
  | zero=>
    intro i c hi;unfold Sort.scanUp;have a : ¬ (decide (i≤j) && p d[i]!) = true:=by simp;omega
    rw [qp a];exact Kj (by rw [b i hi,qp a])
  | succ m ih=>
    intro i c hi;unfold Sort.scanUp;by_cases a : (decide (i≤j) && p d[i]!) = true
    · rw [qq a,Y5 (by rw [b i hi,qq a])];exact ih (i + 1) q6 q6
    · rw [qp a];exact Kj (by rw [b i hi,qp a])
theorem qd8 {f : Int→Option (Int ⊕ Int)} (p : T→Bool) (d : Array T) (i n : Nat) (hi : 1≤i)
    (b : ∀ k : Nat,k < n→f (k : Int) = if (decide (i≤k) && p d[k]!) = true then some (.inl ((k - 1 : Nat) : Int)) else some (.inr (k : Int))) :
    ∀ (j : Nat),j < n→loop f (j : Int) = some ((Sort.scanDown p d i j : Nat) : Int)
  | 0,hj=>by
    have a : ¬ (decide (i≤0) && p d[0]!) = true:=by simp;omega
    exact Kj (by rw [b 0 hj,qp a];rfl)
  | j + 1,hj=>by
    unfold Sort.scanDown
    by_cases a : (decide (i≤j + 1) && p d[j + 1]!) = true
    · rw [qq a,Y5 (by rw [b (j + 1) hj,qq a])]
      exact qd8 p d i n hi b j q6
    · rw [qp a]
      exact Kj (by rw [b (j + 1) hj,qp a])
theorem qlr (l : Kz q lt P) {n : Nat} {d : Array T} (hd : AllP n P d) {a j : Nat} (b : a < n) (o : j < n) (x : Int) (k : Nat) (m : k≤1000002) :
    J9 (x,(j : Int),d.toList) (a : Int) q (k : Int) = if (decide (k≤j) && (fun x=>lt x d[a]!) d[k]!) = true then some (.inl ((k + 1 : Nat) : Int)) else some (.inr (k : Int)):=by
  have c:=hd.1;by_cases h : k≤j
  · obtain ⟨r,f,g⟩:=l d[k]! d[a]! (hd.2.2 _ q6) (hd.2.2 _ b);have t : decide ((k : Int)≤(j : Int)) = true:=Q7 q6;simp only [J9,t,qy,gx (d:=d) (k:=k) q6,gx (d:=d) (k:=a) q6,qj,f,g,w1p k q6];simp only [Q7 h,Bool.true_and,Bool.cond_eq_ite]
  · have t : decide ((k : Int)≤(j : Int)) = false:=Q6 q6;simp only [J9,t,qx,qj];simp [h]
theorem qls (j : Kz q lt P) {n : Nat} {d : Array T} (hd : AllP n P d) {a i : Nat} (b : a < n) (hi : 1≤i) (x y : Int) (k : Nat) (m : k < n) :
    Ja (i : Int) (x,y,d.toList) (a : Int) q (k : Int) = if (decide (i≤k) && (fun x=>!lt x d[a]!) d[k]!) = true then some (.inl ((k - 1 : Nat) : Int)) else some (.inr (k : Int)):=by
  have c:=hd.1;have l:=hd.2.1;by_cases h : i≤k
  · obtain ⟨r,f,g⟩:=j d[k]! d[a]! (hd.2.2 _ q6) (hd.2.2 _ b);have t : decide ((i : Int)≤(k : Int)) = true:=Q7 q6;have w : w64 ((k : Int) - 1) = ((k - 1 : Nat) : Int):=by rw [Qk q6];omega
    simp only [Ja,t,qy,gx (d:=d) (k:=k) q6,gx (d:=d) (k:=a) q6,qj,f,g,w];simp only [Q7 h,Bool.true_and,Bool.cond_eq_ite]
  · have t : decide ((i : Int)≤(k : Int)) = false:=Q6 q6;simp only [Ja,t,qx,qj];simp [h]
theorem quv (l : Kz q lt P) {n : Nat} {d : Array T} (hd : AllP n P d) {a j : Nat} (b : a < n) (o : j < n) (x : Int) (k : Nat) (m : k≤1000002) :
    Ur (x,(j : Int),d.toList) (a : Int) q (k : Int) = if (decide (k≤j) && (fun x=>!lt d[a]! x) d[k]!) = true then some (.inl ((k + 1 : Nat) : Int)) else some (.inr (k : Int)):=by
  have c:=hd.1;by_cases h : k≤j
  · obtain ⟨r,f,g⟩:=l d[a]! d[k]! (hd.2.2 _ b) (hd.2.2 _ q6);have t : decide ((k : Int)≤(j : Int)) = true:=Q7 q6;simp only [Ur,t,qy,gx (d:=d) (k:=k) q6,gx (d:=d) (k:=a) q6,qj,f,g,w1p k q6];simp only [Q7 h,Bool.true_and,Bool.cond_eq_ite]
  · have t : decide ((k : Int)≤(j : Int)) = false:=Q6 q6;simp only [Ur,t,qx,qj];simp [h]
theorem quw (j : Kz q lt P) {n : Nat} {d : Array T} (hd : AllP n P d) {a i : Nat} (b : a < n) (hi : 1≤i) (x y : Int) (k : Nat) (m : k < n) :
    Us (i : Int) (x,y,d.toList) (a : Int) q (k : Int) = if (decide (i≤k) && (fun x=>lt d[a]! x) d[k]!) = true then some (.inl ((k - 1 : Nat) : Int)) else some (.inr (k : Int)):=by
  have c:=hd.1;have l:=hd.2.1;by_cases h : i≤k
  · obtain ⟨r,f,g⟩:=j d[a]! d[k]! (hd.2.2 _ b) (hd.2.2 _ q6);have t : decide ((i : Int)≤(k : Int)) = true:=Q7 q6;have w : w64 ((k : Int) - 1) = ((k - 1 : Nat) : Int):=by rw [Qk q6];omega
    simp only [Us,t,qy,gx (d:=d) (k:=k) q6,gx (d:=d) (k:=a) q6,qj,f,g,w];simp only [Q7 h,Bool.true_and,Bool.cond_eq_ite]
  · have t : decide ((i : Int)≤(k : Int)) = false:=Q6 q6;simp only [Us,t,qx,qj];simp [h]
theorem quq (v : Kz q lt P) (a n : Nat) (r : a < n) : ∀ (m i j : Nat) (d : Array T),j + 1 - i = m→AllP n P d→1≤i→i≤n + 1→j < n→
    loop (q1l (a : Int) q) ((i : Int),(j : Int),d.toList) = some (((Sort.partLoop lt a i j d).1 : Int),(Sort.partLoop lt a i j d).2.toList)∧AllP n P (Sort.partLoop lt a i j d).2∧(Sort.partLoop lt a i j d).1 < n:=by
  intro m
  induction m using Nat.strongRecOn with
  | _ m ih=>
    intro i j d hm hd hi ac s;have y:=hd.1;have hn:=hd.2.1;rw [Sort.partLoop_eq];have l:=qh3 (f:=J9 ((i : Int),(j : Int),d.toList) (a : Int) q) (fun x=>lt x d[a]!) d j (fun k o=>qlr v hd r s _ k o) q6 _ i rfl q6;have g1:=Sort.scanUp_ge (fun x=>lt x d[a]!) d j i;have z:=(Sort.scanUp_spec (fun x=>lt x d[a]!) d j _ i rfl).2.1;generalize Sort.scanUp (fun x=>lt x d[a]!) d j i = c at l g1 z ⊢;have p:=qd8 (f:=Ja (c : Int) ((i : Int),(j : Int),d.toList) (a : Int) q) (fun x=>!lt x d[a]!) d c n q6 (fun k o=>qls v hd r q6 _ _ k o) j s;have g2:=Sort.scanDown_le (fun x=>!lt x d[a]!) d c j;generalize Sort.scanDown (fun x=>!lt x d[a]!) d c j = g at p g2 ⊢;by_cases u : c > g
    · rw [qq u];have t : decide ((c : Int) > (g : Int)) = true:=Q7 q6;refine ⟨Kj ?_,hd,by show g < n;omega⟩;simp only [q1l,l,p,qj,t,qy]
    · rw [qp u];have t : decide ((c : Int) > (g : Int)) = false:=Q6 q6;have h:=ih ((g - 1) + 1 - (c + 1)) q6 (c + 1) (g - 1) _ rfl (hd.swp (a:=c) (b:=g) q6 q6) q6 q6 q6;refine ⟨?_,h.2⟩;rw [Y5 (a':=(((c + 1 : Nat) : Int),((g - 1 : Nat) : Int),(Sort.swp d c g).toList)) ?_]
      · exact h.1
      · have w : w64 ((g : Int) - 1) = ((g - 1 : Nat) : Int):=by rw [Qk q6];omega
        simp only [q1l,l,p,qj,t,qx,gx (d:=d) (k:=c) q6,gx (d:=d) (k:=g) q6,gxs (d:=d) (k:=g) q6,Int.toNat_natCast,gswp,w,w1p c q6]
theorem qup (u : Kz q lt P) (a n : Nat) (p : a < n) : ∀ (m i j : Nat) (d : Array T),j + 1 - i = m→AllP n P d→1≤i→i≤n + 1→j < n→
    loop (q1k (a : Int) q) ((i : Int),(j : Int),d.toList) = some (((Sort.partEqLoop lt a i j d).1 : Int),(Sort.partEqLoop lt a i j d).2.toList):=by
  intro m
  induction m using Nat.strongRecOn with
  | _ m ih=>
    intro i j d hm hd hi ab r;have v:=hd.1;have hn:=hd.2.1;rw [Sort.partEqLoop_eq];have h:=qh3 (f:=Ur ((i : Int),(j : Int),d.toList) (a : Int) q) (fun x=>!lt d[a]! x) d j (fun k l=>quv u hd p r _ k l) q6 _ i rfl q6;have z:=Sort.scanUp_ge (fun x=>!lt d[a]! x) d j i;have y:=(Sort.scanUp_spec (fun x=>!lt d[a]! x) d j _ i rfl).2.1;generalize Sort.scanUp (fun x=>!lt d[a]! x) d j i = c at h z y ⊢;have o:=qd8 (f:=Us (c : Int) ((i : Int),(j : Int),d.toList) (a : Int) q) (fun x=>lt d[a]! x) d c n q6 (fun k l=>quw u hd p q6 _ _ k l) j r;have g2:=Sort.scanDown_le (fun x=>lt d[a]! x) d c j;generalize Sort.scanDown (fun x=>lt d[a]! x) d c j = g at o g2 ⊢;by_cases s : c > g
    · rw [qq s];have t : decide ((c : Int) > (g : Int)) = true:=Q7 q6;refine Kj ?_;simp only [q1k,h,o,qj,t,qy]
    · rw [qp s];have t : decide ((c : Int) > (g : Int)) = false:=Q6 q6;rw [Y5 (a':=(((c + 1 : Nat) : Int),((g - 1 : Nat) : Int),(Sort.swp d c g).toList)) ?_]
      · exact ih ((g - 1) + 1 - (c + 1)) q6 (c + 1) (g - 1) _ rfl (hd.swp (a:=c) (b:=g) q6 q6) q6 q6 q6
      · have w : w64 ((g : Int) - 1) = ((g - 1 : Nat) : Int):=by rw [Qk q6];omega
        simp only [q1k,h,o,qj,t,qx,gx (d:=d) (k:=c) q6,gx (d:=d) (k:=g) q6,gxs (d:=d) (k:=g) q6,Int.toNat_natCast,gswp,w,w1p c q6]
theorem qus (g : Kz q lt P) {a b n p : Nat} (hb : b≤n) (f : a < b) (hp : p < n) {d : Array T} (hd : AllP n P d) :
    q1j q d.toList (a : Int) (b : Int) (p : Int) = some (((Sort.partitionEqual lt d a b p).1 : Int),(Sort.partitionEqual lt d a b p).2.toList):=by
  have c:=hd.1;have h:=hd.2.1;have w : w64 ((b : Int) - 1) = ((b - 1 : Nat) : Int):=by rw [Qk q6];omega
  have s:=qup g a n q6 _ (a + 1) (b - 1) _ rfl (hd.swp (a:=a) (b:=p) q6 hp) q6 q6 q6;unfold q1j Sort.partitionEqual;simp only [gx (d:=d) (k:=p) q6,gx (d:=d) (k:=a) q6,gxs (d:=d) (k:=p) q6,qj,Int.toNat_natCast,gswp,w,w1p a q6,s]
theorem qut (l : Kz q lt P) {a b n p : Nat} (hb : b≤n) (ae : a < b) (hp : p < n) {d : Array T} (hd : AllP n P d) :
    q1i q d.toList (a : Int) (b : Int) (p : Int) = some (((Sort.partition lt d a b p).1 : Int),(Sort.partition lt d a b p).2.1,(Sort.partition lt d a b p).2.2.toList):=by
  have v:=hd.1;have hn:=hd.2.1;have w : w64 ((b : Int) - 1) = ((b - 1 : Nat) : Int):=by rw [Qk q6];omega
  have h:=hd.swp (a:=a) (b:=p) q6 hp
  have e1 : q2i (b : Int) d.toList (a : Int) d[p]! (p : Int) d[a]! q = J9 ((0 : Int),((b - 1 : Nat) : Int),(Sort.swp d a p).toList) (a : Int) q:=by
    funext k;simp only [q2i,J9,w,Int.toNat_natCast,gswp]
  have e2 : ∀ c : Int,q2j c d.toList (a : Int) d[p]! (p : Int) d[a]! q = Ja c ((0 : Int),(0 : Int),(Sort.swp d a p).toList) (a : Int) q:=by
    intro c;funext k;simp only [q2j,Ja,Int.toNat_natCast,gswp]
  unfold q1i Sort.partition;simp only [gx (d:=d) (k:=p) q6,gx (d:=d) (k:=a) q6,gxs (d:=d) (k:=p) q6,qj,e1,e2,Int.toNat_natCast,gswp,w,w1p a q6];generalize Sort.swp d a p = D at h ⊢;have ag:=h.1;have o:=qh3 (f:=J9 ((0 : Int),((b - 1 : Nat) : Int),D.toList) (a : Int) q) (fun x=>lt x D[a]!) D (b - 1) (fun k j=>qlr l h q6 q6 _ k j) q6 _ (a + 1) rfl q6;have g1:=Sort.scanUp_ge (fun x=>lt x D[a]!) D (b - 1) (a + 1);generalize Sort.scanUp (fun x=>lt x D[a]!) D (b - 1) (a + 1) = c at o g1 ⊢;have r:=qd8 (f:=Ja (c : Int) ((0 : Int),(0 : Int),D.toList) (a : Int) q) (fun x=>!lt x D[a]!) D c n q6 (fun k j=>qls l h q6 q6 _ _ k j) (b - 1) q6;have g2:=Sort.scanDown_le (fun x=>!lt x D[a]!) D c (b - 1);generalize Sort.scanDown (fun x=>!lt x D[a]!) D c (b - 1) = g at r g2 ⊢;simp only [o,r,qj];by_cases m : c > g
  · have t : decide ((c : Int) > (g : Int)) = true:=Q7 q6;simp only [qq m,t,qy,gx (d:=D) (k:=a) q6,gx (d:=D) (k:=g) q6,gxs (d:=D) (k:=a) q6,qj,Int.toNat_natCast,gswp]
  · have t : decide ((c : Int) > (g : Int)) = false:=Q6 q6;have y : w64 ((g : Int) - 1) = ((g - 1 : Nat) : Int):=by rw [Qk q6];omega
    obtain ⟨z,s,b3⟩:=quq l a n q6 _ (c + 1) (g - 1) _ rfl (h.swp (a:=c) (b:=g) q6 q6) q6 q6 q6;simp only [qp m,t,qx,gx (d:=D) (k:=c) q6,gx (d:=D) (k:=g) q6,gxs (d:=D) (k:=g) q6,qj,Int.toNat_natCast,gswp,y,w1p c q6,z];generalize Sort.partLoop lt a (c + 1) (g - 1) (Sort.swp D c g) = R at s b3 ⊢;have u:=s.1;simp only [gx (d:=R.2) (k:=a) q6,gx (d:=R.2) (k:=R.1) q6,gxs (d:=R.2) (k:=a) q6,qj,Int.toNat_natCast,gswp]
theorem qwq (o : Kz q lt P) {b n : Nat} (hb : b≤n) {d : Array T} (hd : AllP n P d) (x y : Int) : ∀ (m i : Nat),b - i = m→1≤i→i≤b→
    loop (Uo (b : Int) (x,y,d.toList) q) (i : Int) = some ((Sort.scanSorted lt d b i : Nat) : Int)∧i≤Sort.scanSorted lt d b i∧Sort.scanSorted lt d b i≤b:=by
  have j:=hd.1;have p:=hd.2.1;intro m
  induction m with
  | zero=>
    intro i l hi a;unfold Sort.scanSorted;rw [qp (by simp;omega)];have t : decide ((i : Int) < (b : Int)) = false:=Q6 q6;exact ⟨Kj (by simp only [Uo,t,qx,qj]),Nat.le_refl _,a⟩
  | succ m ih=>
    intro i l hi a;unfold Sort.scanSorted;have t : decide ((i : Int) < (b : Int)) = true:=Q7 q6;have w : w64 ((i : Int) - 1) = ((i - 1 : Nat) : Int):=by rw [Qk q6];omega
    obtain ⟨r,g,h⟩:=o d[i]! d[i - 1]! (hd.2.2 _ q6) (hd.2.2 _ q6);by_cases c : lt d[i]! d[i - 1]! = true
    · rw [qp (by simp [c])];refine ⟨Kj ?_,Nat.le_refl _,a⟩;simp only [Uo,t,qy,w,gx (d:=d) (k:=i) q6,gx (d:=d) (k:=i - 1) q6,qj,g,h,c,Bool.not_true,qx]
    · have c : lt d[i]! d[i - 1]! = false:=by simpa using c
      rw [qq (by simp [c];omega)];have f:=ih (i + 1) q6 q6 q6;refine ⟨?_,q6,f.2.2⟩;rw [Y5 (a':=((i + 1 : Nat) : Int)) ?_]
      · exact f.1
      · simp only [Uo,t,qy,w,gx (d:=d) (k:=i) q6,gx (d:=d) (k:=i - 1) q6,qj,g,h,c,Bool.not_false,w1p i q6]
theorem qn7 (g : Kz q lt P) (n : Nat) : ∀ (j : Nat) (d : Array T),AllP n P d→j < n→loop (Up q) ((j : Int),d.toList) = some (Sort.shiftDown lt j d).toList∧AllP n P (Sort.shiftDown lt j d)
  | 0,d,hd,hj=>by
    have t : decide (((0 : Nat) : Int) ≥ 1) = false:=Q6 q6
    exact ⟨Kj (by simp only [Up,t,qx];rfl),hd⟩
  | j + 1,d,hd,hj=>by
    have m:=hd.1
    have o:=hd.2.1
    have t : decide (((j + 1 : Nat) : Int) ≥ 1) = true:=Q7 q6
    obtain ⟨r,h,l⟩:=g d[j + 1]! d[j]! (hd.2.2 _ hj) (hd.2.2 _ q6)
    unfold Sort.shiftDown
    by_cases c : lt d[j + 1]! d[j]! = true
    · rw [qp (by simp [c])]
      have f:=qn7 g n j _ (hd.swp (a:=j + 1) (b:=j) hj q6) q6
      refine ⟨?_,f.2⟩
      rw [Y5 (a':=((j : Int),(Sort.swp d (j + 1) j).toList)) ?_]
      · exact f.1
      · simp only [Up,t,qy,gx (d:=d) (k:=j + 1) q6,w1m j q6,gx (d:=d) (k:=j) q6,gxs (d:=d) (k:=j) q6,qj,h,l,c,Bool.not_true,qx,Int.toNat_natCast,gswp]
    · have c : lt d[j + 1]! d[j]! = false:=by simpa using c
      rw [qq (by simp [c])]
      refine ⟨Kj ?_,hd⟩
      simp only [Up,t,qy,gx (d:=d) (k:=j + 1) q6,w1m j q6,gx (d:=d) (k:=j) q6,qj,h,l,c,Bool.not_false]
theorem qn9 (u : Kz q lt P) {b n : Nat} (hb : b≤n) (c : Int) : ∀ (m j : Nat) (d : Array T),b - j = m→AllP n P d→1≤j→loop (Uq (b : Int) q c) ((j : Int),d.toList) = some (c,(Sort.shiftUp lt b j d).toList)∧AllP n P (Sort.shiftUp lt b j d):=by
  intro m
  induction m with
  | zero=>
    intro j d s hd p;unfold Sort.shiftUp;rw [qp q6];have t : decide ((j : Int) < (b : Int)) = false:=Q6 q6;exact ⟨Kj (by simp only [Uq,t,qx]),hd⟩
  | succ m ih=>
    intro j d s hd p;have o:=hd.1;have v:=hd.2.1;unfold Sort.shiftUp;rw [qq q6];have t : decide ((j : Int) < (b : Int)) = true:=Q7 q6;have w : w64 ((j : Int) - 1) = ((j - 1 : Nat) : Int):=by rw [Qk q6];omega
    obtain ⟨r,h,l⟩:=u d[j]! d[j - 1]! (hd.2.2 _ q6) (hd.2.2 _ q6);by_cases f : lt d[j]! d[j - 1]! = true
    · rw [qp (by simp [f])];have g:=ih (j + 1) _ q6 (hd.swp (a:=j) (b:=j - 1) q6 q6) q6;refine ⟨?_,g.2⟩;rw [Y5 (a':=(((j + 1 : Nat) : Int),(Sort.swp d j (j - 1)).toList)) ?_]
      · exact g.1
      · simp only [Uq,t,qy,w,gx (d:=d) (k:=j) q6,gx (d:=d) (k:=j - 1) q6,gxs (d:=d) (k:=j - 1) q6,qj,h,l,f,Bool.not_true,qx,Int.toNat_natCast,gswp,w1p j q6]
    · have f : lt d[j]! d[j - 1]! = false:=by simpa using f
      rw [qq (by simp [f])];refine ⟨Kj ?_,hd⟩;simp only [Uq,t,qy,w,gx (d:=d) (k:=j) q6,gx (d:=d) (k:=j - 1) q6,qj,h,l,f,Bool.not_false]
theorem qlu (j : Kz q lt P) {a b n : Nat} (hb : b≤n) : ∀ (s i : Nat) (d : Array T),s≤5→AllP n P d→a < i→i≤b→
    ∃ m,loop (J0 (b : Int) q (a : Int)) ((i : Int),((5 - s : Nat) : Int),d.toList) = some m∧(match m with | .inl b441=>some (false,b441) | .inr x1=>some x1) = some ((Sort.partialIns lt a b s i d).2,(Sort.partialIns lt a b s i d).1.toList)
  | 0,i,d,hs,hd,hi,hib=>by
    have t : decide (((5 - 0 : Nat) : Int) < 5) = false:=Q6 q6
    refine ⟨.inl d.toList,Kj (by simp only [J0,t,qx]),rfl⟩
  | s + 1,i,d,hs,hd,hi,hib=>by
    have ad:=hd.1
    have hn:=hd.2.1
    have t : decide (((5 - (s + 1) : Nat) : Int) < 5) = true:=Q7 q6
    rw [Sort.partialIns_succ]
    obtain ⟨p,l1,u1⟩:=qwq j hb hd (i : Int) ((5 - (s + 1) : Nat) : Int) _ i rfl q6 hib
    generalize Sort.scanSorted lt d b i = k at p l1 u1 ⊢
    by_cases hk : k = b
    · subst hk
      rw [qq rfl]
      refine ⟨.inr (true,d.toList),Kj ?_,rfl⟩
      simp only [J0,t,qy,p,qj,beq_self_eq_true]
    · rw [qp hk]
      have z : ((k : Int) == (b : Int)) = false:=by simp;omega
      have e0 : w64 ((b : Int) - (a : Int)) = ((b - a : Nat) : Int):=wsub q6 q6
      by_cases l : b - a < 50
      · rw [qq l]
        have g : decide (((b - a : Nat) : Int) < 50) = true:=Q7 q6
        refine ⟨.inr (false,d.toList),Kj ?_,rfl⟩
        simp only [J0,t,qy,p,qj,z,qx,e0,g]
      · rw [qp l]
        have g : decide (((b - a : Nat) : Int) < 50) = false:=Q6 q6
        have wk : w64 ((k : Int) - 1) = ((k - 1 : Nat) : Int):=by rw [Qk q6];omega
        have wa : w64 ((k : Int) - (a : Int)) = ((k - a : Nat) : Int):=wsub q6 q6
        have wb : w64 ((b : Int) - (k : Int)) = ((b - k : Nat) : Int):=wsub q6 q6
        have h:=hd.swp (a:=k) (b:=k - 1) q6 q6
        have down : (cond (decide (((k - a : Nat) : Int) ≥ 2)) ((loop (Up q) (((k - 1 : Nat) : Int),(Sort.swp d k (k - 1)).toList)).bind fun x0=>some x0) (some (Sort.swp d k (k - 1)).toList)) = some (Sort.fixDown lt a k (Sort.swp d k (k - 1))).toList∧AllP n P (Sort.fixDown lt a k (Sort.swp d k (k - 1))):=by
          unfold Sort.fixDown;by_cases o : k - a ≥ 2
          · have f : decide (((k - a : Nat) : Int) ≥ 2) = true:=Q7 q6;obtain ⟨x,y⟩:=qn7 j n (k - 1) _ h q6;rw [qq o,f,qy,x];exact ⟨rfl,y⟩
          · have f : decide (((k - a : Nat) : Int) ≥ 2) = false:=Q6 q6;rw [qp o,f,qx];exact ⟨rfl,h⟩
        obtain ⟨dn,c⟩:=down
        have r : AllP n P (Sort.fixUp lt b k (Sort.fixDown lt a k (Sort.swp d k (k - 1)))):=by
          unfold Sort.fixUp;split
          · exact (qn9 j hb 0 _ (k + 1) _ rfl c q6).2
          · exact c
        obtain ⟨m,v,u⟩:=qlu (a:=a) j hb s k _ q6 r q6 u1
        refine ⟨m,?_,u⟩
        rw [Y5 (a':=((k : Int),((5 - s : Nat) : Int),(Sort.fixUp lt b k (Sort.fixDown lt a k (Sort.swp d k (k - 1)))).toList)) ?_]
        · exact v
        · have w : w64 (((5 - (s + 1) : Nat) : Int) + 1) = ((5 - s : Nat) : Int):=by rw [Qk q6];omega
          simp only [J0,t,qy,p,qj,z,qx,e0,g,wk,gx (d:=d) (k:=k) q6,gx (d:=d) (k:=k - 1) q6,gxs (d:=d) (k:=k - 1) q6,Int.toNat_natCast,gswp,wa,dn,wb,w1p k q6]
          unfold Sort.fixUp
          by_cases o : b - k ≥ 2
          · have f : decide (((b - k : Nat) : Int) ≥ 2) = true:=Q7 q6
            obtain ⟨x,y⟩:=qn9 j hb (k : Int) _ (k + 1) _ rfl c q6
            rw [qq o,f,qy,x]
            simp only [qj,w]
          · have f : decide (((b - k : Nat) : Int) ≥ 2) = false:=Q6 q6
            rw [qp o,f,qx]
            simp only [qj,w]
theorem qur (h : Kz q lt P) {a b n : Nat} (hb : b≤n) (f : a < b) {d : Array T} (hd : AllP n P d) :
    Ua q d.toList (a : Int) (b : Int) = some ((Sort.partialInsertionSort lt d a b).2,(Sort.partialInsertionSort lt d a b).1.toList):=by
  have j:=hd.2.1;obtain ⟨m,c,g⟩:=qlu (a:=a) h hb 5 (a + 1) d q6 hd q6 q6;have c : loop (J0 (b : Int) q (a : Int)) (((a + 1 : Nat) : Int),0,d.toList) = some m:=c;unfold Ua Sort.partialInsertionSort;rw [w1p a q6,c];exact g
end
end Go.Sh
namespace Go.Sh
open Go Go.Am
theorem qky {α β : Type} {f : α→Option (α ⊕ β)} {a : α} (h : f a = none) : loop f a = none:=by
  apply Option.ext;intro b;rw [q93];constructor
  · rintro ⟨n,c⟩
    cases n with
    | zero=>simp [iter] at c
    | succ n=>simp [iter,h] at c
  · intro h;cases h
section
variable {T : Type} [Inhabited T] {P : T→Prop} {lt : T→T→Bool} {q : T→T→Option Int}
def Srt (lt : T→T→Bool) (a b : Nat) (d : Array T) (o : Option (List T)) : Prop:=∃ d' : Array T,o = some d'.toList∧Sort.PermIn a b d d'∧Sort.SortedIn lt a b d'
theorem quu (hq : Kz q lt P) (hS : Sort.SWO lt) {n N : Nat} (af : List T→Int→Int→Int→Option (List T))
    (ar : ∀ (a b f : Nat) (d : Array T),AllP n P d→a≤b→b≤n→f≤1000→Sort.Below lt a b d→Srt lt a b d (af d.toList (a : Int) (b : Int) (f : Int))∨(N≤b - a∧af d.toList (a : Int) (b : Int) (f : Int) = none)) :
    ∀ (m a b f : Nat) (wb wp : Bool) (d : Array T),b - a = m→AllP n P d→a≤b→b≤n→f≤1000→Sort.Below lt a b d→
      Srt lt a b d (loop (Zr q af) ((a : Int),(b : Int),(f : Int),wb,wp,d.toList))∨(N + 1≤b - a∧loop (Zr q af) ((a : Int),(b : Int),(f : Int),wb,wp,d.toList) = none):=by
  intro m
  induction m using Nat.strongRecOn with
  | _ m ih=>
    intro a b f wb wp d hm hd o hb hl hB;have dj:=hd.1;have hn:=hd.2.1;have e0 : w64 ((b : Int) - (a : Int)) = ((b - a : Nat) : Int):=wsub o q6;by_cases dl : b - a≤12
    ·
      have t : decide (((b - a : Nat) : Int)≤12) = true:=Q7 q6;obtain ⟨x,y⟩:=Sort.insertionSort_holds (lt:=lt) hS d a b o q6;have s:=qs2 hq hb o hd;refine .inl ⟨_,Kj ?_,x,y⟩;simp only [Zr,e0,t,qy,s,qj,Uf hd (hd.perm o hb x)]
    have bu : decide (((b - a : Nat) : Int)≤12) = false:=Q6 q6;by_cases h0 : f = 0
    ·
      have t : ((f : Int) == 0) = true:=by simp [h0]
      obtain ⟨x,y⟩:=Sort.heapSort_holds (lt:=lt) hS d a b o q6;have s:=qrw hq hb (by omega : a < b) hd;refine .inl ⟨_,Kj ?_,x,y⟩;simp only [Zr,e0,bu,qx,t,qy,s,qj,Uf hd (hd.perm o hb x)]
    have t0 : ((f : Int) == 0) = false:=by simp [h0]
    have hA : ∃ (l1 : Nat) (d1 : Array T),(cond (!wb) ((q1e q d.toList (a : Int) (b : Int)).bind fun bc=>(K3 bc.length d.toList.length).bind fun dc=>some (w64 ((f : Int) - 1),bc)) (some ((f : Int),d.toList))) = some ((l1 : Int),d1.toList)∧l1≤1000∧AllP n P d1∧Sort.PermIn a b d d1:=by
      cases wb with
      | true=>exact ⟨f,d,rfl,hl,hd,Sort.permIn_refl _ _ _⟩
      | false=>
        have x:=Sort.breakPatterns_holds d a b o q6;have z:=hd.perm o hb x;have w : w64 ((f : Int) - 1) = ((f - 1 : Nat) : Int):=by rw [Qk q6];omega
        refine ⟨f - 1,_,?_,q6,z,x⟩;simp only [Bool.not_false,qy,qp7 (q:=q) hb (by omega : a < b) hd,qj,Uf hd z,w]
    obtain ⟨l1,d1,eA,aq,z,p1⟩:=hA;have hC:=qq7 hq z (by omega : a < b) hb;obtain ⟨c1,c2⟩:=Sort.choosePivot_holds lt d1 a b q6;generalize (Sort.choosePivot lt d1 a b).1 = c at hC c1 c2;generalize qfn (Sort.choosePivot lt d1 a b).2 = h at hC
    have hR : ∃ (p : Nat) (h2 : Int) (d2 : Array T),(cond (h == 2) ((q1m q d1.toList (a : Int) (b : Int)).bind fun ba=>(K3 ba.length d1.toList.length).bind fun cy=>some (w64 ((w64 ((b : Int) - 1)) - (w64 ((c : Int) - (a : Int)))),(1 : Int),ba)) (some ((c : Int),h,d1.toList))) = some ((p : Int),h2,d2.toList)∧a≤p∧p < b∧AllP n P d2∧Sort.PermIn a b d1 d2:=by
      cases hh : (h == 2) with
      | false=>exact ⟨c,h,d1,rfl,c1,c2,z,Sort.permIn_refl _ _ _⟩
      | true=>
        have x:=Sort.reverseRange_holds d1 a b o (by rw [z.1];exact hb);have ac:=z.perm o hb x;have w1 : w64 ((b : Int) - 1) = ((b - 1 : Nat) : Int):=by rw [Qk q6];omega
        have w2 : w64 ((c : Int) - (a : Int)) = ((c - a : Nat) : Int):=wsub c1 q6;have w3 : w64 (((b - 1 : Nat) : Int) - ((c - a : Nat) : Int)) = ((b - 1 - (c - a) : Nat) : Int):=wsub q6 q6;refine ⟨b - 1 - (c - a),1,_,?_,q6,q6,ac,x⟩;simp only [qy,qwk (q:=q) hb (by omega : a < b) z,qj,Uf z ac,w1,w2,w3]
    obtain ⟨p,h2,d2,eR,hp1,hp2,ac,p2⟩:=hR;have bn : Sort.Below lt a b d2:=(hB.perm q6 p1).perm (by rw [z.1];exact hb) p2;have bo:=Sort.permIn_trans _ _ _ a b p1 p2
    have hP : ∀ cc : Bool,∃ ab : (List T) ⊕ (List T),(cond cc ((Ua q d2.toList (a : Int) (b : Int)).bind fun ag=>(K3 ag.2.length d2.toList.length).bind fun cx=>cond ag.1 (some (.inr ag.2)) (some (.inl ag.2))) (some (.inl d2.toList)) : Option ((List T) ⊕ (List T))) = some ab∧
        ((∃ l : Array T,ab = .inr l.toList∧Sort.PermIn a b d2 l∧Sort.SortedIn lt a b l)∨(∃ l : Array T,ab = .inl l.toList∧AllP n P l∧Sort.PermIn a b d2 l)):=by
      intro cc
      cases cc with
      | false=>exact ⟨_,rfl,.inr ⟨d2,rfl,ac,Sort.permIn_refl _ _ _⟩⟩
      | true=>
        obtain ⟨x,y⟩:=Sort.partialInsertionSort_holds (lt:=lt) hS d2 a b q6 (by rw [ac.1];exact hb) bn;have u:=ac.perm o hb x;have s:=qur hq hb (by omega : a < b) ac;simp only [qy,s,qj,Uf ac u]
        cases hz : (Sort.partialInsertionSort lt d2 a b).2 with
        | true=>exact ⟨_,rfl,.inl ⟨_,rfl,x,y hz⟩⟩
        | false=>exact ⟨_,rfl,.inr ⟨_,rfl,u,x⟩⟩
    obtain ⟨ab,eP,bv⟩:=hP (wb && wp && (h2 == 1))
    have cp : ∀ {γ : Type} (X : Bool→Option γ),((cond wb (some wp) (some false)).bind fun bq=>(cond bq (some (h2 == 1)) (some false)).bind X) = X (wb && wp && (h2 == 1)):=by
      intro γ X;cases wb <;> cases wp <;> rfl
    have head : Zr q af ((a : Int),(b : Int),(f : Int),wb,wp,d.toList) = (match (generalizing:=false) ab with | .inl b377=>(cond (decide ((a : Int) > 0)) ((idx b377 (w64 ((a : Int) - 1))).bind fun an=>(idx b377 (p : Int)).bind fun al=>(q an al).bind fun av=>some (!(decide (av < 0)))) (some false)).bind fun bl=>cond bl ((q1j q b377 (a : Int) (b : Int) (p : Int)).bind fun au=>(K3 au.2.length b377.length).bind fun cw=>some (.inl (au.1,(b : Int),(l1 : Int),wb,wp,au.2))) ((q1i q b377 (a : Int) (b : Int) (p : Int)).bind fun g=>(K3 g.2.2.length b377.length).bind fun cv=>cond (decide ((w64 (g.1 - (a : Int))) < (w64 ((b : Int) - g.1)))) ((af g.2.2 (a : Int) g.1 (l1 : Int)).bind fun be=>(K3 be.length g.2.2.length).bind fun da=>some (.inl (w64 (g.1 + 1),(b : Int),(l1 : Int),decide ((w64 (g.1 - (a : Int))) ≥ (w64 (Int.tdiv ((b - a : Nat) : Int) 8))),g.2.1,be))) ((af g.2.2 (w64 (g.1 + 1)) (b : Int) (l1 : Int)).bind fun bb=>(K3 bb.length g.2.2.length).bind fun cs=>some (.inl ((a : Int),g.1,(l1 : Int),decide ((w64 ((b : Int) - g.1)) ≥ (w64 (Int.tdiv ((b - a : Nat) : Int) 8))),g.2.1,bb)))) | .inr x1=>some (.inr x1)):=by
      simp only [Zr,e0,bu,qx,t0,eA,qj,hC,eR,cp,eP]
      clear eP bv hP ar ih
      cases ab <;> rfl
    rcases bv with ⟨l,rfl,x,y⟩ | ⟨l,rfl,u,p3⟩
    · refine .inl ⟨l,Kj ?_,Sort.permIn_trans _ _ _ a b bo x,y⟩;rw [head]
    have ax:=u.1;have P3:=Sort.permIn_trans _ _ _ a b bo p3;have B3 : Sort.Below lt a b l:=bn.perm (by rw [ac.1];exact hb) p3
    have bj : (cond (decide ((a : Int) > 0)) ((idx l.toList (w64 ((a : Int) - 1))).bind fun an=>(idx l.toList (p : Int)).bind fun al=>(q an al).bind fun av=>some (!(decide (av < 0)))) (some false)) = some (decide (a > 0) && !lt l[a - 1]! l[p]!):=by
      by_cases ha : a > 0
      · have ta : decide ((a : Int) > 0) = true:=Q7 q6;have w : w64 ((a : Int) - 1) = ((a - 1 : Nat) : Int):=by rw [Qk q6];omega
        obtain ⟨r,h1,h2⟩:=hq l[a - 1]! l[p]! (u.2.2 _ q6) (u.2.2 _ q6);simp only [ta,qy,w,gx (d:=l) (k:=a - 1) q6,gx (d:=l) (k:=p) q6,qj,h1,h2,Q7 ha,Bool.true_and]
      · have ta : decide ((a : Int) > 0) = false:=Q6 q6;simp only [ta,qx,Q6 ha,Bool.false_and]
    simp only [bj,qj] at head;by_cases hc : (decide (a > 0) && !lt l[a - 1]! l[p]!) = true
    ·
      rw [hc] at head;have s:=qus hq hb (by omega : a < b) (by omega : p < n) u;simp only [Bool.and_eq_true,decide_eq_true_eq,Bool.not_eq_true'] at hc
      cases hx : Sort.partitionEqual lt l a b p with
      | mk j d4=>
        obtain ⟨g1,g2,cg,cm,ad⟩:=Sort.round_eq hS (Sort.partitionEqual_holds lt) hc.1 hp1 hp2 (by rw [ax];exact hb) B3 hc.2 hx
        have bw : ∀ i,a≤i→i < b→lt l[i]! l[p]! = false:=fun i hi cq=>by
          rcases B3 with h0 | hB
          · omega
          · exact hS.ntrans _ _ _ (hB i hi cq) hc.2
        obtain ⟨_,_,v,_,_⟩:=Sort.partitionEqual_holds lt hS l a b p hp1 hp2 (by rw [ax];exact hb) bw;rw [hx] at v s;have aa:=u.perm o hb v;simp only [qy,s,qj,Uf u aa] at head;rw [Y5 head];rcases ih (b - j) q6 j b l1 wb wp d4 rfl aa g2 hb aq cm with ⟨R,r0,r1,r2⟩ | ⟨r1,r2⟩
        · obtain ⟨q1,q2⟩:=ad _ r1 r2;exact .inl ⟨R,r0,Sort.permIn_trans _ _ _ a b P3 q1,q2⟩
        · exact .inr ⟨q6,r2⟩
    ·
      have hc : (decide (a > 0) && !lt l[a - 1]! l[p]!) = false:=by simpa using hc
      rw [hc] at head;have s:=qut hq hb (by omega : a < b) (by omega : p < n) u
      cases hx : Sort.partition lt l a b p with
      | mk j r=>
      cases r with
      | mk ap d4=>
        obtain ⟨g1,g2,cg,co,bz,bg,ay⟩:=Sort.round_part hS (Sort.partition_holds lt) hp1 hp2 (by rw [ax];exact hb) B3 hx;obtain ⟨_,_,v,_,_⟩:=Sort.partition_holds lt hS l a b p hp1 hp2 (by rw [ax];exact hb);rw [hx] at v s;have aa:=u.perm o hb v;have w1 : w64 ((j : Int) - (a : Int)) = ((j - a : Nat) : Int):=wsub g1 q6;have w2 : w64 ((b : Int) - (j : Int)) = ((b - j : Nat) : Int):=wsub q6 q6;simp only [qx,s,qj,Uf u aa,w1,w2,w1p j q6] at head;by_cases dq : j - a < b - j
        · have tl : decide (((j - a : Nat) : Int) < ((b - j : Nat) : Int)) = true:=Q7 q6;simp only [tl,qy] at head;rcases ar a j l1 d4 aa g1 q6 aq co with ⟨L,e,am,bh⟩ | ⟨r1,r2⟩
          · have ao:=aa.perm g1 q6 am;obtain ⟨bi,ad⟩:=bg _ am bh;simp only [e,qj,Uf aa ao] at head;rw [Y5 head];rcases ih (b - (j + 1)) q6 (j + 1) b l1 _ _ L rfl ao q6 hb aq bi with ⟨R,r0,r1,r2⟩ | ⟨r1,r2⟩
            · obtain ⟨q1,q2⟩:=ad _ r1 r2;exact .inl ⟨R,r0,Sort.permIn_trans _ _ _ a b P3 q1,q2⟩
            · exact .inr ⟨q6,r2⟩
          · simp only [r2,Option.bind_none] at head;exact .inr ⟨q6,qky head⟩
        · have tl : decide (((j - a : Nat) : Int) < ((b - j : Nat) : Int)) = false:=Q6 q6;simp only [tl,qx] at head;rcases ar (j + 1) b l1 d4 aa q6 hb aq bz with ⟨L,e,am,bh⟩ | ⟨r1,r2⟩
          · have ao:=aa.perm (by omega : j + 1≤b) hb am;obtain ⟨bi,ad⟩:=ay _ am bh;simp only [e,qj,Uf aa ao] at head;rw [Y5 head];rcases ih (j - a) q6 a j l1 _ _ L rfl ao g1 q6 aq bi with ⟨R,r0,r1,r2⟩ | ⟨r1,r2⟩
            · obtain ⟨q1,q2⟩:=ad _ r1 r2;exact .inl ⟨R,r0,Sort.permIn_trans _ _ _ a b P3 q1,q2⟩
            · exact .inr ⟨q6,r2⟩
          · simp only [r2,Option.bind_none] at head;exact .inr ⟨q6,qky head⟩
theorem qlv (g : Kz q lt P) (f : Sort.SWO lt) {n : Nat} : ∀ (N a b c : Nat) (d : Array T),AllP n P d→a≤b→b≤n→c≤1000→Sort.Below lt a b d→
    Srt lt a b d (Zi N q d.toList (a : Int) (b : Int) (c : Int))∨(N≤b - a∧Zi N q d.toList (a : Int) (b : Int) (c : Int) = none)
  | 0,a,b,c,d,_,_,_,_,_=>.inr ⟨q6,rfl⟩
  | N + 1,a,b,c,d,hd,hab,hb,hl,hB=>by
    have h:=quu g f (N:=N) (Zi N q) (fun a b c d m o k j l=>qlv g f N a b c d m o k j l) _ a b c true true d rfl hd hab hb hl hB
    have e : Zi (N + 1) q d.toList (a : Int) (b : Int) (c : Int) = loop (Zr q (Zi N q)) ((a : Int),(b : Int),(c : Int),true,true,d.toList):=by
      show Ut (Zi N q) q d.toList (a : Int) (b : Int) (c : Int) = _;unfold Ut;cases loop (Zr q (Zi N q)) ((a : Int),(b : Int),(c : Int),true,true,d.toList) <;> rfl
    rw [e]
    exact h
theorem qnu (z : Kz q lt P) (w : Sort.SWO lt) (xs : List T) (o : xs.length≤1000000) (u : ∀ x∈xs,P x) :
    ∃ ys,q2d q xs = some ys∧ys.Perm xs∧ys.Pairwise (fun x y=>lt y x = false):=by
  have hd : AllP xs.length P xs.toArray:=by
    refine ⟨qf,o,fun i hi=>?_⟩;have : xs.toArray[i]! = xs[i]:=by simp [hi]
    rw [this];exact u _ (Ki hi)
  have hk : Sort.bitsLen xs.length≤20:=(Sort.bitsLen_le_iff _ 20).2 q6;have c : ∀ N,_:=fun N=>qlv z w N 0 xs.length (Sort.bitsLen xs.length) xs.toArray hd q6 q6 q6 (.inl rfl);have t:=c (xs.length + 1);rcases t with ⟨d',e,_,_⟩ | ⟨h,_⟩
  · obtain ⟨r,n⟩:=qsg (f:=fun N=>Zi N q xs 0 (xs.length : Int) ((Sort.bitsLen xs.length : Nat) : Int)) e;obtain ⟨N,g⟩:=qfu n;have g : Zi N q xs 0 (xs.length : Int) ((Sort.bitsLen xs.length : Nat) : Int) = some r:=g;rcases c N with ⟨a,b,x,y⟩ | ⟨_,b⟩
    · have b : Zi N q xs 0 (xs.length : Int) ((Sort.bitsLen xs.length : Nat) : Int) = some a.toList:=b;rw [g] at b;obtain rfl : r = a.toList:=qe6 b;have d : a.size = xs.length:=by rw [x.1];simp
      refine ⟨a.toList,?_,?_,?_⟩
      · unfold q2d;rw [q27,show ((xs.length : Int) % 18446744073709551616) = (xs.length : Int) by omega,qkv _ o];simp only [qj,n];unfold K3;rw [qq (by simp [d])];rfl
      · have:=x.2.2;have p : a.extract 0 xs.length = a:=by rw [← d];simp
        have v : xs.toArray.extract 0 xs.length = xs.toArray:=by simp
        rw [p,v] at this;exact this
      · rw [List.pairwise_iff_getElem];intro i j hi s k;have l : i < a.size:=by simpa using hi
        have m : j < a.size:=by simpa using s
        have:=y i j q6 k q6;rw [getElem!_pos a i l,getElem!_pos a j m] at this;simpa using this
    · have b : Zi N q xs 0 (xs.length : Int) ((Sort.bitsLen xs.length : Nat) : Int) = none:=b;rw [g] at b;cases b
  · omega
end
end Go.Sh
namespace Go.Sh
open Go Go.Am
theorem qxr : qdz = q5c:=rfl
theorem qws : q2p = q3k:=by
  funext p0;simp only [q2p,q3k,qxr]
  all_goals exact K1
theorem qn1 : Uw = q1d:=by
  funext p0;simp only [Uw,q1d,qws]
  all_goals exact K1
theorem qx2 : qab = U8:=by
  funext p1 q1 a459;simp only [qab,U8]
  all_goals exact K1
theorem qx1 : qaa = q1h:=by
  funext p2 p1 q1 a278;simp only [qaa,q1h,qx2]
  all_goals exact K1
theorem qx0 : qa9 = q2g:=by
  funext q1 p0 p1 p2;simp only [qa9,q2g,qx1]
  all_goals exact K1
theorem qxq : qat = Ub:=by
  funext p2 p3 q1 a197;simp only [qat,Ub]
  all_goals exact K1
theorem qn3 : q7r = Uu:=by
  funext q1 p0 p1 p2 p3;simp only [q7r,Uu,qxq]
  all_goals exact K1
theorem qwy : qa7 = q1f:=by
  funext q1 p2 p1 a123;simp only [qa7,q1f,qn3]
  all_goals exact K1
theorem qwz : qa8 = q1g:=by
  funext p1 q1 a191;simp only [qa8,q1g,qn3]
  all_goals exact K1
theorem qwx : qa6 = q2f:=by
  funext q1 p0 p1 p2;simp only [qa6,q2f,qwy,qwz]
  all_goals exact K1
theorem qx4 : q1y = q2h:=by
  funext p0;simp only [q1y,q2h,qn1]
  all_goals exact K1
theorem qxs : q1z = q2l:=by
  funext p0;simp only [q1z,q2l]
  all_goals exact K1
theorem qwv : qa4 = Ul:=by
  funext p1 p2 r101 a153;simp only [qa4,Ul,qxs]
  all_goals exact K1
theorem qwu : qa3 = q1e:=by
  funext q1 p0 p1 p2;simp only [qa3,q1e,qx4,qwv]
  all_goals exact K1
theorem qx5 : q4j = Un:=by
  funext q1 p0 p1 p2 p3;simp only [q4j,Un]
  all_goals exact K1
theorem qn2 : q77 = Um:=by
  funext q1 p0 p1 p2 p3 p4;simp only [q77,Um,qx5]
  all_goals exact K1
theorem qx3 : q4h = U9:=by
  funext q1 p0 p1 p2;simp only [q4h,U9,qn2]
  all_goals exact K1
theorem qww : qa5 = q2e:=by
  funext p0 p1 p2 p3;simp only [qa5,q2e,qn2,qx3]
  all_goals exact K1
theorem qxp : qar = q2k:=by
  funext a119;simp only [qar,q2k]
  all_goals exact K1
theorem qxo : qaq = q1m:=by
  funext q1 p0 p1 p2;simp only [qaq,q1m,qxp]
  all_goals exact K1
theorem qx8 : qac = Uo:=by
  funext p2 a438 q1 a681;simp only [qac,Uo]
  all_goals exact K1
theorem qx9 : qad = Up:=by
  funext q1 a838;simp only [qad,Up]
  all_goals exact K1
theorem qxa : qae = Uq:=by
  funext p2 q1 b684 a928;simp only [qae,Uq]
  all_goals exact K1
theorem qx7 : q79 = J0:=by
  funext p2 q1 p1 a438;have a : @q79.match_1.{1} = @J0.match_1.{1} qo:=by funext motive m f g;cases m <;> rfl
  unfold q79 J0;rw [a];simp only [qx8,qx9,qxa]
theorem qx6 : q78 = Ua:=by
  funext q1 p0 p1 p2;have a : @q78.match_1.{1} = @Ua.match_1.{1} qo:=by funext motive m f g;cases m <;> rfl
  unfold q78 Ua;rw [a];simp only [qx7]
theorem qxe : qao = Ur:=by
  funext a318 p1 q1 a378;simp only [qao,Ur]
  all_goals exact K1
theorem qxf : qap = Us:=by
  funext b381 a318 p1 q1 a463;simp only [qap,Us]
  all_goals exact K1
theorem qxd : qan = q1k:=by
  funext p1 q1 a318;simp only [qan,q1k,qxe,qxf]
  all_goals exact K1
theorem qxc : qam = q1j:=by
  funext q1 p0 p1 p2 p3;simp only [qam,q1j,qxd]
  all_goals exact K1
theorem qxg : qah = q2i:=by
  funext p2 p0 p1 v101 p3 v103 q1 a163;simp only [qah,q2i]
  all_goals exact K1
theorem qxh : qai = q2j:=by
  funext b166 p0 p1 v101 p3 v103 q1 a249;simp only [qai,q2j]
  all_goals exact K1
theorem qxj : qak = J9:=by
  funext a514 p1 q1 a572;simp only [qak,J9]
  all_goals exact K1
theorem qxk : qal = Ja:=by
  funext b575 a514 p1 q1 a658;simp only [qal,Ja]
  all_goals exact K1
theorem qxi : qaj = q1l:=by
  funext p1 q1 a514;simp only [qaj,q1l,qxj,qxk]
  all_goals exact K1
theorem qxb : qag = q1i:=by
  funext q1 p0 p1 p2 p3;simp only [qag,q1i,qxg,qxh,qxi]
  all_goals exact K1
theorem qxm : q7n = Zr:=by
  funext q1 rec a309;have a : @q7n.match_1.{1} = @Zr.match_1.{1} qo:=by funext motive m f g;cases m <;> rfl
  unfold q7n Zr;rw [a];simp only [qx0,qwx,qwu,qww,qxo,qx6,qxc,qxb]
theorem qxn : q7o = Ut:=by
  funext rec q1 p0 p1 p2 p3;simp only [q7o,Ut,qxm]
  all_goals exact K1
theorem qxl : ∀ N q,q7m N q = Zi N q:=by
  intro N q
  induction N with
  | zero=>rfl
  | succ N ih=>
    funext a b c d;show q7o (q7m N q) q a b c d = Ut (Zi N q) q a b c d;rw [ih,qxn]
theorem qwt : q6x = q2d:=by
  funext q1 p0;simp only [q6x,q2d,qn1,qxl]
  all_goals exact K1
end Go.Sh
namespace Go.Sh
open Go Go.Am
instance : Inhabited qo:=⟨⟨0,0,0⟩⟩
theorem q11e (q : qo→qo→Option Int) (xs : List qo) : q6x q xs = q2d q xs:=by rw [qwt]
def evs (s : List ql) (l : Int) : List qo:=s.flatMap fun t=>[{at_:=t.Lo,list_:=l,by_:=1},{at_:=t.Hi,list_:=l,by_:=-1}]
theorem q8y (s : List ql) (l : Int) : (evs s l).length = 2 * s.length:=by
  induction s with
  | nil=>rfl
  | cons t s ih=>simp only [evs,List.flatMap_cons,List.length_append,List.length_cons,List.length_nil] at ih ⊢;omega
theorem qcm {s : List ql} {l : Int} {e : qo} (h : e∈evs s l) : e.list_ = l∧(e.by_ = 1∨e.by_ = -1)∧∃ t∈s,e.at_ = t.Lo∨e.at_ = t.Hi:=by
  simp only [evs,List.mem_flatMap] at h;obtain ⟨t,a,h⟩:=h;simp only [List.mem_cons,List.not_mem_nil,or_false] at h;rcases h with rfl | rfl
  · exact ⟨rfl,.inl rfl,t,a,.inl rfl⟩
  · exact ⟨rfl,.inr rfl,t,a,.inr rfl⟩
theorem qjb (s : List ql) (l : Int) (y : List qo) (hs : s.length≤1000) (base : List qo) (hb : base.length≤10000) :
    loop (q4s s (l,y)) (0,base) = some (base ++ evs s l):=by
  have:=J2 (f:=q4s s (l,y)) (σ:=List qo) (fun k c=>((k : Int),c)) s.length (fun k c=>c = base ++ evs (s.take k) l) (fun t=>t = base ++ evs s l) ?_ ?_ (k0:=0) (c0:=base) q6 (by simp [evs])
  · obtain ⟨b,h,rfl⟩:=this;exact h
  · rintro k c d rfl;have a : decide ((k : Int) < (s.length : Int)) = true:=Q7 q6;refine .inl ⟨base ++ evs (s.take (k + 1)) l,?_,rfl⟩;have g : (evs (s.take k) l).length≤2000:=by rw [q8y,List.length_take];omega
    simp only [q4s,a,qy,Qs d,qj];rw [Y4 (by rw [List.length_append];simp only [List.length_cons,List.length_nil];omega),qj,Qk q6,List.take_succ_eq_append_getElem d,List.append_assoc];have : evs (s.take k ++ [s[k]]) l = evs (s.take k) l ++ [{at_:=s[k].Lo,list_:=l,by_:=1},{at_:=s[k].Hi,list_:=l,by_:=-1}]:=by simp only [evs,List.flatMap_append,List.flatMap_cons,List.flatMap_nil,List.append_nil]
    rw [this];rfl
  · rintro c rfl;have a : decide ((s.length : Int) < (s.length : Int)) = false:=Q6 q6;exact ⟨_,by simp only [q4s,a,qx];rfl,by rw [List.take_length]⟩
def ltE (a b : qo) : Bool:=decide (a.at_ < b.at_)
def inE (e : qo) : Prop:=-1000000≤e.at_∧e.at_≤1000000
theorem swoE : Sort.SWO ltE where
  irrefl:=by intro x;simp [ltE]
  trans:=by intro x y z;simp only [ltE,decide_eq_true_eq];omega
  ntrans:=by intro x y z;simp only [ltE,decide_eq_false_iff_not];omega
theorem cmpE : Kz (fun a b=>qb1 a b) ltE inE:=by
  rintro x y ⟨d,f⟩ ⟨c,g⟩;refine ⟨x.at_ - y.at_,?_,?_⟩
  · show some (w64 (x.at_ - y.at_)) = _;rw [Qk q6]
  · unfold ltE;exact decide_eq_decide.2 q6
theorem q11d (p q : List ql) (hp : p.length≤500) (v : q.length≤500) (m : ∀ t∈p,vld t) (n : ∀ t∈q,vld t) :
    ∃ ys,qb2 [p,q] = some ([p,q],ys)∧ys.Perm (evs p 0 ++ evs q 1)∧ys.Pairwise (fun x y=>x.at_≤y.at_):=by
  have u : ∀ x∈evs p 0 ++ evs q 1,inE x:=by
    intro x s;rcases List.mem_append.1 s with h | h
    · obtain ⟨_,_,t,g,h⟩:=qcm h;obtain ⟨a,b,c⟩:=m t g;unfold inE;rcases h with h | h <;> omega
    · obtain ⟨_,_,t,g,h⟩:=qcm h;obtain ⟨a,b,c⟩:=n t g;unfold inE;rcases h with h | h <;> omega
  have z:=q8y p 0;have w:=q8y q 1;obtain ⟨ys,o,j,l⟩:=qnu cmpE swoE (evs p 0 ++ evs q 1) (by rw [List.length_append];omega) u;refine ⟨ys,?_,j,l.imp (fun {x y} h=>by simp only [ltE,decide_eq_false_iff_not] at h;omega)⟩
  have d : loop (q12 [p,q]) (0,[]) = some (evs p 0 ++ evs q 1):=by
    have s0 : q12 [p,q] (0,[]) = some (.inl (1,evs p 0)):=by
      have t : decide ((0 : Int) < (([p,q] : List (List ql)).length : Int)) = true:=rfl;simp only [q12,t,qy];have : idx [p,q] 0 = some p:=rfl;rw [this];simp only [qj,qjb p 0 [] q6 [] qf,List.nil_append];rfl
    have r : q12 [p,q] (1,evs p 0) = some (.inl (2,evs p 0 ++ evs q 1)):=by
      have t : decide ((1 : Int) < (([p,q] : List (List ql)).length : Int)) = true:=rfl;simp only [q12,t,qy];have : idx [p,q] 1 = some q:=rfl;rw [this];simp only [qj,qjb q 1 (evs p 0) q6 (evs p 0) q6];rfl
    have k : q12 [p,q] (2,evs p 0 ++ evs q 1) = some (.inr (evs p 0 ++ evs q 1)):=by
      have t : decide ((2 : Int) < (([p,q] : List (List ql)).length : Int)) = false:=rfl;simp only [q12,t,qx]
    rw [Y5 s0,Y5 r,Kj k]
  unfold qb2;rw [d];simp only [qj,q11e,o];have le : K3 ys.length (evs p 0 ++ evs q 1).length = some ():=by unfold K3;rw [qq j.length_eq]
  have f : K3 ys.length ys.length = some ():=by unfold K3;rw [qq rfl]
  simp only [le,qj,qdq,f]
def cnt (l : Int) (c : Int→Bool) : List qo→Int
  | []=>0
  | e::es=>(if e.list_ = l∧c e.at_ = true then e.by_ else 0) + cnt l c es
theorem q2b (l : Int) (c : Int→Bool) (a b : List qo) : cnt l c (a ++ b) = cnt l c a + cnt l c b:=by
  induction a with
  | nil=>simp [cnt]
  | cons e a ih=>simp only [List.cons_append,cnt,ih];omega
theorem qix {l : Int} {c : Int→Bool} {a b : List qo} (h : a.Perm b) : cnt l c a = cnt l c b:=by
  induction h with
  | nil=>rfl
  | cons x _ ih=>simp only [cnt,ih]
  | swap x y l=>simp only [cnt];omega
  | trans _ _ ih1 ih2=>rw [ih1,ih2]
theorem qiu {l : Int} {c b : Int→Bool} : ∀ {a : List qo},(∀ e∈a,c e.at_ = b e.at_)→cnt l c a = cnt l b a
  | [],_=>rfl
  | e::a,h=>by simp only [cnt,h e qf,qiu (fun e d=>h e (List.mem_cons_of_mem _ d))]
theorem qiw {l : Int} {c : Int→Bool} : ∀ {a : List qo},(∀ e∈a,c e.at_ = false)→cnt l c a = 0
  | [],_=>rfl
  | e::a,h=>by
    simp only [cnt,qiw (fun e b=>h e (List.mem_cons_of_mem _ b)),h e qf]
    simp
theorem q8n {s : List ql} {l l' : Int} {c : Int→Bool} (h : l≠l') : cnt l c (evs s l') = 0:=by
  induction s with
  | nil=>rfl
  | cons t s ih=>
    have : evs (t::s) l' = [{at_:=t.Lo,list_:=l',by_:=1},{at_:=t.Hi,list_:=l',by_:=-1}] ++ evs s l':=rfl;rw [this,q2b,ih];have a : ¬ l' = l:=fun e=>h e.symm;simp [cnt,a]
theorem qiv {s : List ql} {l : Int} (v : ∀ t∈s,vld t) (x : Int) : 0≤cnt l (fun a=>decide (a≤x)) (evs s l)∧(0 < cnt l (fun a=>decide (a≤x)) (evs s l)↔has s x):=by
  induction s with
  | nil=>exact ⟨Int.le_refl 0,by simp [evs,cnt,has]⟩
  | cons t s ih=>
    obtain ⟨g,b⟩:=ih (fun t d=>v t (List.mem_cons_of_mem _ d));have c:=v t qf;have : evs (t::s) l = [{at_:=t.Lo,list_:=l,by_:=1},{at_:=t.Hi,list_:=l,by_:=-1}] ++ evs s l:=rfl;rw [this,q2b,Zu,← b];obtain ⟨f,j,h⟩:=c;simp only [cnt,true_and,decide_eq_true_eq];split <;> split <;> omega
theorem qiy {s : List ql} {l : Int} : cnt l (fun _=>true) (evs s l) = 0:=by
  induction s with
  | nil=>rfl
  | cons t s ih=>
    have : evs (t::s) l = [{at_:=t.Lo,list_:=l,by_:=1},{at_:=t.Hi,list_:=l,by_:=-1}] ++ evs s l:=rfl;rw [this,q2b,ih];simp [cnt]
theorem qf1 {l : Int} {c : Int→Bool} : ∀ {a : List qo},(∀ e∈a,e.by_ = 1∨e.by_ = -1)→-(a.length : Int)≤cnt l c a∧cnt l c a≤(a.length : Int)
  | [],_=>by simp [cnt]
  | e::a,h=>by
    obtain ⟨d,f⟩:=qf1 (l:=l) (c:=c) (fun e b=>h e (List.mem_cons_of_mem _ b))
    have:=h e qf
    simp only [cnt,List.length_cons]
    split <;> omega
end Go.Sh
namespace Go.Sh
open Go Go.Am
theorem qqb (at_ a : Int) (inn : Bool) (out : List ql) (h : out.length≤10000) :
    qb3 at_ inn a out = some (inn,a,if inn = true∧a≠at_ then addS out a at_ else out):=by
  unfold qb3
  cases inn with
  | false=>rfl
  | true=>
    by_cases c : a = at_
    · simp [c]
    · have hb : (a == at_) = false:=by simpa using c
      simp only [Bool.not_true,qx,qj,hb];rw [qq ⟨trivial,c⟩];rcases qdr out with rfl | ⟨d,t,rfl⟩
      · rfl
      · have l : (d ++ [t]).length = d.length + 1:=by simp
        have j : decide (((d ++ [t]).length : Int) > 0) = true:=Q7 q6;have k : w64 (((d ++ [t]).length : Int) - 1) = (d.length : Int):=by rw [Qk q6];omega
        have g : idx (d ++ [t]) (d.length : Int) = some t:=by
          rw [Qs q6];simp
        simp only [j,qy,k,g,qj];by_cases f : t.Hi = a
        · subst f;simp only [beq_self_eq_true,qy,qbr,Int.toNat_natCast,qn5]
        · have b : (t.Hi == a) = false:=by simpa using f
          simp only [b,qx,qbs f];rw [Y4 (by simp;omega)];rfl
open Classical in
structure qor (f : Bool→Bool→Bool) (p q : List ql) (ys : List qo) (k : Nat) (c : List Int × Int × Bool × List ql) : Prop where
  opn : c.1 = [cnt 0 (fun _=>true) (ys.take k),cnt 1 (fun _=>true) (ys.take k)]
  inn : c.2.2.1 = f (decide (0 < cnt 0 (fun _=>true) (ys.take k))) (decide (0 < cnt 1 (fun _=>true) (ys.take k)))
  lst : ∀ (h : k - 1 < ys.length),0 < k→c.2.1 = ys[k - 1].at_
  can : Can c.2.2.2
  his : ∀ t∈c.2.2.2,t.Hi≤c.2.1
  zro : k = 0→c.2.2.2 = []
  pts : ∀ x,has c.2.2.2 x↔0 < k∧x < c.2.1∧f (decide (has p x)) (decide (has q x)) = true
  len : c.2.2.2.length≤k
theorem qot (c : List ql) (a b : Int) : (addS c a b).length≤c.length + 1:=by
  rcases qdr c with rfl | ⟨d,t,rfl⟩
  · simp [qhu]
  · by_cases h : t.Hi = a
    · subst h;rw [qbr];simp
    · rw [qbs h];simp
theorem qit {p q : List ql} {ys : List qo} (hp : ∀ t∈p,vld t) (f : ∀ t∈q,vld t) (b : ys.Perm (evs p 0 ++ evs q 1)) (hs : ys.Pairwise (fun x y=>x.at_≤y.at_)) (k : Nat) (x : Int)
    (m : ∀ i (h : i < ys.length),i < k→ys[i].at_≤x) (o : ∀ i (h : i < ys.length),k≤i→x < ys[i].at_) :
    (0 < cnt 0 (fun _=>true) (ys.take k)↔has p x)∧(0 < cnt 1 (fun _=>true) (ys.take k)↔has q x):=by
  have key : ∀ l,cnt l (fun _=>true) (ys.take k) = cnt l (fun a=>decide (a≤x)) (evs p 0) + cnt l (fun a=>decide (a≤x)) (evs q 1):=by
    intro l;rw [← q2b,← qix b]
    conv=>rhs;rw [← List.take_append_drop k ys]
    rw [q2b]
    have d : cnt l (fun a=>decide (a≤x)) (ys.drop k) = 0:=by
      refine qiw fun e c=>?_;obtain ⟨i,hi,rfl⟩:=List.mem_iff_getElem.1 c;rw [List.getElem_drop];rw [List.length_drop] at hi;have:=o (k + i) q6 q6;exact Q6 q6
    have g : cnt l (fun a=>decide (a≤x)) (ys.take k) = cnt l (fun _=>true) (ys.take k):=by
      refine qiu fun e c=>?_;obtain ⟨i,hi,rfl⟩:=List.mem_iff_getElem.1 c;rw [List.getElem_take];rw [List.length_take] at hi;exact Q7 (m i q6 q6)
    rw [d,g];omega
  rw [key 0,key 1,q8n (l:=0) (l':=1) Q2,q8n (l:=1) (l':=0) Q2];have n:=qiv (l:=0) hp x;have j:=qiv (l:=1) f x;rw [Int.add_zero,Int.zero_add];exact ⟨n.2,j.2⟩
open Classical in
theorem qki (f : Bool→Bool→Bool) (hf : f false false = false) (p2 : Bool→Bool→Option Bool) (hp2 : ∀ a b,p2 a b = some (f a b)) (p q : List ql)
    (hp : p.length≤500) (hq : q.length≤500) (vp : ∀ t∈p,vld t) (vq : ∀ t∈q,vld t) :
    ∃ out,q37 p q p2 = some out∧Can out∧∀ x,has out x↔f (decide (has p x)) (decide (has q x)) = true:=by
  obtain ⟨ys,e1,g,hs⟩:=q11d p q hp hq vp vq;have bg : ys.length≤2000:=by rw [g.length_eq,List.length_append,q8y,q8y];omega
  have w : ∀ i j (hi : i < ys.length) (hj : j < ys.length),i≤j→ys[i].at_≤ys[j].at_:=by
    intro i j hi hj bo;rcases Nat.lt_or_ge i j with h | h
    · exact List.pairwise_iff_getElem.1 hs i j hi hj h
    · obtain rfl : i = j:=by omega
      exact Int.le_refl _
  have z : ∀ e∈ys,(e.list_ = 0∨e.list_ = 1)∧(e.by_ = 1∨e.by_ = -1):=by
    intro e he;rcases List.mem_append.1 (g.mem_iff.1 he) with h | h
    · obtain ⟨a,b,_⟩:=qcm h;exact ⟨.inl a,b⟩
    · obtain ⟨a,b,_⟩:=qcm h;exact ⟨.inr a,b⟩
  have:=J2 (f:=q4t ([p,q],ys) p2) (σ:=List Int × Int × Bool × List ql) (fun k c=>((k : Int),c)) ys.length (qor f p q ys) (fun out=>Can out∧∀ x,has out x↔f (decide (has p x)) (decide (has q x)) = true) ?_ ?_ (k0:=0) (c0:=([0,0],0,false,[])) q6 ?_
  · obtain ⟨out,r,m⟩:=this;refine ⟨out,?_,m⟩;unfold q37;have r : loop (q4t ([p,q],ys) p2) (0,[0,0],0,false,[]) = some out:=r;rw [e1];simp only [qj,r];rfl
  · rintro k ⟨opn,d,inn,out⟩ hk ⟨s1,s2,s3,s4,s5,s6,s7,s8⟩;simp only at s1 s2 s3 s4 s5 s6 s7 s8;have ab : decide ((k : Int) < (ys.length : Int)) = true:=Q7 q6;have az:=qqb ys[k].at_ d inn out q6;have hm:=z ys[k] (Ki hk);have aw : ys.take (k + 1) = ys.take k ++ [ys[k]]:=List.take_succ_eq_append_getElem hk;have an : ∀ e∈ys.take k,e.by_ = 1∨e.by_ = -1:=fun e he=>(z e (List.mem_of_mem_take he)).2;have b0:=qf1 (l:=0) (c:=fun _=>true) an;have b1:=qf1 (l:=1) (c:=fun _=>true) an;have be : (ys.take k).length = k:=by rw [List.length_take];omega
    rw [be] at b0 b1
    have ad : ∃ v,idxA 2 opn ys[k].list_ = some v∧opn.set ys[k].list_.toNat (w64 (v + ys[k].by_)) = [cnt 0 (fun _=>true) (ys.take (k + 1)),cnt 1 (fun _=>true) (ys.take (k + 1))]:=by
      subst s1;rw [aw,q2b,q2b];rcases hm.1 with h | h
      · refine ⟨cnt 0 (fun _=>true) (ys.take k),by rw [h];rfl,?_⟩;rw [h,Qk q6];simp [cnt,h]
      · refine ⟨cnt 1 (fun _=>true) (ys.take k),by rw [h];rfl,?_⟩;rw [h,Qk q6];simp [cnt,h]
    obtain ⟨v,o1,o2⟩:=ad;refine .inl ⟨([cnt 0 (fun _=>true) (ys.take (k + 1)),cnt 1 (fun _=>true) (ys.take (k + 1))],ys[k].at_,f (decide (0 < cnt 0 (fun _=>true) (ys.take (k + 1)))) (decide (0 < cnt 1 (fun _=>true) (ys.take (k + 1)))),if inn = true∧d≠ys[k].at_ then addS out d ys[k].at_ else out),?_,?_⟩
    · have x0 : ∀ a b : Int,idxA 2 [a,b] 0 = some a:=fun a b=>rfl;have x1 : ∀ a b : Int,idxA 2 [a,b] 1 = some b:=fun a b=>rfl;simp only [q4t,ab,qy,Qs hk,qj,az,o1,o2,x0,x1,hp2,Bool.not_true,qx];rw [Qk q6];rfl
    · have ac : ∀ x,(0 < k→d≤x)→∀ i (h : i < ys.length),i < k→ys[i].at_≤x:=by
        intro x o i hi al;have:=s3 q6 q6;have:=w i (k - 1) hi q6 q6;have:=o q6;omega
      have ae : ∀ x,x < ys[k].at_→∀ i (h : i < ys.length),k≤i→x < ys[i].at_:=by
        intro x o i hi al;have:=w k i hk hi al;omega
      have hF : ∀ x,(0 < k→d≤x)→x < ys[k].at_→f (decide (has p x)) (decide (has q x)) = inn:=by
        intro x o ax;obtain ⟨c1,c2⟩:=qit vp vq g hs k x (ac x o) (ae x ax);rw [s2,decide_eq_decide.2 c1,decide_eq_decide.2 c2]
      have n : 0 < k→d≤ys[k].at_:=by
        intro u;rw [s3 q6 u];exact w (k - 1) k q6 hk q6
      have y : k = 0→inn = false:=by
        intro u;subst u;rw [s2];exact hf
      by_cases s : inn = true∧d≠ys[k].at_
      · have aj : 0 < k:=by
          rcases Nat.eq_zero_or_pos k with h | h
          · rw [y h] at s;cases s.1
          · exact h
        have hl:=n aj;have bd : d < ys[k].at_:=by have:=s.2;omega
        obtain ⟨d1,d2,d3,d4⟩:=qhv s4 s5 bd;constructor
        · rfl
        · rfl
        · intro h _;rfl
        · simp only [qq s];exact d1
        · simp only [qq s];exact d3
        · omega
        · intro x;simp only [qq s];rw [d2,s7];constructor
          · rintro (⟨u,r,m⟩ | ⟨r,m⟩)
            · exact ⟨q6,q6,m⟩
            · exact ⟨q6,m,by rw [hF x (fun _=>r) m];exact s.1⟩
          · rintro ⟨u,r,m⟩;by_cases o : x < d
            · exact .inl ⟨aj,o,m⟩
            · exact .inr ⟨q6,r⟩
        · simp only [qq s];have:=qot out d ys[k].at_;omega
      · constructor
        · rfl
        · rfl
        · intro h _;rfl
        · simp only [qp s];exact s4
        · simp only [qp s];intro t ht;rcases Nat.eq_zero_or_pos k with h | h
          · rw [s6 h] at ht;cases ht
          · have:=s5 t ht;have:=n h;omega
        · omega
        · intro x;simp only [qp s];rw [s7];constructor
          · rintro ⟨u,r,m⟩;exact ⟨q6,by have:=n u;omega,m⟩
          · rintro ⟨u,r,m⟩;by_cases o : 0 < k∧x < d
            · exact ⟨o.1,o.2,m⟩
            · have ak : 0 < k→d≤x:=fun h=>by
                refine Int.not_lt.1 fun h'=>o ⟨h,h'⟩
              have:=hF x ak r;rw [this] at m;refine absurd ⟨m,?_⟩ s;intro e;rcases Nat.eq_zero_or_pos k with h | h
              · rw [y h] at m;cases m
              · have:=ak h;omega
        · simp only [qp s];omega
  · rintro ⟨opn,d,inn,out⟩ ⟨s1,s2,s3,s4,s5,s6,s7,s8⟩;simp only at s1 s2 s3 s4 s5 s6 s7 s8;have ab : decide ((ys.length : Int) < (ys.length : Int)) = false:=Q6 q6;refine ⟨out,by simp only [q4t,ab,qx],s4,fun x=>?_⟩;rw [s7];constructor
    · rintro ⟨_,_,h⟩;exact h
    · intro h;by_cases o : 0 < ys.length∧x < d
      · exact ⟨o.1,o.2,h⟩
      · obtain ⟨c1, c2⟩ := qit vp vq g hs ys.length x (fun i hi _ => by
            have:=s3 q6 q6;have:=w i (ys.length - 1) hi q6 q6;have : d≤x:=Int.not_lt.1 fun h'=>o ⟨q6,h'⟩
            omega) (fun i hi bv=>q6)
        have av : ∀ l,cnt l (fun _=>true) (ys.take ys.length) = 0:=by
          intro l;rw [List.take_length,qix g,q2b];by_cases u : l = 0
          · subst u;rw [qiy,q8n Q2];rfl
          · rw [q8n u];by_cases r : l = 1
            · subst r;rw [qiy];rfl
            · rw [q8n r];rfl
        rw [av] at c1 c2;have n1 : ¬ has p x:=fun h=>absurd (c1.2 h) Q2;have n2 : ¬ has q x:=fun h=>absurd (c2.2 h) Q2;rw [Q6 n1,Q6 n2,hf] at h;cases h
  · constructor
    · simp [cnt]
    · simp [cnt,hf]
    · intro h u;omega
    · exact ⟨fun t ht=>(by cases ht),.nil⟩
    · intro t ht;cases ht
    · intro _;rfl
    · intro x;simp [has]
    · simp
end Go.Sh
namespace Go.Sh
open Go Go.Am
theorem qev {s : List ql} (h : Yr s = 0) : s.length≤400∧Good s:=by
  unfold Yr at h;split at h
  · cases h
  · split at h
    · rename_i b a;exact ⟨q6,a⟩
    · cases h
def dst (x : Int) (t : ql) : Int:=max (max (t.Lo - x) (x - t.Hi + 1)) 0
end Go.Sh
namespace Go.Sh
open Go Go.Am
noncomputable def Jb (kind : Int) (p q : List ql) : List ql:=(qcv kind p q).getD []
theorem q5g (kind : Int) (p q : List ql) (hp : p.length≤100000) (a : q.length≤100000) : qcv kind p q = some (Jb kind p q)∧qeb kind p q (Jb kind p q):=by
  obtain ⟨out,b,c⟩:=qsd kind p q hp a;unfold Jb;rw [b];exact ⟨rfl,c⟩
noncomputable def opS (kind : Int) (p q : List ql) : List ql × Int:=
  if Yr p≠0 then ([],Yr p) else if Yr q≠0 then ([],Yr q) else if 400 < (Jb kind p q).length then ([],4) else (Jb kind p q,0)
open Classical in
theorem qs7 (kind : Int) (f : Bool→Bool→Bool) (c : f false false = false) (l : ∀ a b : Prop,(f (decide a) (decide b) = true↔Ky kind a b)) (p2 : Bool→Bool→Option Bool) (hp2 : ∀ a b,p2 a b = some (f a b))
    (p q : List ql) (hp : p.length≤500) (n : q.length≤500) (g : ∀ t∈p,vld t) (h : ∀ t∈q,vld t) : q37 p q p2 = some (Jb kind p q):=by
  obtain ⟨out,k,m,d⟩:=qki f c p2 hp2 p q hp n g h;obtain ⟨_,j⟩:=q5g kind p q q6 q6;rw [k];congr 1;refine q54 m j.can fun x=>?_;rw [d,j.pts,l]
open Classical in
theorem qq6 (kind : Int) (f : Bool→Bool→Bool) (j : f false false = false) (n : ∀ a b : Prop,(f (decide a) (decide b) = true↔Ky kind a b)) (p2 : Bool→Bool→Option Bool) (hp2 : ∀ a b,p2 a b = some (f a b))
    (p q : List ql) : qb0 p q p2 = some (opS kind p q):=by
  unfold qb0 opS;simp only [qew,qj];by_cases c : Yr p = 0
  · have k : (Yr p != 0) = false:=by simpa using c
    simp only [k,qx];simp only [c,ne_eq,not_true_eq_false,if_false];by_cases d : Yr q = 0
    · have g : (Yr q != 0) = false:=by simpa using d
      obtain ⟨s,o⟩:=qev c;obtain ⟨r,m⟩:=qev d;simp only [g,qx,d,not_true_eq_false,if_false,qs7 kind f j n p2 hp2 p q q6 q6 o.1 m.1,qj];by_cases l : 400 < (Jb kind p q).length
      · have h : decide (((Jb kind p q).length : Int) > 400) = true:=Q7 q6;rw [h,qq l];rfl
      · have h : decide (((Jb kind p q).length : Int) > 400) = false:=Q6 q6;rw [h,qp l];rfl
    · have g : (Yr q != 0) = true:=by simpa using d
      simp only [g,qy,d,not_false_eq_true,if_true]
  · have k : (Yr p != 0) = true:=by simpa using c
    simp only [k,qy,c,ne_eq,not_false_eq_true,if_true]
theorem q12s (p q : List ql) : q80 p q = some (opS 2 p q):=by
  classical
  unfold q80;rw [qq6 2 (fun a b=>a || b) rfl (by intro a b;by_cases c : a <;> by_cases hb : b <;> simp [Ky,c,hb]) _ (by intro a b;cases a <;> rfl)];rfl
theorem qrz (s : List ql) (d : ql→Option Bool) (c : ql→Bool) (h : ∀ t,d t = some (c t)) (q : s.length≤1000000) :
    ∃ r,qa2 s d = some r∧decide (r ≥ 0) = s.any c:=by
  have:=J2 (f:=q31 s d) (σ:=Unit) (fun k _=>(k : Int)) s.length (fun k _=>∀ i (h : i < s.length),i < k→c s[i] = false)
    (fun m=>∃ r : Int,(match m with | .inl b22=>some (-1) | .inr x1=>some x1) = some r∧decide (r ≥ 0) = s.any c) ?_ ?_ (k0:=0) (c0:=()) q6 (fun i _ hi=>q6)
  · obtain ⟨m,g,r,p,l⟩:=this;have g : loop (q31 s d) 0 = some m:=g;exact ⟨r,by unfold qa2;rw [g];exact p,l⟩
  · rintro k _ j hi;have hb : decide ((k : Int) < (s.length : Int)) = true:=Q7 q6
    cases b : c s[k] with
    | true=>
      refine .inr ⟨.inr (k : Int),?_,(k : Int),rfl,?_⟩
      · simp only [q31,hb,qy,Qs j,qj,h,b]
      · have : s.any c = true:=List.any_eq_true.2 ⟨s[k],Ki j,b⟩;rw [this];exact Q7 q6
    | false=>
      refine .inl ⟨(),?_,?_⟩
      · simp only [q31,hb,qy,Qs j,qj,h,b,qx];rw [Qk q6];rfl
      · intro i a o;by_cases e : i = k
        · subst e;exact b
        · exact hi i a q6
  · rintro _ hi;have hb : decide ((s.length : Int) < (s.length : Int)) = false:=Q6 q6;refine ⟨.inl (),by simp only [q31,hb,qx],-1,rfl,?_⟩
    have : s.any c = false:=by
      rw [List.any_eq_false];intro t n;obtain ⟨i,a,rfl⟩:=List.mem_iff_getElem.1 n;simp [hi i a a]
    rw [this];rfl
theorem qqi (s : List ql) (a : ql→Option Bool) (c : ql→Bool) (h : ∀ t,a t = some (c t)) (f : s.length≤1000000) : q9z s a = some (s.any c):=by
  obtain ⟨r,b,d⟩:=qrz s a c h f;unfold q9z;rw [b,qj,d]
open Classical in
noncomputable def qfy (s : List ql) : List ql × Int:=if 400 < s.length then ([],4) else if ∀ t∈s,vld t then (Jb 2 s [],0) else ([],8)
theorem qsq (s : List ql) (k : s.length≤400) (c : ∀ t∈s,vld t) (p2 : Bool→Bool→Option Bool) (hp2 : ∀ a b,p2 a b = some a) : q37 s [] p2 = some (Jb 2 s []):=by
  classical
  obtain ⟨out,g,h,d⟩:=qki (fun a _=>a) rfl p2 hp2 s [] q6 qf c (fun t f=>by cases f);obtain ⟨_,j⟩:=q5g 2 s [] q6 qf;rw [g];congr 1;refine q54 h j.can fun x=>?_;rw [d,j.pts];simp [Ky,q1n]
theorem qsp (s : List ql) : q7z s = some (qfy s):=by
  classical
  unfold q7z qfy;by_cases f : 400 < s.length
  · have e : decide ((s.length : Int) > 400) = true:=Q7 q6;rw [e,qq f];rfl
  · have e : decide ((s.length : Int) > 400) = false:=Q6 q6;rw [e,qp f,qx,qqi s _ (fun t=>!decide (vld t)) (fun t=>by show (q38 t).bind _ = _;rw [qoi];rfl) q6,qj];by_cases c : ∀ t∈s,vld t
    · have : (s.any fun t=>!decide (vld t)) = false:=by
        rw [List.any_eq_false];intro t d;simp [c t d]
      rw [this,qx,qq c,qsq s q6 c (fun g j=>qaz g j) (fun a b=>rfl)];rfl
    · have : (s.any fun t=>!decide (vld t)) = true:=by
        rw [List.any_eq_true];obtain ⟨t,c⟩:=Classical.not_forall.1 c;obtain ⟨d,h⟩:=Classical.not_imp.1 c;exact ⟨t,d,by simp [h]⟩
      rw [this,qy,qp c]
def lenL : List ql→Int
  | []=>0
  | t::s=>(t.Hi - t.Lo) + lenL s
theorem qkt (a b : List ql) : lenL (a ++ b) = lenL a + lenL b:=by
  induction a with
  | nil=>simp [lenL]
  | cons t a ih=>simp only [List.cons_append,lenL,ih];omega
theorem qku : ∀ {s : List ql},(∀ t∈s,vld t)→0≤lenL s∧lenL s≤2000000 * (s.length : Int)
  | [],_=>by simp [lenL]
  | t::s,h=>by
    obtain ⟨d,f⟩:=qku (fun t a=>h t (List.mem_cons_of_mem _ a))
    obtain ⟨b,g,c⟩:=h t qf
    simp only [lenL,List.length_cons]
    omega
noncomputable def qft (s : List ql) : Int × Int:=if Yr s = 0 then (lenL s,0) else (0,Yr s)
theorem qsf (s : List ql) (o : s.length≤400) (g : ∀ t∈s,vld t) : loop (qay s) (0,0) = some (lenL s)∧loop (q9e s) (0,0) = some (lenL s):=by
  have d : ∀ k,0≤lenL (s.take k)∧lenL (s.take k)≤800000000:=by
    intro k;have:=qku (s:=s.take k) (fun t m=>g t (List.mem_of_mem_take m));have : (s.take k).length≤400:=by rw [List.length_take];omega
    omega
  constructor
  · have:=J2 (f:=qay s) (σ:=Int) (fun k c=>(c,(k : Int))) s.length (fun k c=>c = lenL (s.take k)) (fun r=>r = lenL s) ?_ ?_ (k0:=0) (c0:=0) q6 (by simp [lenL])
    · obtain ⟨b,h,rfl⟩:=this;exact h
    · rintro k c a rfl;have hb : decide ((k : Int) < (s.length : Int)) = true:=Q7 q6;obtain ⟨j,n,l⟩:=g _ (Ki a);have:=d k;refine .inl ⟨lenL (s.take (k + 1)),?_,rfl⟩;simp only [qay,hb,qy,Qs a,qj];rw [Qk (x:=s[k].Hi - s[k].Lo) q6,Qk (x:=lenL (s.take k) + _) q6,Qk q6,List.take_succ_eq_append_getElem a,qkt];simp only [lenL,Int.add_zero];rfl
    · rintro c rfl;have hb : decide ((s.length : Int) < (s.length : Int)) = false:=Q6 q6;exact ⟨_,by simp only [qay,hb,qx];rfl,by rw [List.take_length]⟩
  · have:=J2 (f:=q9e s) (σ:=Int) (fun k c=>(c,(k : Int))) s.length (fun k c=>c = lenL (s.take k)) (fun r=>r = lenL s) ?_ ?_ (k0:=0) (c0:=0) q6 (by simp [lenL])
    · obtain ⟨b,h,rfl⟩:=this;exact h
    · rintro k c a rfl;have hb : decide ((k : Int) < (s.length : Int)) = true:=Q7 q6;obtain ⟨j,n,l⟩:=g _ (Ki a);have:=d k;refine .inl ⟨lenL (s.take (k + 1)),?_,rfl⟩;simp only [q9e,hb,qy,Qs a,qj];rw [Qk (x:=lenL (s.take k) + s[k].Hi) q6,Qk (x:=lenL (s.take k) + s[k].Hi - _) q6,Qk q6,List.take_succ_eq_append_getElem a,qkt];have : lenL (s.take k) + s[k].Hi - s[k].Lo = lenL (s.take k) + lenL [s[k]]:=by simp only [lenL];omega
      rw [this];rfl
    · rintro c rfl;have hb : decide ((s.length : Int) < (s.length : Int)) = false:=Q6 q6;exact ⟨_,by simp only [q9e,hb,qx];rfl,by rw [List.take_length]⟩
theorem q13d (s : List ql) : qnz s = some (qft s)∧qm1 s = some (qft s):=by
  unfold qnz qm1 qft;simp only [qew,qv5,qj];by_cases h : Yr s = 0
  · obtain ⟨d,c⟩:=qev h;obtain ⟨a,b⟩:=qsf s d c.1;have e : (Yr s != 0) = false:=by simpa using h
    simp only [e,qx,a,b,qj];simp only [h,if_true];exact ⟨trivial,trivial⟩
  · have e : (Yr s != 0) = true:=by simpa using h
    simp only [e,qy,qp h];exact ⟨trivial,trivial⟩
end Go.Sh
set_option maxHeartbeats 4000000
namespace Go.Sh
open Go Go.Am
def sg (a b : Int) : Int:=if a < b then -1 else 0
theorem J5 {a b : Int} : decide (sg a b < 0) = decide (a < b):=by
  unfold sg;by_cases h : a < b <;> simp [h]
def qO (a b : Int) : Option Int:=some (sg a b)
theorem Je (a b : Int) : qO a b = some (sg a b):=rfl
theorem Jc (a b : Int) : Zb a b = some (decide (a < b)):=by
  unfold Zb q8m;have : (a != a) = false:=by simp
  simp []
theorem q10y : qdz = q5c:=rfl
theorem qz1 : (fun a=>q2p a) = (fun a=>q3k a):=by
  funext a;simp only [q2p,q3k,q10y]
  all_goals exact K1
theorem qz2  : ∀ a,q2p a = q3k a:=fun a=>(congrFun qz1 a)
theorem qz0 : (fun a=>Uw a) = (fun a=>q1d a):=by
  funext a;simp only [Uw,q1d,qz2]
  all_goals exact K1
theorem qnj  : ∀ a,Uw a = q1d a:=fun a=>(congrFun qz0 a)
theorem qzl : (fun a=>q76 a) = (fun a=>U8 a qO):=by
  funext a a443;simp only [q76,U8,Jc,Je,qj,J5]
  all_goals exact K1
theorem qzm  : ∀ a,q76 a = U8 a qO:=fun a=>(congrFun qzl a)
theorem qzj : (fun p2 a=>q75 p2 a) = (fun p2 a=>q1h p2 a qO):=by
  funext p2 a a270;simp only [q75,q1h,qzm]
  all_goals exact K1
theorem qzk  : ∀ p2 a,q75 p2 a = q1h p2 a qO:=fun p2 a=>(congrFun (congrFun qzj p2) a)
theorem qzh : (fun b a p2=>q74 b a p2) = (fun b a p2=>q2g qO b a p2):=by
  funext b a p2;simp only [q74,q2g,qzk]
  all_goals exact K1
theorem qzi  : ∀ b a p2,q74 b a p2 = q2g qO b a p2:=fun b a p2=>(congrFun (congrFun (congrFun qzh b) a) p2)
theorem q10w : (fun p2 p3=>q7s p2 p3) = (fun p2 p3=>Ub p2 p3 qO):=by
  funext p2 p3 a193;simp only [q7s,Ub,Jc,Je,qj,J5]
  all_goals exact K1
theorem q10x  : ∀ p2 p3,q7s p2 p3 = Ub p2 p3 qO:=fun p2 p3=>(congrFun (congrFun q10w p2) p3)
theorem q10v : (fun b a p2 p3=>q4o b a p2 p3) = (fun b a p2 p3=>Uu qO b a p2 p3):=by
  funext b a p2 p3;simp only [q4o,Uu,q10x]
  all_goals exact K1
theorem qnl  : ∀ b a p2 p3,q4o b a p2 p3 = Uu qO b a p2 p3:=fun b a p2 p3=>(congrFun (congrFun (congrFun (congrFun q10v b) a) p2) p3)
theorem qzd : (fun p2 a=>q72 p2 a) = (fun p2 a=>q1f qO p2 a):=by
  funext p2 a a123;simp only [q72,q1f,qnl]
  all_goals exact K1
theorem qze  : ∀ p2 a,q72 p2 a = q1f qO p2 a:=fun p2 a=>(congrFun (congrFun qzd p2) a)
theorem qzf : (fun a=>q73 a) = (fun a=>q1g a qO):=by
  funext a a191;simp only [q73,q1g,qnl]
  all_goals exact K1
theorem qzg  : ∀ a,q73 a = q1g a qO:=fun a=>(congrFun qzf a)
theorem qzb : (fun b a p2=>q71 b a p2) = (fun b a p2=>q2f qO b a p2):=by
  funext b a p2;simp only [q71,q2f,qze,qzg]
  all_goals exact K1
theorem qzc  : ∀ b a p2,q71 b a p2 = q2f qO b a p2:=fun b a p2=>(congrFun (congrFun (congrFun qzb b) a) p2)
theorem qzq : (fun a=>q1y a) = (fun a=>q2h a):=by
  funext a;simp only [q1y,q2h,qnj]
  all_goals exact K1
theorem qzr  : ∀ a,q1y a = q2h a:=fun a=>(congrFun qzq a)
theorem q10z : (fun a=>q1z a) = (fun a=>q2l a):=by
  funext a;simp only [q1z,q2l]
  all_goals exact K1
theorem q110  : ∀ a,q1z a = q2l a:=fun a=>(congrFun q10z a)
theorem qz7 : (fun b p2 a=>q6z b p2 a) = (fun b p2 a=>Ul b p2 a):=by
  funext b p2 a a153;simp only [q6z,Ul,q110]
  all_goals exact K1
theorem qz8  : ∀ b p2 a,q6z b p2 a = Ul b p2 a:=fun b p2 a=>(congrFun (congrFun (congrFun qz7 b) p2) a)
theorem qz5 : (fun b a p2=>q6y b a p2) = (fun b a p2=>q1e qO b a p2):=by
  funext b a p2;simp only [q6y,q1e,qzr,qz8]
  all_goals exact K1
theorem qz6  : ∀ b a p2,q6y b a p2 = q1e qO b a p2:=fun b a p2=>(congrFun (congrFun (congrFun qz5 b) a) p2)
theorem qzs : (fun b a p2 p3=>q33 b a p2 p3) = (fun b a p2 p3=>Un qO b a p2 p3):=by
  funext b a p2 p3;simp only [q33,Un,Jc,Je,qj,J5]
  all_goals exact K1
theorem qzt  : ∀ b a p2 p3,q33 b a p2 p3 = Un qO b a p2 p3:=fun b a p2 p3=>(congrFun (congrFun (congrFun (congrFun qzs b) a) p2) p3)
theorem qzn : (fun b a p2 p3 p4=>q4i b a p2 p3 p4) = (fun b a p2 p3 p4=>Um qO b a p2 p3 p4):=by
  funext b a p2 p3 p4;simp only [q4i,Um,qzt]
  all_goals exact K1
theorem qnk  : ∀ b a p2 p3 p4,q4i b a p2 p3 p4 = Um qO b a p2 p3 p4:=fun b a p2 p3 p4=>(congrFun (congrFun (congrFun (congrFun (congrFun qzn b) a) p2) p3) p4)
theorem qzo : (fun b a p2=>q32 b a p2) = (fun b a p2=>U9 qO b a p2):=by
  funext b a p2;simp only [q32,U9,qnk]
  all_goals exact K1
theorem qzp  : ∀ b a p2,q32 b a p2 = U9 qO b a p2:=fun b a p2=>(congrFun (congrFun (congrFun qzo b) a) p2)
theorem qz9 : (fun b a p2=>q70 b a p2) = (fun b a p2=>q2e b a p2 qO):=by
  funext b a p2;simp only [q70,q2e,qnk,qzp]
  all_goals exact K1
theorem qza  : ∀ b a p2,q70 b a p2 = q2e b a p2 qO:=fun b a p2=>(congrFun (congrFun (congrFun qz9 b) a) p2)
theorem q10u : qas = q2k:=by
  funext a119;simp only [qas,q2k]
  all_goals exact K1
theorem q10s : (fun b a p2=>q7q b a p2) = (fun b a p2=>q1m qO b a p2):=by
  funext b a p2;simp only [q7q,q1m,q10u]
  all_goals exact K1
theorem q10t  : ∀ b a p2,q7q b a p2 = q1m qO b a p2:=fun b a p2=>(congrFun (congrFun (congrFun q10s b) a) p2)
theorem qzy : (fun p2 a=>q7a p2 a) = (fun p2 a=>Uo p2 a qO):=by
  funext p2 a a667;simp only [q7a,Uo,Jc,Je,qj,J5]
  all_goals exact K1
theorem qzz  : ∀ p2 a,q7a p2 a = Uo p2 a qO:=fun p2 a=>(congrFun (congrFun qzy p2) a)
theorem q100 : qaf = Up qO:=by
  funext a822;simp only [qaf,Up,Jc,Je,qj,J5]
  all_goals exact K1
theorem q101 : (fun p2 a=>q7b p2 a) = (fun p2 a=>Uq p2 qO a):=by
  funext p2 a a912;simp only [q7b,Uq,Jc,Je,qj,J5]
  all_goals exact K1
theorem q102  : ∀ p2 a,q7b p2 a = Uq p2 qO a:=fun p2 a=>(congrFun (congrFun q101 p2) a)
theorem qzw : (fun p2 a=>q4l p2 a) = (fun p2 a=>J0 p2 qO a):=by
  funext p2 a a432;have b : @q4l.match_1.{1} = @J0.match_1.{1} Int:=by funext motive m f g;cases m <;> rfl
  unfold q4l J0;rw [b];simp only [qzz,q100,q102]
  all_goals repeat' first | with_reducible rfl | (congr 1) | funext _
  done
theorem qzx  : ∀ p2 a,q4l p2 a = J0 p2 qO a:=fun p2 a=>(congrFun (congrFun qzw p2) a)
theorem qzu : (fun b a p2=>q4k b a p2) = (fun b a p2=>Ua qO b a p2):=by
  funext b a p2;have c : @q4k.match_1.{1} = @Ua.match_1.{1} Int:=by funext motive m f g;cases m <;> rfl
  unfold q4k Ua;rw [c];simp only [qzx]
  all_goals repeat' first | with_reducible rfl | (congr 1) | funext _
  done
theorem qzv  : ∀ b a p2,q4k b a p2 = Ua qO b a p2:=fun b a p2=>(congrFun (congrFun (congrFun qzu b) a) p2)
theorem q108 : (fun a b=>q7e a b) = (fun a b=>Ur a b qO):=by
  funext a b a360;simp only [q7e,Ur,Jc,Je,qj,J5]
  all_goals exact K1
theorem q109  : ∀ a b,q7e a b = Ur a b qO:=fun a b=>(congrFun (congrFun q108 a) b)
theorem q10a : (fun b a c=>q7f b a c) = (fun b a c=>Us b a c qO):=by
  funext b a c a439;simp only [q7f,Us,Jc,Je,qj,J5]
  all_goals exact K1
theorem q10b  : ∀ b a c,q7f b a c = Us b a c qO:=fun b a c=>(congrFun (congrFun (congrFun q10a b) a) c)
theorem q106 : (fun a=>q7d a) = (fun a=>q1k a qO):=by
  funext a a304;simp only [q7d,q1k,q109,q10b]
  all_goals exact K1
theorem q107  : ∀ a,q7d a = q1k a qO:=fun a=>(congrFun q106 a)
theorem q104 : (fun b a p2 p3=>q7c b a p2 p3) = (fun b a p2 p3=>q1j qO b a p2 p3):=by
  funext b a p2 p3;simp only [q7c,q1j,q107]
  all_goals exact K1
theorem q105  : ∀ b a p2 p3,q7c b a p2 p3 = q1j qO b a p2 p3:=fun b a p2 p3=>(congrFun (congrFun (congrFun (congrFun q104 b) a) p2) p3)
theorem q10d : (fun p2 d c b p3 a=>q7h p2 d c b p3 a) = (fun p2 d c b p3 a=>q2i p2 d c b p3 a qO):=by
  funext p2 d c b p3 a a159;simp only [q7h,q2i,Jc,Je,qj,J5]
  all_goals exact K1
theorem q10e  : ∀ p2 d c b p3 a,q7h p2 d c b p3 a = q2i p2 d c b p3 a qO:=fun p2 d c b p3 a=>(congrFun (congrFun (congrFun (congrFun (congrFun (congrFun q10d p2) d) c) b) p3) a)
theorem q10f : (fun a f d c p3 b=>q7i a f d c p3 b) = (fun a f d c p3 b=>q2j a f d c p3 b qO):=by
  funext a f d c p3 b a239;simp only [q7i,q2j,Jc,Je,qj,J5]
  all_goals exact K1
theorem q10g  : ∀ a f d c p3 b,q7i a f d c p3 b = q2j a f d c p3 b qO:=fun a f d c p3 b=>(congrFun (congrFun (congrFun (congrFun (congrFun (congrFun q10f a) f) d) c) p3) b)
theorem q10j : (fun a b=>q7k a b) = (fun a b=>J9 a b qO):=by
  funext a b a542;simp only [q7k,J9,Jc,Je,qj,J5]
  all_goals exact K1
theorem q10k  : ∀ a b,q7k a b = J9 a b qO:=fun a b=>(congrFun (congrFun q10j a) b)
theorem q10l : (fun a b c=>q7l a b c) = (fun a b c=>Ja a b c qO):=by
  funext a b c a622;simp only [q7l,Ja,Jc,Je,qj,J5]
  all_goals exact K1
theorem q10m  : ∀ a b c,q7l a b c = Ja a b c qO:=fun a b c=>(congrFun (congrFun (congrFun q10l a) b) c)
theorem q10h : (fun a=>q7j a) = (fun a=>q1l a qO):=by
  funext a a488;simp only [q7j,q1l,q10k,q10m]
  all_goals exact K1
theorem q10i  : ∀ a,q7j a = q1l a qO:=fun a=>(congrFun q10h a)
theorem q103 : (fun b a p2 p3=>q7g b a p2 p3) = (fun b a p2 p3=>q1i qO b a p2 p3):=by
  funext b a p2 p3;simp only [q7g,q1i,q10e,q10g,q10i]
  all_goals exact K1
theorem q10c  : ∀ b a p2 p3,q7g b a p2 p3 = q1i qO b a p2 p3:=fun b a p2 p3=>(congrFun (congrFun (congrFun (congrFun q103 b) a) p2) p3)
theorem q10o : (fun a=>q4m a) = (fun a=>Zr qO a):=by
  funext a a305;have b : @q4m.match_1.{1} = @Zr.match_1.{1} Int:=by funext motive m f g;cases m <;> rfl
  unfold q4m Zr;rw [b];simp only [qzi,qzc,qz6,qza,q10t,qzv,q105,q10c,Jc,Je,qj,J5]
  all_goals repeat' first | with_reducible rfl | (congr 1) | funext _
  done
theorem q10p  : ∀ a,q4m a = Zr qO a:=fun a=>(congrFun q10o a)
theorem q10q : (fun a c b p2 p3=>q4n a c b p2 p3) = (fun a c b p2 p3=>Ut a qO c b p2 p3):=by
  funext a c b p2 p3;simp only [q4n,Ut,q10p]
  all_goals exact K1
theorem q10r  : ∀ a c b p2 p3,q4n a c b p2 p3 = Ut a qO c b p2 p3:=fun a c b p2 p3=>(congrFun (congrFun (congrFun (congrFun (congrFun q10q a) c) b) p2) p3)
theorem q10n : ∀ N,q7p N = Zi N qO:=by
  intro N
  induction N with
  | zero=>rfl
  | succ N ih=>
    funext a b c d;show q4n (q7p N) a b c d = Ut (Zi N qO) qO a b c d;rw [ih,q10r]
theorem qz3 : (fun a=>U3 a) = (fun a=>q2d qO a):=by
  funext a;simp only [U3,q2d,qnj,q10n]
  all_goals exact K1
theorem qz4  : ∀ a,U3 a = q2d qO a:=fun a=>(congrFun qz3 a)
end Go.Sh
