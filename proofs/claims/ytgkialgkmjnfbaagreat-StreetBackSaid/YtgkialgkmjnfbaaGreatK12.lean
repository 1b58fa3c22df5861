/- Pg4 Pg5 Pg6 Pj1 Pj2 Pl4 Pj3 St1 -/
import Derived.Test.YtgkialgkmjnfbaaGreatK11
namespace Go.Sh
open Go Go.Am
section
variable {T : Type} [Inhabited T] {P : T→Prop} {lt : T→T→Bool} {q : T→T→Option Int}
theorem qhb {f : Int→Option (Int ⊕ Int)} (p : T→Bool) (d : Array T) (j : Nat)
    (b : ∀ k : Nat,k≤1000002→f (k : Int) = if (decide (k≤j) && p d[k]!) = true then some (.inl ((k + 1 : Nat) : Int)) else some (.inr (k : Int))) (g : j≤1000000) :
    ∀ (m i : Nat),j + 1 - i = m→i≤1000002→loop f (i : Int) = some ((Sort.scanUp p d j i : Nat) : Int):=by
  intro m
  induction m with
  | zero=>
    intro i c hi;unfold Sort.scanUp;have a : ¬ (decide (i≤j) && p d[i]!) = true:=by simp;omega
    rw [Q4 a];exact Kf (by rw [b i hi,Q4 a])
  | succ m ih=>
    intro i c hi;unfold Sort.scanUp;by_cases a : (decide (i≤j) && p d[i]!) = true
    · rw [Q2 a,Kg (by rw [b i hi,Q2 a])];exact ih (i + 1) q7 q7
    · rw [Q4 a];exact Kf (by rw [b i hi,Q4 a])
theorem qe1 {f : Int→Option (Int ⊕ Int)} (p : T→Bool) (d : Array T) (i n : Nat) (hi : 1≤i)
    (b : ∀ k : Nat,k < n→f (k : Int) = if (decide (i≤k) && p d[k]!) = true then some (.inl ((k - 1 : Nat) : Int)) else some (.inr (k : Int))) :
    ∀ (j : Nat),j < n→loop f (j : Int) = some ((Sort.scanDown p d i j : Nat) : Int)
  | 0,hj=>by
    have a : ¬ (decide (i≤0) && p d[0]!) = true:=by simp;omega
    exact Kf (by rw [b 0 hj,Q4 a];rfl)
  | j + 1,hj=>by
    unfold Sort.scanDown
    by_cases a : (decide (i≤j + 1) && p d[j + 1]!) = true
    · rw [Q2 a,Kg (by rw [b (j + 1) hj,Q2 a])]
      exact qe1 p d i n hi b j q7
    · rw [Q4 a]
      exact Kf (by rw [b (j + 1) hj,Q4 a])
theorem qmt (b : Y5 q lt P) {n : Nat} {d : Array T} (hd : AllP n P d) {a j : Nat} (c : a < n) (m : j < n) (x : Int) (k : Nat) (hk : k≤1000002) :
    J6 (x,(j : Int),d.toList) (a : Int) q (k : Int) = if (decide (k≤j) && (fun x=>lt x d[a]!) d[k]!) = true then some (.inl ((k + 1 : Nat) : Int)) else some (.inr (k : Int)):=by
  have l:=hd.1;by_cases h : k≤j
  · obtain ⟨r,g,f⟩:=b d[k]! d[a]! (hd.2.2 _ q7) (hd.2.2 _ c);have t : decide ((k : Int)≤(j : Int)) = true:=Q5 q7;simp only [J6,t,Q3,gx (d:=d) (k:=k) q7,gx (d:=d) (k:=a) q7,qn,g,f,w1p k q7];simp only [Q5 h,Bool.true_and,Bool.cond_eq_ite]
  · have t : decide ((k : Int)≤(j : Int)) = false:=Q7 q7;simp only [J6,t,Q1,qn];simp [h]
theorem qmu (c : Y5 q lt P) {n : Nat} {d : Array T} (hd : AllP n P d) {a i : Nat} (f : a < n) (hi : 1≤i) (x y : Int) (k : Nat) (hk : k < n) :
    J7 (i : Int) (x,y,d.toList) (a : Int) q (k : Int) = if (decide (i≤k) && (fun x=>!lt x d[a]!) d[k]!) = true then some (.inl ((k - 1 : Nat) : Int)) else some (.inr (k : Int)):=by
  have j:=hd.1;have l:=hd.2.1;by_cases h : i≤k
  · obtain ⟨r,g,b⟩:=c d[k]! d[a]! (hd.2.2 _ q7) (hd.2.2 _ f);have t : decide ((i : Int)≤(k : Int)) = true:=Q5 q7;have w : w64 ((k : Int) - 1) = ((k - 1 : Nat) : Int):=by rw [Qa q7];omega
    simp only [J7,t,Q3,gx (d:=d) (k:=k) q7,gx (d:=d) (k:=a) q7,qn,g,b,w];simp only [Q5 h,Bool.true_and,Bool.cond_eq_ite]
  · have t : decide ((i : Int)≤(k : Int)) = false:=Q7 q7;simp only [J7,t,Q1,qn];simp [h]
theorem qxh (b : Y5 q lt P) {n : Nat} {d : Array T} (hd : AllP n P d) {a j : Nat} (c : a < n) (m : j < n) (x : Int) (k : Nat) (hk : k≤1000002) :
    Uj (x,(j : Int),d.toList) (a : Int) q (k : Int) = if (decide (k≤j) && (fun x=>!lt d[a]! x) d[k]!) = true then some (.inl ((k + 1 : Nat) : Int)) else some (.inr (k : Int)):=by
  have l:=hd.1;by_cases h : k≤j
  · obtain ⟨r,g,f⟩:=b d[a]! d[k]! (hd.2.2 _ c) (hd.2.2 _ q7);have t : decide ((k : Int)≤(j : Int)) = true:=Q5 q7;simp only [Uj,t,Q3,gx (d:=d) (k:=k) q7,gx (d:=d) (k:=a) q7,qn,g,f,w1p k q7];simp only [Q5 h,Bool.true_and,Bool.cond_eq_ite]
  · have t : decide ((k : Int)≤(j : Int)) = false:=Q7 q7;simp only [Uj,t,Q1,qn];simp [h]
theorem qxi (c : Y5 q lt P) {n : Nat} {d : Array T} (hd : AllP n P d) {a i : Nat} (f : a < n) (hi : 1≤i) (x y : Int) (k : Nat) (hk : k < n) :
    Uk (i : Int) (x,y,d.toList) (a : Int) q (k : Int) = if (decide (i≤k) && (fun x=>lt d[a]! x) d[k]!) = true then some (.inl ((k - 1 : Nat) : Int)) else some (.inr (k : Int)):=by
  have j:=hd.1;have l:=hd.2.1;by_cases h : i≤k
  · obtain ⟨r,g,b⟩:=c d[a]! d[k]! (hd.2.2 _ f) (hd.2.2 _ q7);have t : decide ((i : Int)≤(k : Int)) = true:=Q5 q7;have w : w64 ((k : Int) - 1) = ((k - 1 : Nat) : Int):=by rw [Qa q7];omega
    simp only [Uk,t,Q3,gx (d:=d) (k:=k) q7,gx (d:=d) (k:=a) q7,qn,g,b,w];simp only [Q5 h,Bool.true_and,Bool.cond_eq_ite]
  · have t : decide ((i : Int)≤(k : Int)) = false:=Q7 q7;simp only [Uk,t,Q1,qn];simp [h]
theorem qxc (o : Y5 q lt P) (a n : Nat) (r : a < n) : ∀ (m i j : Nat) (d : Array T),j + 1 - i = m→AllP n P d→1≤i→i≤n + 1→j < n→
    loop (q1e (a : Int) q) ((i : Int),(j : Int),d.toList) = some (((Sort.partLoop lt a i j d).1 : Int),(Sort.partLoop lt a i j d).2.toList)∧AllP n P (Sort.partLoop lt a i j d).2∧(Sort.partLoop lt a i j d).1 < n:=by
  intro m
  induction m using Nat.strongRecOn with
  | _ m ih=>
    intro i j d hm hd hi v p;have z:=hd.1;have hn:=hd.2.1;rw [Sort.partLoop_eq];have s1:=qhb (f:=J6 ((i : Int),(j : Int),d.toList) (a : Int) q) (fun x=>lt x d[a]!) d j (fun k hk=>qmt o hd r p _ k hk) q7 _ i rfl q7;have g1:=Sort.scanUp_ge (fun x=>lt x d[a]!) d j i;have y:=(Sort.scanUp_spec (fun x=>lt x d[a]!) d j _ i rfl).2.1;generalize Sort.scanUp (fun x=>lt x d[a]!) d j i = c at s1 g1 y ⊢;have l:=qe1 (f:=J7 (c : Int) ((i : Int),(j : Int),d.toList) (a : Int) q) (fun x=>!lt x d[a]!) d c n q7 (fun k hk=>qmu o hd r q7 _ _ k hk) j p;have u:=Sort.scanDown_le (fun x=>!lt x d[a]!) d c j;generalize Sort.scanDown (fun x=>!lt x d[a]!) d c j = g at l u ⊢;by_cases s : c > g
    · rw [Q2 s];have t : decide ((c : Int) > (g : Int)) = true:=Q5 q7;refine ⟨Kf ?_,hd,by show g < n;omega⟩;simp only [q1e,s1,l,qn,t,Q3]
    · rw [Q4 s];have t : decide ((c : Int) > (g : Int)) = false:=Q7 q7;have h:=ih ((g - 1) + 1 - (c + 1)) q7 (c + 1) (g - 1) _ rfl (hd.swp (a:=c) (b:=g) q7 q7) q7 q7 q7;refine ⟨?_,h.2⟩;rw [Kg (a':=(((c + 1 : Nat) : Int),((g - 1 : Nat) : Int),(Sort.swp d c g).toList)) ?_]
      · exact h.1
      · have w : w64 ((g : Int) - 1) = ((g - 1 : Nat) : Int):=by rw [Qa q7];omega
        simp only [q1e,s1,l,qn,t,Q1,gx (d:=d) (k:=c) q7,gx (d:=d) (k:=g) q7,gxs (d:=d) (k:=g) q7,Int.toNat_natCast,gswp,w,w1p c q7]
theorem qxb (l : Y5 q lt P) (a n : Nat) (p : a < n) : ∀ (m i j : Nat) (d : Array T),j + 1 - i = m→AllP n P d→1≤i→i≤n + 1→j < n→
    loop (q1d (a : Int) q) ((i : Int),(j : Int),d.toList) = some (((Sort.partEqLoop lt a i j d).1 : Int),(Sort.partEqLoop lt a i j d).2.toList):=by
  intro m
  induction m using Nat.strongRecOn with
  | _ m ih=>
    intro i j d hm hd hi u o;have y:=hd.1;have hn:=hd.2.1;rw [Sort.partEqLoop_eq];have s1:=qhb (f:=Uj ((i : Int),(j : Int),d.toList) (a : Int) q) (fun x=>!lt d[a]! x) d j (fun k hk=>qxh l hd p o _ k hk) q7 _ i rfl q7;have z:=Sort.scanUp_ge (fun x=>!lt d[a]! x) d j i;have v:=(Sort.scanUp_spec (fun x=>!lt d[a]! x) d j _ i rfl).2.1;generalize Sort.scanUp (fun x=>!lt d[a]! x) d j i = c at s1 z v ⊢;have h:=qe1 (f:=Uk (c : Int) ((i : Int),(j : Int),d.toList) (a : Int) q) (fun x=>lt d[a]! x) d c n q7 (fun k hk=>qxi l hd p q7 _ _ k hk) j o;have s:=Sort.scanDown_le (fun x=>lt d[a]! x) d c j;generalize Sort.scanDown (fun x=>lt d[a]! x) d c j = g at h s ⊢;by_cases r : c > g
    · rw [Q2 r];have t : decide ((c : Int) > (g : Int)) = true:=Q5 q7;refine Kf ?_;simp only [q1d,s1,h,qn,t,Q3]
    · rw [Q4 r];have t : decide ((c : Int) > (g : Int)) = false:=Q7 q7;rw [Kg (a':=(((c + 1 : Nat) : Int),((g - 1 : Nat) : Int),(Sort.swp d c g).toList)) ?_]
      · exact ih ((g - 1) + 1 - (c + 1)) q7 (c + 1) (g - 1) _ rfl (hd.swp (a:=c) (b:=g) q7 q7) q7 q7 q7
      · have w : w64 ((g : Int) - 1) = ((g - 1 : Nat) : Int):=by rw [Qa q7];omega
        simp only [q1d,s1,h,qn,t,Q1,gx (d:=d) (k:=c) q7,gx (d:=d) (k:=g) q7,gxs (d:=d) (k:=g) q7,Int.toNat_natCast,gswp,w,w1p c q7]
theorem qxe (c : Y5 q lt P) {a b n p : Nat} (hb : b≤n) (f : a < b) (hp : p < n) {d : Array T} (hd : AllP n P d) :
    q1c q d.toList (a : Int) (b : Int) (p : Int) = some (((Sort.partitionEqual lt d a b p).1 : Int),(Sort.partitionEqual lt d a b p).2.toList):=by
  have g:=hd.1;have h:=hd.2.1;have w : w64 ((b : Int) - 1) = ((b - 1 : Nat) : Int):=by rw [Qa q7];omega
  have s:=qxb c a n q7 _ (a + 1) (b - 1) _ rfl (hd.swp (a:=a) (b:=p) q7 hp) q7 q7 q7;unfold q1c Sort.partitionEqual;simp only [gx (d:=d) (k:=p) q7,gx (d:=d) (k:=a) q7,gxs (d:=d) (k:=p) q7,qn,Int.toNat_natCast,gswp,w,w1p a q7,s]
theorem qxf (j : Y5 q lt P) {a b n p : Nat} (hb : b≤n) (r : a < b) (hp : p < n) {d : Array T} (hd : AllP n P d) :
    q1b q d.toList (a : Int) (b : Int) (p : Int) = some (((Sort.partition lt d a b p).1 : Int),(Sort.partition lt d a b p).2.1,(Sort.partition lt d a b p).2.2.toList):=by
  have z:=hd.1;have hn:=hd.2.1;have w : w64 ((b : Int) - 1) = ((b - 1 : Nat) : Int):=by rw [Qa q7];omega
  have h:=hd.swp (a:=a) (b:=p) q7 hp
  have e1 : q26 (b : Int) d.toList (a : Int) d[p]! (p : Int) d[a]! q = J6 ((0 : Int),((b - 1 : Nat) : Int),(Sort.swp d a p).toList) (a : Int) q:=by
    funext k;simp only [q26,J6,w,Int.toNat_natCast,gswp]
  have y : ∀ c : Int,q27 c d.toList (a : Int) d[p]! (p : Int) d[a]! q = J7 c ((0 : Int),(0 : Int),(Sort.swp d a p).toList) (a : Int) q:=by
    intro c;funext k;simp only [q27,J7,Int.toNat_natCast,gswp]
  unfold q1b Sort.partition;simp only [gx (d:=d) (k:=p) q7,gx (d:=d) (k:=a) q7,gxs (d:=d) (k:=p) q7,qn,e1,y,Int.toNat_natCast,gswp,w,w1p a q7];generalize Sort.swp d a p = D at h ⊢;have ab:=h.1;have s1:=qhb (f:=J6 ((0 : Int),((b - 1 : Nat) : Int),D.toList) (a : Int) q) (fun x=>lt x D[a]!) D (b - 1) (fun k hk=>qmt j h q7 q7 _ k hk) q7 _ (a + 1) rfl q7;have g1:=Sort.scanUp_ge (fun x=>lt x D[a]!) D (b - 1) (a + 1);generalize Sort.scanUp (fun x=>lt x D[a]!) D (b - 1) (a + 1) = c at s1 g1 ⊢;have l:=qe1 (f:=J7 (c : Int) ((0 : Int),(0 : Int),D.toList) (a : Int) q) (fun x=>!lt x D[a]!) D c n q7 (fun k hk=>qmu j h q7 q7 _ _ k hk) (b - 1) q7;have u:=Sort.scanDown_le (fun x=>!lt x D[a]!) D c (b - 1);generalize Sort.scanDown (fun x=>!lt x D[a]!) D c (b - 1) = g at l u ⊢;simp only [s1,l,qn];by_cases o : c > g
  · have t : decide ((c : Int) > (g : Int)) = true:=Q5 q7;simp only [Q2 o,t,Q3,gx (d:=D) (k:=a) q7,gx (d:=D) (k:=g) q7,gxs (d:=D) (k:=a) q7,qn,Int.toNat_natCast,gswp]
  · have t : decide ((c : Int) > (g : Int)) = false:=Q7 q7;have w2 : w64 ((g : Int) - 1) = ((g - 1 : Nat) : Int):=by rw [Qa q7];omega
    obtain ⟨s3,m,s⟩:=qxc j a n q7 _ (c + 1) (g - 1) _ rfl (h.swp (a:=c) (b:=g) q7 q7) q7 q7 q7;simp only [Q4 o,t,Q1,gx (d:=D) (k:=c) q7,gx (d:=D) (k:=g) q7,gxs (d:=D) (k:=g) q7,qn,Int.toNat_natCast,gswp,w2,w1p c q7,s3];generalize Sort.partLoop lt a (c + 1) (g - 1) (Sort.swp D c g) = R at m s ⊢;have v:=m.1;simp only [gx (d:=R.2) (k:=a) q7,gx (d:=R.2) (k:=R.1) q7,gxs (d:=R.2) (k:=a) q7,qn,gswp]
theorem qzy (l : Y5 q lt P) {b n : Nat} (hb : b≤n) {d : Array T} (hd : AllP n P d) (x y : Int) : ∀ (m i : Nat),b - i = m→1≤i→i≤b→
    loop (Uh (b : Int) (x,y,d.toList) q) (i : Int) = some ((Sort.scanSorted lt d b i : Nat) : Int)∧i≤Sort.scanSorted lt d b i∧Sort.scanSorted lt d b i≤b:=by
  have o:=hd.1;have p:=hd.2.1;intro m
  induction m with
  | zero=>
    intro i j hi a;unfold Sort.scanSorted;rw [Q4 (by simp;omega)];have t : decide ((i : Int) < (b : Int)) = false:=Q7 q7;exact ⟨Kf (by simp only [Uh,t,Q1,qn]),Nat.le_refl _,a⟩
  | succ m ih=>
    intro i j hi a;unfold Sort.scanSorted;have t : decide ((i : Int) < (b : Int)) = true:=Q5 q7;have w : w64 ((i : Int) - 1) = ((i - 1 : Nat) : Int):=by rw [Qa q7];omega
    obtain ⟨r,h,g⟩:=l d[i]! d[i - 1]! (hd.2.2 _ q7) (hd.2.2 _ q7);by_cases c : lt d[i]! d[i - 1]! = true
    · rw [Q4 (by simp [c])];refine ⟨Kf ?_,Nat.le_refl _,a⟩;simp only [Uh,t,Q3,w,gx (d:=d) (k:=i) q7,gx (d:=d) (k:=i - 1) q7,qn,h,g,c,Bool.not_true,Q1]
    · have c : lt d[i]! d[i - 1]! = false:=by simpa using c
      rw [Q2 (by simp [c];omega)];have f:=ih (i + 1) q7 q7 q7;refine ⟨?_,q7,f.2.2⟩;rw [Kg (a':=((i + 1 : Nat) : Int)) ?_]
      · exact f.1
      · simp only [Uh,t,Q3,w,gx (d:=d) (k:=i) q7,gx (d:=d) (k:=i - 1) q7,qn,h,g,c,Bool.not_false,w1p i q7]
theorem qoa (g : Y5 q lt P) (n : Nat) : ∀ (j : Nat) (d : Array T),AllP n P d→j < n→loop (Jy q) ((j : Int),d.toList) = some (Sort.shiftDown lt j d).toList∧AllP n P (Sort.shiftDown lt j d)
  | 0,d,hd,hj=>by
    have t : decide (((0 : Nat) : Int) ≥ 1) = false:=Q7 q7
    exact ⟨Kf (by simp only [Jy,t,Q1];rfl),hd⟩
  | j + 1,d,hd,hj=>by
    have m:=hd.1
    have o:=hd.2.1
    have t : decide (((j + 1 : Nat) : Int) ≥ 1) = true:=Q5 q7
    obtain ⟨r,l,f⟩:=g d[j + 1]! d[j]! (hd.2.2 _ hj) (hd.2.2 _ q7)
    unfold Sort.shiftDown
    by_cases c : lt d[j + 1]! d[j]! = true
    · rw [Q4 (by simp [c])]
      have h:=qoa g n j _ (hd.swp (a:=j + 1) (b:=j) hj q7) q7
      refine ⟨?_,h.2⟩
      rw [Kg (a':=((j : Int),(Sort.swp d (j + 1) j).toList)) ?_]
      · exact h.1
      · simp only [Jy,t,Q3,gx (d:=d) (k:=j + 1) q7,w1m j q7,gx (d:=d) (k:=j) q7,gxs (d:=d) (k:=j) q7,qn,l,f,c,Bool.not_true,Q1,Int.toNat_natCast,gswp]
    · have c : lt d[j + 1]! d[j]! = false:=by simpa using c
      rw [Q2 (by simp [c])]
      refine ⟨Kf ?_,hd⟩
      simp only [Jy,t,Q3,gx (d:=d) (k:=j + 1) q7,w1m j q7,gx (d:=d) (k:=j) q7,qn,l,f,c,Bool.not_false]
theorem qoc (p : Y5 q lt P) {b n : Nat} (hb : b≤n) (c : Int) : ∀ (m j : Nat) (d : Array T),b - j = m→AllP n P d→1≤j→loop (Ui (b : Int) q c) ((j : Int),d.toList) = some (c,(Sort.shiftUp lt b j d).toList)∧AllP n P (Sort.shiftUp lt b j d):=by
  intro m
  induction m with
  | zero=>
    intro j d o hd s;unfold Sort.shiftUp;rw [Q4 q7];have t : decide ((j : Int) < (b : Int)) = false:=Q7 q7;exact ⟨Kf (by simp only [Ui,t,Q1]),hd⟩
  | succ m ih=>
    intro j d o hd s;have u:=hd.1;have v:=hd.2.1;unfold Sort.shiftUp;rw [Q2 q7];have t : decide ((j : Int) < (b : Int)) = true:=Q5 q7;have w : w64 ((j : Int) - 1) = ((j - 1 : Nat) : Int):=by rw [Qa q7];omega
    obtain ⟨r,l,h⟩:=p d[j]! d[j - 1]! (hd.2.2 _ q7) (hd.2.2 _ q7);by_cases f : lt d[j]! d[j - 1]! = true
    · rw [Q4 (by simp [f])];have g:=ih (j + 1) _ q7 (hd.swp (a:=j) (b:=j - 1) q7 q7) q7;refine ⟨?_,g.2⟩;rw [Kg (a':=(((j + 1 : Nat) : Int),(Sort.swp d j (j - 1)).toList)) ?_]
      · exact g.1
      · simp only [Ui,t,Q3,w,gx (d:=d) (k:=j) q7,gx (d:=d) (k:=j - 1) q7,gxs (d:=d) (k:=j - 1) q7,qn,l,h,f,Bool.not_true,Q1,Int.toNat_natCast,gswp,w1p j q7]
    · have f : lt d[j]! d[j - 1]! = false:=by simpa using f
      rw [Q2 (by simp [f])];refine ⟨Kf ?_,hd⟩;simp only [Ui,t,Q3,w,gx (d:=d) (k:=j) q7,gx (d:=d) (k:=j - 1) q7,qn,l,h,f,Bool.not_false]
theorem qmw (j : Y5 q lt P) {a b n : Nat} (hb : b≤n) : ∀ (s i : Nat) (d : Array T),s≤5→AllP n P d→a < i→i≤b→
    ∃ m,loop (Zr (b : Int) q (a : Int)) ((i : Int),((5 - s : Nat) : Int),d.toList) = some m∧(match m with | .inl b441=>some (false,b441) | .inr x1=>some x1) = some ((Sort.partialIns lt a b s i d).2,(Sort.partialIns lt a b s i d).1.toList)
  | 0,i,d,hs,hd,hi,hib=>by
    have t : decide (((5 - 0 : Nat) : Int) < 5) = false:=Q7 q7
    refine ⟨.inl d.toList,Kf (by simp only [Zr,t,Q1]),rfl⟩
  | s + 1,i,d,hs,hd,hi,hib=>by
    have ac:=hd.1
    have hn:=hd.2.1
    have t : decide (((5 - (s + 1) : Nat) : Int) < 5) = true:=Q5 q7
    rw [Sort.partialIns_succ]
    obtain ⟨s1,l1,w⟩:=qzy j hb hd (i : Int) ((5 - (s + 1) : Nat) : Int) _ i rfl q7 hib
    generalize Sort.scanSorted lt d b i = k at s1 l1 w ⊢
    by_cases hk : k = b
    · subst hk
      rw [Q2 rfl]
      refine ⟨.inr (true,d.toList),Kf ?_,rfl⟩
      simp only [Zr,t,Q3,s1,qn,beq_self_eq_true]
    · rw [Q4 hk]
      have v : ((k : Int) == (b : Int)) = false:=by simp;omega
      have e0 : w64 ((b : Int) - (a : Int)) = ((b - a : Nat) : Int):=wsub q7 q7
      by_cases o : b - a < 50
      · rw [Q2 o]
        have g : decide (((b - a : Nat) : Int) < 50) = true:=Q5 q7
        refine ⟨.inr (false,d.toList),Kf ?_,rfl⟩
        simp only [Zr,t,Q3,s1,qn,v,Q1,e0,g]
      · rw [Q4 o]
        have g : decide (((b - a : Nat) : Int) < 50) = false:=Q7 q7
        have wk : w64 ((k : Int) - 1) = ((k - 1 : Nat) : Int):=by rw [Qa q7];omega
        have wa : w64 ((k : Int) - (a : Int)) = ((k - a : Nat) : Int):=wsub q7 q7
        have wb : w64 ((b : Int) - (k : Int)) = ((b - k : Nat) : Int):=wsub q7 q7
        have l:=hd.swp (a:=k) (b:=k - 1) q7 q7
        have down : (cond (decide (((k - a : Nat) : Int) ≥ 2)) ((loop (Jy q) (((k - 1 : Nat) : Int),(Sort.swp d k (k - 1)).toList)).bind fun x0=>some x0) (some (Sort.swp d k (k - 1)).toList)) = some (Sort.fixDown lt a k (Sort.swp d k (k - 1))).toList∧AllP n P (Sort.fixDown lt a k (Sort.swp d k (k - 1))):=by
          unfold Sort.fixDown;by_cases h : k - a ≥ 2
          · have f : decide (((k - a : Nat) : Int) ≥ 2) = true:=Q5 q7;obtain ⟨x,y⟩:=qoa j n (k - 1) _ l q7;rw [Q2 h,f,Q3,x];exact ⟨rfl,y⟩
          · have f : decide (((k - a : Nat) : Int) ≥ 2) = false:=Q7 q7;rw [Q4 h,f,Q1];exact ⟨rfl,l⟩
        obtain ⟨dn,c⟩:=down
        have p : AllP n P (Sort.fixUp lt b k (Sort.fixDown lt a k (Sort.swp d k (k - 1)))):=by
          unfold Sort.fixUp;split
          · exact (qoc j hb 0 _ (k + 1) _ rfl c q7).2
          · exact c
        obtain ⟨m,r,u⟩:=qmw (a:=a) j hb s k _ q7 p q7 w
        refine ⟨m,?_,u⟩
        rw [Kg (a':=((k : Int),((5 - s : Nat) : Int),(Sort.fixUp lt b k (Sort.fixDown lt a k (Sort.swp d k (k - 1)))).toList)) ?_]
        · exact r
        · have z : w64 (((5 - (s + 1) : Nat) : Int) + 1) = ((5 - s : Nat) : Int):=by rw [Qa q7];omega
          simp only [Zr,t,Q3,s1,qn,v,Q1,e0,g,wk,gx (d:=d) (k:=k) q7,gx (d:=d) (k:=k - 1) q7,gxs (d:=d) (k:=k - 1) q7,Int.toNat_natCast,gswp,wa,dn,wb,w1p k q7]
          unfold Sort.fixUp
          by_cases h : b - k ≥ 2
          · have f : decide (((b - k : Nat) : Int) ≥ 2) = true:=Q5 q7
            obtain ⟨x,y⟩:=qoc j hb (k : Int) _ (k + 1) _ rfl c q7
            rw [Q2 h,f,Q3,x]
            simp only [qn,z]
          · have f : decide (((b - k : Nat) : Int) ≥ 2) = false:=Q7 q7
            rw [Q4 h,f,Q1]
            simp only [qn,z]
theorem qxd (f : Y5 q lt P) {a b n : Nat} (hb : b≤n) (h : a < b) {d : Array T} (hd : AllP n P d) :
    Jk q d.toList (a : Int) (b : Int) = some ((Sort.partialInsertionSort lt d a b).2,(Sort.partialInsertionSort lt d a b).1.toList):=by
  have j:=hd.2.1;obtain ⟨m,c,g⟩:=qmw (a:=a) f hb 5 (a + 1) d q7 hd q7 q7;have c : loop (Zr (b : Int) q (a : Int)) (((a + 1 : Nat) : Int),0,d.toList) = some m:=c;unfold Jk Sort.partialInsertionSort;rw [w1p a q7,c];exact g
end
end Go.Sh
namespace Go.Sh
open Go Go.Am
theorem qlc {α β : Type} {f : α→Option (α ⊕ β)} {a : α} (h : f a = none) : loop f a = none:=by
  apply Option.ext;intro b;rw [q89];constructor
  · rintro ⟨n,c⟩
    cases n with
    | zero=>simp [iter] at c
    | succ n=>simp [iter,h] at c
  · intro h;cases h
section
variable {T : Type} [Inhabited T] {P : T→Prop} {lt : T→T→Bool} {q : T→T→Option Int}
def Srt (lt : T→T→Bool) (a b : Nat) (d : Array T) (o : Option (List T)) : Prop:=∃ d' : Array T,o = some d'.toList∧Sort.PermIn a b d d'∧Sort.SortedIn lt a b d'
theorem qxg (hq : Y5 q lt P) (hS : Sort.SWO lt) {n N : Nat} (af : List T→Int→Int→Int→Option (List T))
    (am : ∀ (a b f : Nat) (d : Array T),AllP n P d→a≤b→b≤n→f≤1000→Sort.Below lt a b d→Srt lt a b d (af d.toList (a : Int) (b : Int) (f : Int))∨(N≤b - a∧af d.toList (a : Int) (b : Int) (f : Int) = none)) :
    ∀ (m a b f : Nat) (wb wp : Bool) (d : Array T),b - a = m→AllP n P d→a≤b→b≤n→f≤1000→Sort.Below lt a b d→
      Srt lt a b d (loop (Zj q af) ((a : Int),(b : Int),(f : Int),wb,wp,d.toList))∨(N + 1≤b - a∧loop (Zj q af) ((a : Int),(b : Int),(f : Int),wb,wp,d.toList) = none):=by
  intro m
  induction m using Nat.strongRecOn with
  | _ m ih=>
    intro a b f wb wp d hm hd o hb hl hB;have cz:=hd.1;have hn:=hd.2.1;have e0 : w64 ((b : Int) - (a : Int)) = ((b - a : Nat) : Int):=wsub o q7;by_cases cy : b - a≤12
    ·
      have t : decide (((b - a : Nat) : Int)≤12) = true:=Q5 q7;obtain ⟨x,y⟩:=Sort.insertionSort_holds (lt:=lt) hS d a b o q7;have s:=qtz hq hb o hd;refine .inl ⟨_,Kf ?_,x,y⟩;simp only [Zj,e0,t,Q3,s,qn,Um hd (hd.perm o hb x)]
    have bm : decide (((b - a : Nat) : Int)≤12) = false:=Q7 q7;by_cases h0 : f = 0
    ·
      have t : ((f : Int) == 0) = true:=by simp [h0]
      obtain ⟨x,y⟩:=Sort.heapSort_holds (lt:=lt) hS d a b o q7;have s:=qts hq hb (by omega : a < b) hd;refine .inl ⟨_,Kf ?_,x,y⟩;simp only [Zj,e0,bm,Q1,t,Q3,s,qn,Um hd (hd.perm o hb x)]
    have t0 : ((f : Int) == 0) = false:=by simp [h0]
    have hA : ∃ (l1 : Nat) (d1 : Array T),(cond (!wb) ((q17 q d.toList (a : Int) (b : Int)).bind fun ba=>(Qz ba.length d.toList.length).bind fun cr=>some (w64 ((f : Int) - 1),ba)) (some ((f : Int),d.toList))) = some ((l1 : Int),d1.toList)∧l1≤1000∧AllP n P d1∧Sort.PermIn a b d d1:=by
      cases wb with
      | true=>exact ⟨f,d,rfl,hl,hd,Sort.permIn_refl _ _ _⟩
      | false=>
        have x:=Sort.breakPatterns_holds d a b o q7;have z:=hd.perm o hb x;have w : w64 ((f : Int) - 1) = ((f - 1 : Nat) : Int):=by rw [Qa q7];omega
        refine ⟨f - 1,_,?_,q7,z,x⟩;simp only [Bool.not_false,Q3,qpy (q:=q) hb (by omega : a < b) hd,qn,Um hd z,w]
    obtain ⟨l1,d1,eA,an,z,p1⟩:=hA;have hC:=qqz hq z (by omega : a < b) hb;obtain ⟨c1,c2⟩:=Sort.choosePivot_holds lt d1 a b q7;generalize (Sort.choosePivot lt d1 a b).1 = c at hC c1 c2;generalize qfz (Sort.choosePivot lt d1 a b).2 = h at hC
    have hR : ∃ (p : Nat) (h2 : Int) (d2 : Array T),(cond (h == 2) ((q1f q d1.toList (a : Int) (b : Int)).bind fun bd=>(Qz bd.length d1.toList.length).bind fun co=>some (w64 ((w64 ((b : Int) - 1)) - (w64 ((c : Int) - (a : Int)))),(1 : Int),bd)) (some ((c : Int),h,d1.toList))) = some ((p : Int),h2,d2.toList)∧a≤p∧p < b∧AllP n P d2∧Sort.PermIn a b d1 d2:=by
      cases hh : (h == 2) with
      | false=>exact ⟨c,h,d1,rfl,c1,c2,z,Sort.permIn_refl _ _ _⟩
      | true=>
        have x:=Sort.reverseRange_holds d1 a b o (by rw [z.1];exact hb);have ac:=z.perm o hb x;have w1 : w64 ((b : Int) - 1) = ((b - 1 : Nat) : Int):=by rw [Qa q7];omega
        have w2 : w64 ((c : Int) - (a : Int)) = ((c - a : Nat) : Int):=wsub c1 q7;have w3 : w64 (((b - 1 : Nat) : Int) - ((c - a : Nat) : Int)) = ((b - 1 - (c - a) : Nat) : Int):=wsub q7 q7;refine ⟨b - 1 - (c - a),1,_,?_,q7,q7,ac,x⟩;simp only [Q3,qzc (q:=q) hb (by omega : a < b) z,qn,Um z ac,w1,w2,w3]
    obtain ⟨p,h2,d2,eR,hp1,hp2,ac,p2⟩:=hR;have bv : Sort.Below lt a b d2:=(hB.perm q7 p1).perm (by rw [z.1];exact hb) p2;have bp:=Sort.permIn_trans _ _ _ a b p1 p2
    have hP : ∀ cc : Bool,∃ ab : (List T) ⊕ (List T),(cond cc ((Jk q d2.toList (a : Int) (b : Int)).bind fun ag=>(Qz ag.2.length d2.toList.length).bind fun cx=>cond ag.1 (some (.inr ag.2)) (some (.inl ag.2))) (some (.inl d2.toList)) : Option ((List T) ⊕ (List T))) = some ab∧
        ((∃ l : Array T,ab = .inr l.toList∧Sort.PermIn a b d2 l∧Sort.SortedIn lt a b l)∨(∃ l : Array T,ab = .inl l.toList∧AllP n P l∧Sort.PermIn a b d2 l)):=by
      intro cc
      cases cc with
      | false=>exact ⟨_,rfl,.inr ⟨d2,rfl,ac,Sort.permIn_refl _ _ _⟩⟩
      | true=>
        obtain ⟨x,y⟩:=Sort.partialInsertionSort_holds (lt:=lt) hS d2 a b q7 (by rw [ac.1];exact hb) bv;have u:=ac.perm o hb x;have s:=qxd hq hb (by omega : a < b) ac;simp only [Q3,s,qn,Um ac u]
        cases hz : (Sort.partialInsertionSort lt d2 a b).2 with
        | true=>exact ⟨_,rfl,.inl ⟨_,rfl,x,y hz⟩⟩
        | false=>exact ⟨_,rfl,.inr ⟨_,rfl,u,x⟩⟩
    obtain ⟨ab,eP,br⟩:=hP (wb && wp && (h2 == 1))
    have cl : ∀ {γ : Type} (X : Bool→Option γ),((cond wb (some wp) (some false)).bind fun bt=>(cond bt (some (h2 == 1)) (some false)).bind X) = X (wb && wp && (h2 == 1)):=by
      intro γ X;cases wb <;> cases wp <;> rfl
    have head : Zj q af ((a : Int),(b : Int),(f : Int),wb,wp,d.toList) = (match (generalizing:=false) ab with | .inl b377=>(cond (decide ((a : Int) > 0)) ((idx b377 (w64 ((a : Int) - 1))).bind fun av=>(idx b377 (p : Int)).bind fun ao=>(q av ao).bind fun ar=>some (!(decide (ar < 0)))) (some false)).bind fun bq=>cond bq ((q1c q b377 (a : Int) (b : Int) (p : Int)).bind fun al=>(Qz al.2.length b377.length).bind fun cw=>some (.inl (al.1,(b : Int),(l1 : Int),wb,wp,al.2))) ((q1b q b377 (a : Int) (b : Int) (p : Int)).bind fun g=>(Qz g.2.2.length b377.length).bind fun cn=>cond (decide ((w64 (g.1 - (a : Int))) < (w64 ((b : Int) - g.1)))) ((af g.2.2 (a : Int) g.1 (l1 : Int)).bind fun az=>(Qz az.length g.2.2.length).bind fun cu=>some (.inl (w64 (g.1 + 1),(b : Int),(l1 : Int),decide ((w64 (g.1 - (a : Int))) ≥ (w64 (Int.tdiv ((b - a : Nat) : Int) 8))),g.2.1,az))) ((af g.2.2 (w64 (g.1 + 1)) (b : Int) (l1 : Int)).bind fun bc=>(Qz bc.length g.2.2.length).bind fun ct=>some (.inl ((a : Int),g.1,(l1 : Int),decide ((w64 ((b : Int) - g.1)) ≥ (w64 (Int.tdiv ((b - a : Nat) : Int) 8))),g.2.1,bc)))) | .inr x1=>some (.inr x1)):=by
      simp only [Zj,e0,bm,Q1,t0,eA,qn,hC,eR,cl,eP]
      all_goals (clear eP br hP am ih;cases ab <;> rfl)
    rcases br with ⟨l,rfl,x,y⟩ | ⟨l,rfl,u,p3⟩
    · refine .inl ⟨l,Kf ?_,Sort.permIn_trans _ _ _ a b bp x,y⟩;rw [head]
    have ax:=u.1;have P3:=Sort.permIn_trans _ _ _ a b bp p3;have B3 : Sort.Below lt a b l:=bv.perm (by rw [ac.1];exact hb) p3
    have bh : (cond (decide ((a : Int) > 0)) ((idx l.toList (w64 ((a : Int) - 1))).bind fun av=>(idx l.toList (p : Int)).bind fun ao=>(q av ao).bind fun ar=>some (!(decide (ar < 0)))) (some false)) = some (decide (a > 0) && !lt l[a - 1]! l[p]!):=by
      by_cases ha : a > 0
      · have ta : decide ((a : Int) > 0) = true:=Q5 q7;have w : w64 ((a : Int) - 1) = ((a - 1 : Nat) : Int):=by rw [Qa q7];omega
        obtain ⟨r,h1,h2⟩:=hq l[a - 1]! l[p]! (u.2.2 _ q7) (u.2.2 _ q7);simp only [ta,Q3,w,gx (d:=l) (k:=a - 1) q7,gx (d:=l) (k:=p) q7,qn,h1,h2,Q5 ha,Bool.true_and]
      · have ta : decide ((a : Int) > 0) = false:=Q7 q7;simp only [ta,Q1,Q7 ha,Bool.false_and]
    simp only [bh,qn] at head;by_cases hc : (decide (a > 0) && !lt l[a - 1]! l[p]!) = true
    ·
      rw [hc] at head;have s:=qxe hq hb (by omega : a < b) (by omega : p < n) u;simp only [Bool.and_eq_true,decide_eq_true_eq,Bool.not_eq_true'] at hc
      cases hx : Sort.partitionEqual lt l a b p with
      | mk j d4=>
        obtain ⟨g1,g2,bz,cj,ad⟩:=Sort.round_eq hS (Sort.partitionEqual_holds lt) hc.1 hp1 hp2 (by rw [ax];exact hb) B3 hc.2 hx
        have cd : ∀ i,a≤i→i < b→lt l[i]! l[p]! = false:=fun i hi bx=>by
          rcases B3 with h0 | hB
          · omega
          · exact hS.ntrans _ _ _ (hB i hi bx) hc.2
        obtain ⟨_,_,v,_,_⟩:=Sort.partitionEqual_holds lt hS l a b p hp1 hp2 (by rw [ax];exact hb) cd;rw [hx] at v s;have aa:=u.perm o hb v;simp only [Q3,s,qn,Um u aa] at head;rw [Kg head];rcases ih (b - j) q7 j b l1 wb wp d4 rfl aa g2 hb an cj with ⟨R,r0,r1,r2⟩ | ⟨r1,r2⟩
        · obtain ⟨q1,q2⟩:=ad _ r1 r2;exact .inl ⟨R,r0,Sort.permIn_trans _ _ _ a b P3 q1,q2⟩
        · exact .inr ⟨q7,r2⟩
    ·
      have hc : (decide (a > 0) && !lt l[a - 1]! l[p]!) = false:=by simpa using hc
      rw [hc] at head;have s:=qxf hq hb (by omega : a < b) (by omega : p < n) u
      cases hx : Sort.partition lt l a b p with
      | mk j r=>
      cases r with
      | mk ap d4=>
        obtain ⟨g1,g2,bz,bw,cb,bg,ay⟩:=Sort.round_part hS (Sort.partition_holds lt) hp1 hp2 (by rw [ax];exact hb) B3 hx;obtain ⟨_,_,v,_,_⟩:=Sort.partition_holds lt hS l a b p hp1 hp2 (by rw [ax];exact hb);rw [hx] at v s;have aa:=u.perm o hb v;have w1 : w64 ((j : Int) - (a : Int)) = ((j - a : Nat) : Int):=wsub g1 q7;have w2 : w64 ((b : Int) - (j : Int)) = ((b - j : Nat) : Int):=wsub q7 q7;simp only [Q1,s,qn,Um u aa,w1,w2,w1p j q7] at head;by_cases df : j - a < b - j
        · have tl : decide (((j - a : Nat) : Int) < ((b - j : Nat) : Int)) = true:=Q5 q7;simp only [tl,Q3] at head;rcases am a j l1 d4 aa g1 q7 an bw with ⟨L,e,aq,bj⟩ | ⟨r1,r2⟩
          · have au:=aa.perm g1 q7 aq;obtain ⟨bk,ad⟩:=bg _ aq bj;simp only [e,qn,Um aa au] at head;rw [Kg head];rcases ih (b - (j + 1)) q7 (j + 1) b l1 _ _ L rfl au q7 hb an bk with ⟨R,r0,r1,r2⟩ | ⟨r1,r2⟩
            · obtain ⟨q1,q2⟩:=ad _ r1 r2;exact .inl ⟨R,r0,Sort.permIn_trans _ _ _ a b P3 q1,q2⟩
            · exact .inr ⟨q7,r2⟩
          · simp only [r2,Option.bind_none] at head;exact .inr ⟨q7,qlc head⟩
        · have tl : decide (((j - a : Nat) : Int) < ((b - j : Nat) : Int)) = false:=Q7 q7;simp only [tl,Q1] at head;rcases am (j + 1) b l1 d4 aa q7 hb an cb with ⟨L,e,aq,bj⟩ | ⟨r1,r2⟩
          · have au:=aa.perm (by omega : j + 1≤b) hb aq;obtain ⟨bk,ad⟩:=ay _ aq bj;simp only [e,qn,Um aa au] at head;rw [Kg head];rcases ih (j - a) q7 a j l1 _ _ L rfl au g1 q7 an bk with ⟨R,r0,r1,r2⟩ | ⟨r1,r2⟩
            · obtain ⟨q1,q2⟩:=ad _ r1 r2;exact .inl ⟨R,r0,Sort.permIn_trans _ _ _ a b P3 q1,q2⟩
            · exact .inr ⟨q7,r2⟩
          · simp only [r2,Option.bind_none] at head;exact .inr ⟨q7,qlc head⟩
theorem qmx (f : Y5 q lt P) (g : Sort.SWO lt) {n : Nat} : ∀ (N a b c : Nat) (d : Array T),AllP n P d→a≤b→b≤n→c≤1000→Sort.Below lt a b d→
    Srt lt a b d (Zc N q d.toList (a : Int) (b : Int) (c : Int))∨(N≤b - a∧Zc N q d.toList (a : Int) (b : Int) (c : Int) = none)
  | 0,a,b,c,d,_,_,_,_,_=>.inr ⟨q7,rfl⟩
  | N + 1,a,b,c,d,hd,hab,hb,hl,hB=>by
    have h:=qxg f g (N:=N) (Zc N q) (fun a b c d m j k l o=>qmx f g N a b c d m j k l o) _ a b c true true d rfl hd hab hb hl hB
    have e : Zc (N + 1) q d.toList (a : Int) (b : Int) (c : Int) = loop (Zj q (Zc N q)) ((a : Int),(b : Int),(c : Int),true,true,d.toList):=by
      show Jz (Zc N q) q d.toList (a : Int) (b : Int) (c : Int) = _;unfold Jz;cases loop (Zj q (Zc N q)) ((a : Int),(b : Int),(c : Int),true,true,d.toList) <;> rfl
    rw [e]
    exact h
theorem qhm (t : Y5 q lt P) (w : Sort.SWO lt) (xs : List T) (n : xs.length≤1000000) (v : ∀ x∈xs,P x) :
    ∃ ys,q21 q xs = some ys∧ys.Perm xs∧ys.Pairwise (fun x y=>lt y x = false):=by
  have hd : AllP xs.length P xs.toArray:=by
    refine ⟨qd,n,fun i hi=>?_⟩;have : xs.toArray[i]! = xs[i]:=by simp [hi]
    rw [this];exact v _ (Kk hi)
  have hk : Sort.bitsLen xs.length≤20:=(Sort.bitsLen_le_iff _ 20).2 q7;have c : ∀ N,_:=fun N=>qmx t w N 0 xs.length (Sort.bitsLen xs.length) xs.toArray hd q7 q7 q7 (.inl rfl);have z:=c (xs.length + 1);rcases z with ⟨d',e,_,_⟩ | ⟨h,_⟩
  · obtain ⟨r,o⟩:=qup (f:=fun N=>Zc N q xs 0 (xs.length : Int) ((Sort.bitsLen xs.length : Nat) : Int)) e;obtain ⟨N,g⟩:=qd4 o;have g : Zc N q xs 0 (xs.length : Int) ((Sort.bitsLen xs.length : Nat) : Int) = some r:=g;rcases c N with ⟨a,b,x,y⟩ | ⟨_,b⟩
    · have b : Zc N q xs 0 (xs.length : Int) ((Sort.bitsLen xs.length : Nat) : Int) = some a.toList:=b;rw [g] at b;obtain rfl : r = a.toList:=Zf b;have d : a.size = xs.length:=by rw [x.1];simp
      refine ⟨a.toList,?_,?_,?_⟩
      · unfold q21;rw [q2p,show ((xs.length : Int) % 18446744073709551616) = (xs.length : Int) by omega,ql7 _ n];simp only [qn,o];unfold Qz;rw [Q2 (by simp [d])];rfl
      · have:=x.2.2;have s : a.extract 0 xs.length = a:=by rw [← d];simp
        have p : xs.toArray.extract 0 xs.length = xs.toArray:=by simp
        rw [s,p] at this;exact this
      · rw [List.pairwise_iff_getElem];intro i j hi u k;have l : i < a.size:=by simpa using hi
        have m : j < a.size:=by simpa using u
        have:=y i j q7 k q7;rw [getElem!_pos a i l,getElem!_pos a j m] at this;simpa using this
    · have b : Zc N q xs 0 (xs.length : Int) ((Sort.bitsLen xs.length : Nat) : Int) = none:=b;rw [g] at b;cases b
  · omega
end
end Go.Sh
namespace Go.Sh
open Go Go.Am
theorem q10z : qbs = q43:=rfl
theorem q100 : q2a = q2y:=by
  funext p0;simp only [q2a,q2y,q10z]
  all_goals exact Qk
theorem qo4 : U3 = q16:=by
  funext p0;simp only [U3,q16,q100]
  all_goals exact Qk
theorem q10a : qa7 = Jw:=by
  funext p1 q1 a459;simp only [qa7,Jw]
  all_goals exact Qk
theorem q109 : qa6 = q1a:=by
  funext p2 p1 q1 a278;simp only [qa6,q1a,q10a]
  all_goals exact Qk
theorem q108 : qa5 = q24:=by
  funext q1 p0 p1 p2;simp only [qa5,q24,q109]
  all_goals exact Qk
theorem q10y : qbj = U0:=by
  funext p2 p3 q1 a197;simp only [qbj,U0]
  all_goals exact Qk
theorem qo6 : q73 = Ul:=by
  funext q1 p0 p1 p2 p3;simp only [q73,Ul,q10y]
  all_goals exact Qk
theorem q106 : q9x = q18:=by
  funext q1 p2 p1 a123;simp only [q9x,q18,qo6]
  all_goals exact Qk
theorem q107 : q9y = q19:=by
  funext p1 q1 a191;simp only [q9y,q19,qo6]
  all_goals exact Qk
theorem q105 : q9w = q23:=by
  funext q1 p0 p1 p2;simp only [q9w,q23,q106,q107]
  all_goals exact Qk
theorem q10c : Ur = q25:=by
  funext p0;simp only [Ur,q25,qo4]
  all_goals exact Qk
theorem q110 : Us = q28:=by
  funext p0;simp only [Us,q28]
  all_goals exact Qk
theorem q103 : q9m = Ue:=by
  funext p1 p2 r101 a153;simp only [q9m,Ue,q110]
  all_goals exact Qk
theorem q102 : q9l = q17:=by
  funext q1 p0 p1 p2;simp only [q9l,q17,q10c,q103]
  all_goals exact Qk
theorem q10d : q4m = Ug:=by
  funext q1 p0 p1 p2 p3;simp only [q4m,Ug]
  all_goals exact Qk
theorem qo5 : q6l = Uf:=by
  funext q1 p0 p1 p2 p3 p4;simp only [q6l,Uf,q10d]
  all_goals exact Qk
theorem q10b : q4j = Jx:=by
  funext q1 p0 p1 p2;simp only [q4j,Jx,qo5]
  all_goals exact Qk
theorem q104 : q9p = q22:=by
  funext p0 p1 p2 p3;simp only [q9p,q22,qo5,q10b]
  all_goals exact Qk
theorem q10x : qbg = q1g:=by
  funext a119;simp only [qbg,q1g]
  all_goals exact Qk
theorem q10w : qbf = q1f:=by
  funext q1 p0 p1 p2;simp only [qbf,q1f,q10x]
  all_goals exact Qk
theorem q10g : qae = Uh:=by
  funext p2 a438 q1 a681;simp only [qae,Uh]
  all_goals exact Qk
theorem q10h : qaf = Jy:=by
  funext q1 a838;simp only [qaf,Jy]
  all_goals exact Qk
theorem q10i : qag = Ui:=by
  funext p2 q1 b684 a928;simp only [qag,Ui]
  all_goals exact Qk
theorem q10f : q6r = Zr:=by
  funext p2 q1 p1 a438;have a : @q6r.match_1.{1} = @Zr.match_1.{1} qo:=by funext motive m f g;cases m <;> rfl
  unfold q6r Zr;rw [a];simp only [q10g,q10h,q10i]
theorem q10e : q6q = Jk:=by
  funext q1 p0 p1 p2;have a : @q6q.match_1.{1} = @Jk.match_1.{1} qo:=by funext motive m f g;cases m <;> rfl
  unfold q6q Jk;rw [a];simp only [q10f]
theorem q10m : qb9 = Uj:=by
  funext a318 p1 q1 a378;simp only [qb9,Uj]
  all_goals exact Qk
theorem q10n : qba = Uk:=by
  funext b381 a318 p1 q1 a463;simp only [qba,Uk]
  all_goals exact Qk
theorem q10l : qb8 = q1d:=by
  funext p1 q1 a318;simp only [qb8,q1d,q10m,q10n]
  all_goals exact Qk
theorem q10k : qb7 = q1c:=by
  funext q1 p0 p1 p2 p3;simp only [qb7,q1c,q10l]
  all_goals exact Qk
theorem q10o : qau = q26:=by
  funext p2 p0 p1 v101 p3 v103 q1 a163;simp only [qau,q26]
  all_goals exact Qk
theorem q10p : qav = q27:=by
  funext b166 p0 p1 v101 p3 v103 q1 a249;simp only [qav,q27]
  all_goals exact Qk
theorem q10r : qax = J6:=by
  funext a514 p1 q1 a572;simp only [qax,J6]
  all_goals exact Qk
theorem q10s : qay = J7:=by
  funext b575 a514 p1 q1 a658;simp only [qay,J7]
  all_goals exact Qk
theorem q10q : qaw = q1e:=by
  funext p1 q1 a514;simp only [qaw,q1e,q10r,q10s]
  all_goals exact Qk
theorem q10j : qat = q1b:=by
  funext q1 p0 p1 p2 p3;simp only [qat,q1b,q10o,q10p,q10q]
  all_goals exact Qk
theorem q10u : q6z = Zj:=by
  funext q1 rec a309;have a : @q6z.match_1.{1} = @Zj.match_1.{1} qo:=by funext motive m f g;cases m <;> rfl
  unfold q6z Zj;rw [a];simp only [q108,q105,q102,q104,q10w,q10e,q10k,q10j]
theorem q10v : q70 = Jz:=by
  funext rec q1 p0 p1 p2 p3;simp only [q70,Jz,q10u]
  all_goals exact Qk
theorem q10t : ∀ N q,q6y N q = Zc N q:=by
  intro N q
  induction N with
  | zero=>rfl
  | succ N ih=>
    funext a b c d;show q70 (q6y N q) q a b c d = Jz (Zc N q) q a b c d;rw [ih,q10v]
theorem q101 : q6i = q21:=by
  funext q1 p0;simp only [q6i,q21,qo4,q10t]
  all_goals exact Qk
end Go.Sh
namespace Go.Sh
open Go Go.Am
instance : Inhabited qo:=⟨⟨0,0,0⟩⟩
theorem q12d (q : qo→qo→Option Int) (xs : List qo) : q6i q xs = q21 q xs:=by rw [q101]
def evs (s : List qj) (l : Int) : List qo:=s.flatMap fun t=>[{at_:=t.Lo,list_:=l,by_:=1},{at_:=t.Hi,list_:=l,by_:=-1}]
theorem q7w (s : List qj) (l : Int) : (evs s l).length = 2 * s.length:=by
  induction s with
  | nil=>rfl
  | cons t s ih=>simp only [evs,List.flatMap_cons,List.length_append,List.length_cons,List.length_nil] at ih ⊢;omega
theorem qd9 {s : List qj} {l : Int} {e : qo} (h : e∈evs s l) : e.list_ = l∧(e.by_ = 1∨e.by_ = -1)∧∃ t∈s,e.at_ = t.Lo∨e.at_ = t.Hi:=by
  simp only [evs,List.mem_flatMap] at h;obtain ⟨t,a,h⟩:=h;simp only [List.mem_cons,List.not_mem_nil,or_false] at h;rcases h with rfl | rfl
  · exact ⟨rfl,.inl rfl,t,a,.inl rfl⟩
  · exact ⟨rfl,.inr rfl,t,a,.inr rfl⟩
theorem qjq (s : List qj) (l : Int) (y : List qo) (hs : s.length≤1000) (base : List qo) (hb : base.length≤10000) :
    loop (q4o s (l,y)) (0,base) = some (base ++ evs s l):=by
  have:=Ks (f:=q4o s (l,y)) (σ:=List qo) (fun k c=>((k : Int),c)) s.length (fun k c=>c = base ++ evs (s.take k) l) (fun t=>t = base ++ evs s l) ?_ ?_ (k0:=0) (c0:=base) q7 (by simp [evs])
  · obtain ⟨b,g,rfl⟩:=this;exact g
  · rintro k c hk rfl;have a : decide ((k : Int) < (s.length : Int)) = true:=Q5 q7;refine .inl ⟨base ++ evs (s.take (k + 1)) l,?_,rfl⟩;have d : (evs (s.take k) l).length≤2000:=by rw [q7w,List.length_take];omega
    simp only [q4o,a,Q3,Qu hk,qn];rw [Yd (by rw [List.length_append];simp only [List.length_cons,List.length_nil];omega),qn,Qa q7,List.take_succ_eq_append_getElem hk,List.append_assoc];have : evs (s.take k ++ [s[k]]) l = evs (s.take k) l ++ [{at_:=s[k].Lo,list_:=l,by_:=1},{at_:=s[k].Hi,list_:=l,by_:=-1}]:=by simp only [evs,List.flatMap_append,List.flatMap_cons,List.flatMap_nil,List.append_nil]
    rw [this];rfl
  · rintro c rfl;have a : decide ((s.length : Int) < (s.length : Int)) = false:=Q7 q7;exact ⟨_,by simp only [q4o,a,Q1];rfl,by rw [List.take_length]⟩
def ltE (a b : qo) : Bool:=decide (a.at_ < b.at_)
def inE (e : qo) : Prop:=-1000000≤e.at_∧e.at_≤1000000
theorem swoE : Sort.SWO ltE where
  irrefl:=by intro x;simp [ltE]
  trans:=by intro x y z;simp only [ltE,decide_eq_true_eq];omega
  ntrans:=by intro x y z;simp only [ltE,decide_eq_false_iff_not];omega
theorem cmpE : Y5 (fun a b=>qbm a b) ltE inE:=by
  rintro x y ⟨c,f⟩ ⟨d,g⟩;refine ⟨x.at_ - y.at_,?_,?_⟩
  · show some (w64 (x.at_ - y.at_)) = _;rw [Qa q7]
  · unfold ltE;exact decide_eq_decide.2 q7
theorem q12c (p q : List qj) (hp : p.length≤500) (u : q.length≤500) (s : ∀ t∈p,vld t) (k : ∀ t∈q,vld t) :
    ∃ ys,qbn [p,q] = some ([p,q],ys)∧ys.Perm (evs p 0 ++ evs q 1)∧ys.Pairwise (fun x y=>x.at_≤y.at_):=by
  have n : ∀ x∈evs p 0 ++ evs q 1,inE x:=by
    intro x m;rcases List.mem_append.1 m with h | h
    · obtain ⟨_,_,t,g,h⟩:=qd9 h;obtain ⟨a,b,c⟩:=s t g;unfold inE;rcases h with h | h <;> omega
    · obtain ⟨_,_,t,g,h⟩:=qd9 h;obtain ⟨a,b,c⟩:=k t g;unfold inE;rcases h with h | h <;> omega
  have v:=q7w p 0;have w:=q7w q 1;obtain ⟨ys,r,j,l⟩:=qhm cmpE swoE (evs p 0 ++ evs q 1) (by rw [List.length_append];omega) n;refine ⟨ys,?_,j,l.imp (fun {x y} h=>by simp only [ltE,decide_eq_false_iff_not] at h;omega)⟩
  have d : loop (q1q [p,q]) (0,[]) = some (evs p 0 ++ evs q 1):=by
    have s0 : q1q [p,q] (0,[]) = some (.inl (1,evs p 0)):=by
      have t : decide ((0 : Int) < (([p,q] : List (List qj)).length : Int)) = true:=rfl;simp only [q1q,t,Q3];have : idx [p,q] 0 = some p:=rfl;rw [this];simp only [qn,qjq p 0 [] q7 [] qd,List.nil_append];rfl
    have s1 : q1q [p,q] (1,evs p 0) = some (.inl (2,evs p 0 ++ evs q 1)):=by
      have t : decide ((1 : Int) < (([p,q] : List (List qj)).length : Int)) = true:=rfl;simp only [q1q,t,Q3];have : idx [p,q] 1 = some q:=rfl;rw [this];simp only [qn,qjq q 1 (evs p 0) q7 (evs p 0) q7];rfl
    have o : q1q [p,q] (2,evs p 0 ++ evs q 1) = some (.inr (evs p 0 ++ evs q 1)):=by
      have t : decide ((2 : Int) < (([p,q] : List (List qj)).length : Int)) = false:=rfl;simp only [q1q,t,Q1]
    rw [Kg s0,Kg s1,Kf o]
  unfold qbn;rw [d];simp only [qn,q12d,r];have le : Qz ys.length (evs p 0 ++ evs q 1).length = some ():=by unfold Qz;rw [Q2 j.length_eq]
  have f : Qz ys.length ys.length = some ():=by unfold Qz;rw [Q2 rfl]
  simp only [le,qn,qe4,f]
def cnt (l : Int) (c : Int→Bool) : List qo→Int
  | []=>0
  | e::es=>(if e.list_ = l∧c e.at_ = true then e.by_ else 0) + cnt l c es
theorem q2r (l : Int) (c : Int→Bool) (a b : List qo) : cnt l c (a ++ b) = cnt l c a + cnt l c b:=by
  induction a with
  | nil=>simp [cnt]
  | cons e a ih=>simp only [List.cons_append,cnt,ih];omega
theorem qj2 {l : Int} {c : Int→Bool} {a b : List qo} (h : a.Perm b) : cnt l c a = cnt l c b:=by
  induction h with
  | nil=>rfl
  | cons x _ ih=>simp only [cnt,ih]
  | swap x y l=>simp only [cnt];omega
  | trans _ _ ih1 ih2=>rw [ih1,ih2]
theorem qiz {l : Int} {c b : Int→Bool} : ∀ {a : List qo},(∀ e∈a,c e.at_ = b e.at_)→cnt l c a = cnt l b a
  | [],_=>rfl
  | e::a,h=>by simp only [cnt,h e qd,qiz (fun e d=>h e (List.mem_cons_of_mem _ d))]
theorem qj1 {l : Int} {c : Int→Bool} : ∀ {a : List qo},(∀ e∈a,c e.at_ = false)→cnt l c a = 0
  | [],_=>rfl
  | e::a,h=>by
    simp only [cnt,qj1 (fun e b=>h e (List.mem_cons_of_mem _ b)),h e qd]
    simp
theorem q7n {s : List qj} {l l' : Int} {c : Int→Bool} (h : l≠l') : cnt l c (evs s l') = 0:=by
  induction s with
  | nil=>rfl
  | cons t s ih=>
    have : evs (t::s) l' = [{at_:=t.Lo,list_:=l',by_:=1},{at_:=t.Hi,list_:=l',by_:=-1}] ++ evs s l':=rfl;rw [this,q2r,ih];have a : ¬ l' = l:=fun e=>h e.symm;simp [cnt,a]
theorem qj0 {s : List qj} {l : Int} (v : ∀ t∈s,vld t) (x : Int) : 0≤cnt l (fun a=>decide (a≤x)) (evs s l)∧(0 < cnt l (fun a=>decide (a≤x)) (evs s l)↔has s x):=by
  induction s with
  | nil=>exact ⟨Int.le_refl 0,by simp [evs,cnt,has]⟩
  | cons t s ih=>
    obtain ⟨f,c⟩:=ih (fun t d=>v t (List.mem_cons_of_mem _ d));have b:=v t qd;have : evs (t::s) l = [{at_:=t.Lo,list_:=l,by_:=1},{at_:=t.Hi,list_:=l,by_:=-1}] ++ evs s l:=rfl;rw [this,q2r,J0,← c];obtain ⟨j,h,g⟩:=b;simp only [cnt,true_and,decide_eq_true_eq];split <;> split <;> omega
theorem qj3 {s : List qj} {l : Int} : cnt l (fun _=>true) (evs s l) = 0:=by
  induction s with
  | nil=>rfl
  | cons t s ih=>
    have : evs (t::s) l = [{at_:=t.Lo,list_:=l,by_:=1},{at_:=t.Hi,list_:=l,by_:=-1}] ++ evs s l:=rfl;rw [this,q2r,ih];simp [cnt]
theorem qf5 {l : Int} {c : Int→Bool} : ∀ {a : List qo},(∀ e∈a,e.by_ = 1∨e.by_ = -1)→-(a.length : Int)≤cnt l c a∧cnt l c a≤(a.length : Int)
  | [],_=>by simp [cnt]
  | e::a,h=>by
    obtain ⟨d,f⟩:=qf5 (l:=l) (c:=c) (fun e b=>h e (List.mem_cons_of_mem _ b))
    have:=h e qd
    simp only [cnt,List.length_cons]
    split <;> omega
end Go.Sh
namespace Go.Sh
open Go Go.Am
theorem qr1 (at_ a : Int) (inn : Bool) (out : List qj) (h : out.length≤10000) :
    qbo at_ inn a out = some (if inn = true∧a≠at_ then addS out a at_ else out):=by
  unfold qbo
  cases inn with
  | false=>rfl
  | true=>
    by_cases b : a = at_
    · simp [b]
    · have hb : (a == at_) = false:=by simpa using b
      simp only [Bool.not_true,Q1,qn,hb];rw [Q2 ⟨trivial,b⟩];rcases qe5 out with rfl | ⟨d,t,rfl⟩
      · rfl
      · have l : (d ++ [t]).length = d.length + 1:=by simp
        have j : decide (((d ++ [t]).length : Int) > 0) = true:=Q5 q7;have g : w64 (((d ++ [t]).length : Int) - 1) = (d.length : Int):=by rw [Qa q7];omega
        have k : idx (d ++ [t]) (d.length : Int) = some t:=by
          rw [Qu q7];simp
        simp only [j,Q3,g,k,qn];by_cases c : t.Hi = a
        · subst c;simp only [beq_self_eq_true,Q3,qc6,Int.toNat_natCast,qo9]
        · have f : (t.Hi == a) = false:=by simpa using c
          simp only [f,Q1,qc7 c];rw [Yd (by simp;omega)];rfl
open Classical in
structure qpk (f : Bool→Bool→Bool) (p q : List qj) (ys : List qo) (k : Nat) (c : List Int × Int × Bool × List qj) : Prop where
  opn : c.1 = [cnt 0 (fun _=>true) (ys.take k),cnt 1 (fun _=>true) (ys.take k)]
  inn : c.2.2.1 = f (decide (0 < cnt 0 (fun _=>true) (ys.take k))) (decide (0 < cnt 1 (fun _=>true) (ys.take k)))
  lst : ∀ (h : k - 1 < ys.length),0 < k→c.2.1 = ys[k - 1].at_
  can : Can c.2.2.2
  his : ∀ t∈c.2.2.2,t.Hi≤c.2.1
  zro : k = 0→c.2.2.2 = []
  pts : ∀ x,has c.2.2.2 x↔0 < k∧x < c.2.1∧f (decide (has p x)) (decide (has q x)) = true
  len : c.2.2.2.length≤k
theorem qpl (c : List qj) (a b : Int) : (addS c a b).length≤c.length + 1:=by
  rcases qe5 c with rfl | ⟨d,t,rfl⟩
  · simp [qi7]
  · by_cases h : t.Hi = a
    · subst h;rw [qc6];simp
    · rw [qc7 h];simp
theorem qiy {p q : List qj} {ys : List qo} (hp : ∀ t∈p,vld t) (f : ∀ t∈q,vld t) (b : ys.Perm (evs p 0 ++ evs q 1)) (_ : ys.Pairwise (fun x y=>x.at_≤y.at_)) (k : Nat) (x : Int)
    (g : ∀ i (h : i < ys.length),i < k→ys[i].at_≤x) (d : ∀ i (h : i < ys.length),k≤i→x < ys[i].at_) :
    (0 < cnt 0 (fun _=>true) (ys.take k)↔has p x)∧(0 < cnt 1 (fun _=>true) (ys.take k)↔has q x):=by
  have key : ∀ l,cnt l (fun _=>true) (ys.take k) = cnt l (fun a=>decide (a≤x)) (evs p 0) + cnt l (fun a=>decide (a≤x)) (evs q 1):=by
    intro l;rw [← q2r,← qj2 b]
    conv=>rhs;rw [← List.take_append_drop k ys]
    rw [q2r]
    have m : cnt l (fun a=>decide (a≤x)) (ys.drop k) = 0:=by
      refine qj1 fun e c=>?_;obtain ⟨i,hi,rfl⟩:=List.mem_iff_getElem.1 c;rw [List.getElem_drop];rw [List.length_drop] at hi;have:=d (k + i) q7 q7;exact Q7 q7
    have n : cnt l (fun a=>decide (a≤x)) (ys.take k) = cnt l (fun _=>true) (ys.take k):=by
      refine qiz fun e c=>?_;obtain ⟨i,hi,rfl⟩:=List.mem_iff_getElem.1 c;rw [List.getElem_take];rw [List.length_take] at hi;exact Q5 (g i q7 q7)
    rw [m,n];omega
  rw [key 0,key 1,q7n (l:=0) (l':=1) qz,q7n (l:=1) (l':=0) qz];have e1:=qj0 (l:=0) hp x;have j:=qj0 (l:=1) f x;rw [Int.add_zero,Int.zero_add];exact ⟨e1.2,j.2⟩
open Classical in
theorem qu3 (f : Bool→Bool→Bool) (hf : f false false = false) (p2 : Bool→Bool→Option Bool) (hp2 : ∀ a b,p2 a b = some (f a b)) (p q : List qj)
    (hp : p.length≤500) (hq : q.length≤500) (vp : ∀ t∈p,vld t) (vq : ∀ t∈q,vld t) :
    ∃ out,q75 p q p2 = some out∧Can out∧∀ x,has out x↔f (decide (has p x)) (decide (has q x)) = true:=by
  obtain ⟨ys,e1,g,hs⟩:=q12c p q hp hq vp vq;have bd : ys.length≤2000:=by rw [g.length_eq,List.length_append,q7w,q7w];omega
  have w : ∀ i j (hi : i < ys.length) (hj : j < ys.length),i≤j→ys[i].at_≤ys[j].at_:=by
    intro i j hi hj bl;rcases Nat.lt_or_ge i j with h | h
    · exact List.pairwise_iff_getElem.1 hs i j hi hj h
    · obtain rfl : i = j:=by omega
      exact Int.le_refl _
  have y : ∀ e∈ys,(e.list_ = 0∨e.list_ = 1)∧(e.by_ = 1∨e.by_ = -1):=by
    intro e he;rcases List.mem_append.1 (g.mem_iff.1 he) with h | h
    · obtain ⟨a,b,_⟩:=qd9 h;exact ⟨.inl a,b⟩
    · obtain ⟨a,b,_⟩:=qd9 h;exact ⟨.inr a,b⟩
  have:=Ks (f:=q4p ([p,q],ys) p2) (σ:=List Int × Int × Bool × List qj) (fun k c=>((k : Int),c)) ys.length (qpk f p q ys) (fun out=>Can out∧∀ x,has out x↔f (decide (has p x)) (decide (has q x)) = true) ?_ ?_ (k0:=0) (c0:=([0,0],0,false,[])) q7 ?_
  · obtain ⟨out,r,m⟩:=this;refine ⟨out,?_,m⟩;unfold q75;have r : loop (q4p ([p,q],ys) p2) (0,[0,0],0,false,[]) = some out:=r;rw [e1];simp only [qn,r];rfl
  · rintro k ⟨opn,d,inn,out⟩ hk ⟨s1,s2,s3,s4,s5,s6,s7,s8⟩;simp only at s1 s2 s3 s4 s5 s6 s7 s8;have ae : decide ((k : Int) < (ys.length : Int)) = true:=Q5 q7;have bc:=qr1 ys[k].at_ d inn out q7;have hm:=y ys[k] (Kk hk);have ba : ys.take (k + 1) = ys.take k ++ [ys[k]]:=List.take_succ_eq_append_getElem hk;have aj : ∀ e∈ys.take k,e.by_ = 1∨e.by_ = -1:=fun e he=>(y e (List.mem_of_mem_take he)).2;have b0:=qf5 (l:=0) (c:=fun _=>true) aj;have b1:=qf5 (l:=1) (c:=fun _=>true) aj;have aq : (ys.take k).length = k:=by rw [List.length_take];omega
    rw [aq] at b0 b1
    have ad : ∃ v,idxA 2 opn ys[k].list_ = some v∧opn.set ys[k].list_.toNat (w64 (v + ys[k].by_)) = [cnt 0 (fun _=>true) (ys.take (k + 1)),cnt 1 (fun _=>true) (ys.take (k + 1))]:=by
      subst s1;rw [ba,q2r,q2r];rcases hm.1 with h | h
      · refine ⟨cnt 0 (fun _=>true) (ys.take k),by rw [h];rfl,?_⟩;rw [h,Qa q7];simp [cnt,h]
      · refine ⟨cnt 1 (fun _=>true) (ys.take k),by rw [h];rfl,?_⟩;rw [h,Qa q7];simp [cnt,h]
    obtain ⟨v,o1,o2⟩:=ad;refine .inl ⟨([cnt 0 (fun _=>true) (ys.take (k + 1)),cnt 1 (fun _=>true) (ys.take (k + 1))],ys[k].at_,f (decide (0 < cnt 0 (fun _=>true) (ys.take (k + 1)))) (decide (0 < cnt 1 (fun _=>true) (ys.take (k + 1)))),if inn = true∧d≠ys[k].at_ then addS out d ys[k].at_ else out),?_,?_⟩
    · have x0 : ∀ a b : Int,idxA 2 [a,b] 0 = some a:=fun a b=>rfl;have x1 : ∀ a b : Int,idxA 2 [a,b] 1 = some b:=fun a b=>rfl;simp only [q4p,ae,Q3,Qu hk,qn,bc,o1,o2,x0,x1,hp2];rw [Qa q7];rfl
    · have ac : ∀ x,(0 < k→d≤x)→∀ i (h : i < ys.length),i < k→ys[i].at_≤x:=by
        intro x o i hi an;have:=s3 q7 q7;have:=w i (k - 1) hi q7 q7;have:=o q7;omega
      have ab : ∀ x,x < ys[k].at_→∀ i (h : i < ys.length),k≤i→x < ys[i].at_:=by
        intro x o i hi an;have:=w k i hk hi an;omega
      have hF : ∀ x,(0 < k→d≤x)→x < ys[k].at_→f (decide (has p x)) (decide (has q x)) = inn:=by
        intro x o ap;obtain ⟨c1,c2⟩:=qiy vp vq g hs k x (ac x o) (ab x ap);rw [s2,decide_eq_decide.2 c1,decide_eq_decide.2 c2]
      have n : 0 < k→d≤ys[k].at_:=by
        intro u;rw [s3 q7 u];exact w (k - 1) k q7 hk q7
      have z : k = 0→inn = false:=by
        intro u;subst u;rw [s2];exact hf
      by_cases s : inn = true∧d≠ys[k].at_
      · have ai : 0 < k:=by
          rcases Nat.eq_zero_or_pos k with h | h
          · rw [z h] at s;cases s.1
          · exact h
        have hl:=n ai;have az : d < ys[k].at_:=by have:=s.2;omega
        obtain ⟨d1,d2,d3,d4⟩:=qi8 s4 s5 az;constructor
        · rfl
        · rfl
        · intro h _;rfl
        · simp only [Q2 s];exact d1
        · simp only [Q2 s];exact d3
        · omega
        · intro x;simp only [Q2 s];rw [d2,s7];constructor
          · rintro (⟨u,r,m⟩ | ⟨r,m⟩)
            · exact ⟨q7,q7,m⟩
            · exact ⟨q7,m,by rw [hF x (fun _=>r) m];exact s.1⟩
          · rintro ⟨u,r,m⟩;by_cases o : x < d
            · exact .inl ⟨ai,o,m⟩
            · exact .inr ⟨q7,r⟩
        · simp only [Q2 s];have:=qpl out d ys[k].at_;omega
      · constructor
        · rfl
        · rfl
        · intro h _;rfl
        · simp only [Q4 s];exact s4
        · simp only [Q4 s];intro t ht;rcases Nat.eq_zero_or_pos k with h | h
          · rw [s6 h] at ht;cases ht
          · have:=s5 t ht;have:=n h;omega
        · omega
        · intro x;simp only [Q4 s];rw [s7];constructor
          · rintro ⟨u,r,m⟩;exact ⟨q7,by have:=n u;omega,m⟩
          · rintro ⟨u,r,m⟩;by_cases o : 0 < k∧x < d
            · exact ⟨o.1,o.2,m⟩
            · have ak : 0 < k→d≤x:=fun h=>by
                refine Int.not_lt.1 fun h'=>o ⟨h,h'⟩
              have:=hF x ak r;rw [this] at m;refine absurd ⟨m,?_⟩ s;intro e;rcases Nat.eq_zero_or_pos k with h | h
              · rw [z h] at m;cases m
              · have:=ak h;omega
        · simp only [Q4 s];omega
  · rintro ⟨opn,d,inn,out⟩ ⟨s1,s2,s3,s4,s5,s6,s7,s8⟩;simp only at s1 s2 s3 s4 s5 s6 s7 s8;have ae : decide ((ys.length : Int) < (ys.length : Int)) = false:=Q7 q7;refine ⟨out,by simp only [q4p,ae,Q1],s4,fun x=>?_⟩;rw [s7];constructor
    · rintro ⟨_,_,h⟩;exact h
    · intro h;by_cases o : 0 < ys.length∧x < d
      · exact ⟨o.1,o.2,h⟩
      · obtain ⟨c1, c2⟩ := qiy vp vq g hs ys.length x (fun i hi _ => by
            have:=s3 q7 q7;have:=w i (ys.length - 1) hi q7 q7;have : d≤x:=Int.not_lt.1 fun h'=>o ⟨q7,h'⟩
            omega) (fun i hi bi=>q7)
        have aw : ∀ l,cnt l (fun _=>true) (ys.take ys.length) = 0:=by
          intro l;rw [List.take_length,qj2 g,q2r];by_cases u : l = 0
          · subst u;rw [qj3,q7n qz];rfl
          · rw [q7n u];by_cases r : l = 1
            · subst r;rw [qj3];rfl
            · rw [q7n r];rfl
        rw [aw] at c1 c2;have n1 : ¬ has p x:=fun h=>absurd (c1.2 h) qz;have n2 : ¬ has q x:=fun h=>absurd (c2.2 h) qz;rw [Q7 n1,Q7 n2,hf] at h;cases h
  · constructor
    · simp [cnt]
    · simp [cnt,hf]
    · intro h u;omega
    · exact ⟨fun t ht=>(by cases ht),.nil⟩
    · intro t ht;cases ht
    · intro _;rfl
    · intro x;simp [has]
    · simp
end Go.Sh
namespace Go.Sh
open Go Go.Am
theorem qqy {s : List qj} (h : q13 s = 0) : s.length≤400∧Good s:=by
  unfold q13 at h;split at h
  · cases h
  · split at h
    · rename_i b a;exact ⟨q7,a⟩
    · cases h
def dst (x : Int) (t : qj) : Int:=max (max (t.Lo - x) (x - t.Hi + 1)) 0
end Go.Sh
namespace Go.Sh
open Go Go.Am
noncomputable def U1 (kind : Int) (p q : List qj) : List qj:=(qdo kind p q).getD []
theorem qks (kind : Int) (p q : List qj) (hp : p.length≤100000) (b : q.length≤100000) : qdo kind p q = some (U1 kind p q)∧qeo kind p q (U1 kind p q):=by
  obtain ⟨out,a,c⟩:=qu5 kind p q hp b;unfold U1;rw [a];exact ⟨rfl,c⟩
theorem qtv (s : List qj) (b : qj→Option Bool) (c : qj→Bool) (h : ∀ t,b t = some (c t)) (p : s.length≤1000000) :
    ∃ r,q9f s b = some r∧decide (r ≥ 0) = s.any c:=by
  have:=Ks (f:=q3e s b) (σ:=Unit) (fun k _=>(k : Int)) s.length (fun k _=>∀ i (h : i < s.length),i < k→c s[i] = false)
    (fun m=>∃ r : Int,(match m with | .inl b22=>some (-1) | .inr x1=>some x1) = some r∧decide (r ≥ 0) = s.any c) ?_ ?_ (k0:=0) (c0:=()) q7 (fun i _ hi=>q7)
  · obtain ⟨m,g,r,j,n⟩:=this;have g : loop (q3e s b) 0 = some m:=g;exact ⟨r,by unfold q9f;rw [g];exact j,n⟩
  · rintro k _ hk hi;have hb : decide ((k : Int) < (s.length : Int)) = true:=Q5 q7
    cases d : c s[k] with
    | true=>
      refine .inr ⟨.inr (k : Int),?_,(k : Int),rfl,?_⟩
      · simp only [q3e,hb,Q3,Qu hk,qn,h,d]
      · have : s.any c = true:=List.any_eq_true.2 ⟨s[k],Kk hk,d⟩;rw [this];exact Q5 q7
    | false=>
      refine .inl ⟨(),?_,?_⟩
      · simp only [q3e,hb,Q3,Qu hk,qn,h,d,Q1];rw [Qa q7];rfl
      · intro i a o;by_cases e : i = k
        · subst e;exact d
        · exact hi i a q7
  · rintro _ hi;have hb : decide ((s.length : Int) < (s.length : Int)) = false:=Q7 q7;refine ⟨.inl (),by simp only [q3e,hb,Q1],-1,rfl,?_⟩
    have : s.any c = false:=by
      rw [List.any_eq_false];intro t l;obtain ⟨i,a,rfl⟩:=List.mem_iff_getElem.1 l;simp [hi i a a]
    rw [this];rfl
theorem qja (s : List qj) (a : qj→Option Bool) (c : qj→Bool) (h : ∀ t,a t = some (c t)) (b : s.length≤1000000) : q6d s a = some (s.any c):=by
  obtain ⟨r,f,d⟩:=qtv s a c h b;unfold q6d;rw [f,qn,d]
open Classical in
theorem q58 (s : List qj) (x : Int) (c : s.length≤1000000) : q1p s x = some (decide (has s x)):=by
  unfold q1p
  rw [qja s _ (fun t=>decide (t.Lo≤x∧x < t.Hi)) (fun t=>by
    show (cond (decide (t.Lo≤x)) (some (decide (x < t.Hi))) (some false)).bind (fun c1=>some c1) = _;by_cases a : t.Lo≤x
    · simp [a]
    · simp [a]) c,qn]
  congr 1;by_cases h : has s x
  · rw [Q5 h,List.any_eq_true];obtain ⟨t,b,h⟩:=h;exact ⟨t,b,Q5 h⟩
  · rw [Q7 h,List.any_eq_false];intro t b a;exact h ⟨t,b,of_decide_eq_true a⟩
open Classical in
noncomputable def qd6 (s : List qj) : List qj × Int:=if 400 < s.length then ([],4) else if ∀ t∈s,vld t then (U1 2 s [],0) else ([],8)
theorem qv2 (s : List qj) (k : s.length≤400) (c : ∀ t∈s,vld t) (p2 : Bool→Bool→Option Bool) (hp2 : ∀ a b,p2 a b = some a) : q75 s [] p2 = some (U1 2 s []):=by
  classical
  obtain ⟨out,f,d,h⟩:=qu3 (fun a _=>a) rfl p2 hp2 s [] q7 qd c (fun t g=>by cases g);obtain ⟨_,j⟩:=qks 2 s [] q7 qd;rw [f];congr 1;refine qin d j.can fun x=>?_;rw [h,j.pts];simp [q29,q1h]
theorem qv1 (s : List qj) : q2i s = some (qd6 s):=by
  classical
  unfold q2i qd6;by_cases f : 400 < s.length
  · have e : decide ((s.length : Int) > 400) = true:=Q5 q7;rw [e,Q2 f];rfl
  · have e : decide ((s.length : Int) > 400) = false:=Q7 q7;rw [e,Q4 f,Q1,qja s _ (fun t=>!decide (vld t)) (fun t=>by show (q3f t).bind _ = _;rw [qp8];rfl) q7,qn];by_cases c : ∀ t∈s,vld t
    · have : (s.any fun t=>!decide (vld t)) = false:=by
        rw [List.any_eq_false];intro t d;simp [c t d]
      rw [this,Q1,Q2 c,qv2 s q7 c (fun g j=>qbl g j) (fun a b=>rfl)];rfl
    · have : (s.any fun t=>!decide (vld t)) = true:=by
        rw [List.any_eq_true];obtain ⟨t,c⟩:=Classical.not_forall.1 c;obtain ⟨d,h⟩:=Classical.not_imp.1 c;exact ⟨t,d,by simp [h]⟩
      rw [this,Q3,Q4 c]
def lenL : List qj→Int
  | []=>0
  | t::s=>(t.Hi - t.Lo) + lenL s
theorem ql4 (a b : List qj) : lenL (a ++ b) = lenL a + lenL b:=by
  induction a with
  | nil=>simp [lenL]
  | cons t a ih=>simp only [List.cons_append,lenL,ih];omega
theorem ql5 : ∀ {s : List qj},(∀ t∈s,vld t)→0≤lenL s∧lenL s≤2000000 * (s.length : Int)
  | [],_=>by simp [lenL]
  | t::s,h=>by
    obtain ⟨d,b⟩:=ql5 (fun t a=>h t (List.mem_cons_of_mem _ a))
    obtain ⟨g,f,c⟩:=h t qd
    simp only [lenL,List.length_cons]
    omega
noncomputable def qg2 (s : List qj) : Int × Int:=if q13 s = 0 then (lenL s,0) else (0,q13 s)
theorem que (s : List qj) (n : s.length≤400) (d : ∀ t∈s,vld t) : loop (qbk s) (0,0) = some (lenL s)∧loop (q8s s) (0,0) = some (lenL s):=by
  have a : ∀ k,0≤lenL (s.take k)∧lenL (s.take k)≤800000000:=by
    intro k;have:=ql5 (s:=s.take k) (fun t m=>d t (List.mem_of_mem_take m));have : (s.take k).length≤400:=by rw [List.length_take];omega
    omega
  constructor
  · have:=Ks (f:=qbk s) (σ:=Int) (fun k c=>(c,(k : Int))) s.length (fun k c=>c = lenL (s.take k)) (fun r=>r = lenL s) ?_ ?_ (k0:=0) (c0:=0) q7 (by simp [lenL])
    · obtain ⟨b,g,rfl⟩:=this;exact g
    · rintro k c hk rfl;have hb : decide ((k : Int) < (s.length : Int)) = true:=Q5 q7;obtain ⟨l,j,h⟩:=d _ (Kk hk);have:=a k;refine .inl ⟨lenL (s.take (k + 1)),?_,rfl⟩;simp only [qbk,hb,Q3,Qu hk,qn];rw [Qa (x:=s[k].Hi - s[k].Lo) q7,Qa (x:=lenL (s.take k) + _) q7,Qa q7,List.take_succ_eq_append_getElem hk,ql4];simp only [lenL,Int.add_zero];rfl
    · rintro c rfl;have hb : decide ((s.length : Int) < (s.length : Int)) = false:=Q7 q7;exact ⟨_,by simp only [qbk,hb,Q1];rfl,by rw [List.take_length]⟩
  · have:=Ks (f:=q8s s) (σ:=Int) (fun k c=>(c,(k : Int))) s.length (fun k c=>c = lenL (s.take k)) (fun r=>r = lenL s) ?_ ?_ (k0:=0) (c0:=0) q7 (by simp [lenL])
    · obtain ⟨b,g,rfl⟩:=this;exact g
    · rintro k c hk rfl;have hb : decide ((k : Int) < (s.length : Int)) = true:=Q5 q7;obtain ⟨l,j,h⟩:=d _ (Kk hk);have:=a k;refine .inl ⟨lenL (s.take (k + 1)),?_,rfl⟩;simp only [q8s,hb,Q3,Qu hk,qn];rw [Qa (x:=lenL (s.take k) + s[k].Hi) q7,Qa (x:=lenL (s.take k) + s[k].Hi - _) q7,Qa q7,List.take_succ_eq_append_getElem hk,ql4];have : lenL (s.take k) + s[k].Hi - s[k].Lo = lenL (s.take k) + lenL [s[k]]:=by simp only [lenL];omega
      rw [this];rfl
    · rintro c rfl;have hb : decide ((s.length : Int) < (s.length : Int)) = false:=Q7 q7;exact ⟨_,by simp only [q8s,hb,Q1];rfl,by rw [List.take_length]⟩
theorem q140 (s : List qj) : qom s = some (qg2 s)∧qn8 s = some (qg2 s):=by
  unfold qom qn8 qg2;simp only [qiu,qyt,qn];by_cases h : q13 s = 0
  · obtain ⟨c,d⟩:=qqy h;obtain ⟨a,b⟩:=que s c d.1;have e : (q13 s != 0) = false:=by simpa using h
    simp only [e,Q1,a,b,qn];simp only [h,if_true];exact ⟨trivial,trivial⟩
  · have e : (q13 s != 0) = true:=by simpa using h
    simp only [e,Q3,Q4 h];exact ⟨trivial,trivial⟩
end Go.Sh
namespace Go.Sh
open Go Go.Am
section
variable {α β : Type} [DecidableEq α]
theorem qdd {z : β} {k : α} {v : β} : ∀ {R : List (α × β)},(R.map (·.1)).Nodup→(k,v)∈R→K6 z k R = v
  | [],_,h=>by cases h
  | (a,w)::r,hn,h=>by
    simp only [List.map_cons,List.nodup_cons] at hn
    simp only [K6]
    rcases List.mem_cons.1 h with h | h
    · cases h;rw [Q2 rfl]
    · have : k≠a:=fun e=>hn.1 (e ▸ List.mem_map_of_mem (f:=(·.1)) h)
      rw [Q4 this];exact qdd hn.2 h
theorem qde {z : β} {k : α} : ∀ {R : List (α × β)},k ∉ R.map (·.1)→K6 z k R = z
  | [],_=>rfl
  | (a,w)::r,h=>by
    simp only [List.map_cons,List.mem_cons,not_or] at h
    simp only [K6,Q4 h.1];exact qde h.2
theorem qg7 {k : α} {v : β} : ∀ {R : List (α × β)},(R.map (·.1)).Nodup→∀ a w,((a,w)∈K9 k v R↔(a = k∧w = v)∨(a≠k∧(a,w)∈R))
  | [],_,a,w=>by simp [K9]
  | (b,u)::r,hn,a,w=>by
    simp only [List.map_cons,List.nodup_cons] at hn
    simp only [K9]
    by_cases e : k = b
    · subst e
      rw [Q2 rfl,List.mem_cons,Prod.mk.injEq,List.mem_cons,Prod.mk.injEq]
      constructor
      · rintro (h | h)
        · exact .inl h
        · exact .inr ⟨fun e=>hn.1 (e ▸ List.mem_map_of_mem (f:=(·.1)) h),.inr h⟩
      · rintro (h | ⟨c,h | h⟩)
        · exact .inl h
        · exact absurd h.1 c
        · exact .inr h
    · rw [Q4 e,List.mem_cons,qg7 hn.2 a w,List.mem_cons,Prod.mk.injEq]
      constructor
      · rintro (⟨rfl,rfl⟩ | h | ⟨c,d⟩)
        · exact .inr ⟨fun h=>e h.symm,.inl ⟨rfl,rfl⟩⟩
        · exact .inl h
        · exact .inr ⟨c,.inr d⟩
      · rintro (h | ⟨c,h | h⟩)
        · exact .inr (.inl h)
        · exact .inl h
        · exact .inr (.inr ⟨c,h⟩)
theorem q8f {k : α} {v : β} : ∀ {R : List (α × β)} (a : α),a∈(K9 k v R).map (·.1)↔a = k∨a∈R.map (·.1)
  | [],a=>by simp [K9]
  | (b,u)::r,a=>by
    simp only [K9]
    by_cases e : k = b
    · subst e;simp
    · simp only [e,if_false,List.map_cons,List.mem_cons,q8f a];constructor <;> (rintro (h | h | h) <;> simp [h])
theorem qgg {k : α} {v : β} : ∀ {R : List (α × β)},(R.map (·.1)).Nodup→((K9 k v R).map (·.1)).Nodup
  | [],_=>by simp [K9]
  | (b,u)::r,hn=>by
    simp only [List.map_cons,List.nodup_cons] at hn
    simp only [K9]
    by_cases e : k = b
    · subst e;simp only [if_true,List.map_cons,List.nodup_cons];exact hn
    · simp only [e,if_false,List.map_cons,List.nodup_cons]
      refine ⟨fun h=>?_,qgg hn.2⟩
      rcases (q8f b).1 h with h | h
      · exact e h.symm
      · exact hn.1 h
theorem qly {k : α} {v : β} : ∀ {R : List (α × β)},(K9 k v R).length≤R.length + 1
  | []=>by simp [K9]
  | (b,u)::r=>by
    simp only [K9]
    have:=qly (k:=k) (v:=v) (R:=r)
    split <;> simp <;> omega
end
def hk (s : qt) : Option (Int × qj):=if s.A.Y = s.B.Y then some (s.A.Y,{Lo:=min s.A.X s.B.X,Hi:=max s.A.X s.B.X}) else none
def vk (s : qt) : Option (Int × qj):=if s.A.Y = s.B.Y then none else some (s.A.X,{Lo:=min s.A.Y s.B.Y,Hi:=max s.A.Y s.B.Y})
def onL (L : List (Int × qj)) (k x : Int) : Prop:=∃ p∈L,p.1 = k∧p.2.Lo≤x∧x < p.2.Hi
def Y7 (L : List (Int × qj)) (k : Int) : List qj:=(L.filter fun p=>decide (p.1 = k)).map (·.2)
theorem q48 {L : List (Int × qj)} {k : Int} {t : qj} : t∈Y7 L k↔(k,t)∈L:=by
  simp only [Y7,List.mem_map,List.mem_filter,decide_eq_true_eq];constructor
  · rintro ⟨⟨a,b⟩,⟨c,rfl⟩,rfl⟩;exact c
  · intro h;exact ⟨(k,t),⟨h,rfl⟩,rfl⟩
theorem q2j {L : List (Int × qj)} {k : Int} : (Y7 L k).length≤L.length:=by
  simp only [Y7,List.length_map];exact List.length_filter_le _ _
theorem qkn {L : List (Int × qj)} {k x : Int} : has (Y7 L k) x↔onL L k x:=by
  constructor
  · rintro ⟨t,b,h⟩;exact ⟨(k,t),q48.1 b,rfl,h⟩
  · rintro ⟨⟨a,t⟩,b,rfl,h⟩;exact ⟨t,q48.2 b,h⟩
theorem qbp {L : List (Int × qj)} {k : Int} {t : qj} (a : Int) : Y7 (L ++ [(k,t)]) a = Y7 L a ++ (if a = k then [t] else []):=by
  simp only [Y7,List.filter_append,List.map_append,List.append_cancel_left_eq];by_cases e : k = a
  · subst e;simp
  · have : ¬ a = k:=fun h=>e h.symm;simp [e,this]
structure Grp (L : List (Int × qj)) (R : List (Int × List qj)) : Prop where
  nd : (R.map (·.1)).Nodup
  val : ∀ k v,(k,v)∈R→v = Y7 L k
  all : ∀ k t,(k,t)∈L→k∈R.map (·.1)
  own : ∀ k,k∈R.map (·.1)→∃ t,(k,t)∈L
theorem Grp.get {L : List (Int × qj)} {R : List (Int × List qj)} (h : Grp L R) (k : Int) : K6 [] k R = Y7 L k:=by
  by_cases hk : k∈R.map (·.1)
  · obtain ⟨⟨a,v⟩,b,rfl⟩:=List.mem_map.1 hk;rw [qdd h.nd b];exact h.val _ _ b
  · rw [qde hk];symm;refine List.eq_nil_iff_forall_not_mem.2 fun t c=>?_;exact hk (h.all k t (q48.1 c))
theorem Grp.put {L : List (Int × qj)} {R : List (Int × List qj)} (h : Grp L R) (k : Int) (t : qj) : Grp (L ++ [(k,t)]) (K9 k (Y7 L k ++ [t]) R):=by
  refine ⟨qgg h.nd,fun a v f=>?_,fun a u d=>?_,fun a c=>?_⟩
  · rw [qbp];rcases (qg7 h.nd a v).1 f with ⟨rfl,rfl⟩ | ⟨b,g⟩
    · rw [Q2 rfl]
    · rw [Q4 b,List.append_nil];exact h.val a v g
  · rw [q8f];rcases List.mem_append.1 d with b | b
    · exact .inr (h.all a u b)
    · simp only [List.mem_singleton,Prod.mk.injEq] at b;exact .inl b.1
  · rcases (q8f a).1 c with rfl | c
    · exact ⟨t,qd⟩
    · obtain ⟨u,d⟩:=h.own a c;exact ⟨u,by simp [d]⟩
theorem Grp.nil : Grp [] []:=⟨.nil,fun _ _ h=>(by cases h),fun _ _ h=>(by cases h),fun _ h=>(by cases h)⟩
theorem Grp.len {L : List (Int × qj)} {R : List (Int × List qj)} (h : Grp L R) : R.length≤L.length:=by
  have : (R.map (·.1)).length≤(L.map (·.1)).length:=by
    refine List.Nodup.length_le_of_subset h.nd fun k hk=>?_;obtain ⟨t,a⟩:=h.own k hk;exact List.mem_map_of_mem (f:=(·.1)) a
  simpa using this
structure Rep (R : List (Int × List qj)) (F : Int→Int→Prop) : Prop where
  nd : (R.map (·.1)).Nodup
  good : ∀ k v,(k,v)∈R→Good v
  len : ∀ k v,(k,v)∈R→v.length≤800
  pts : ∀ k v,(k,v)∈R→∀ x,has v x↔F k x
  all : ∀ k x,F k x→k∈R.map (·.1)
  cnt : R.length≤400
  key : ∀ k∈R.map (·.1),-1000000≤k∧k≤1000000
theorem Rep.get {R : List (Int × List qj)} {F : Int→Int→Prop} (h : Rep R F) (k x : Int) : has (K6 [] k R) x↔F k x:=by
  by_cases hk : k∈R.map (·.1)
  · obtain ⟨⟨a,v⟩,c,rfl⟩:=List.mem_map.1 hk;rw [qdd h.nd c];exact h.pts _ _ c x
  · rw [qde hk];exact ⟨fun b=>absurd b (q1h x),fun b=>absurd (h.all k x b) hk⟩
theorem Rep.getlen {R : List (Int × List qj)} {F : Int→Int→Prop} (h : Rep R F) (k : Int) : (K6 [] k R).length≤800:=by
  by_cases hk : k∈R.map (·.1)
  · obtain ⟨⟨a,v⟩,b,rfl⟩:=List.mem_map.1 hk;rw [qdd h.nd b];exact h.len _ _ b
  · rw [qde hk];simp
theorem qf7 {L : List (Int × qj)} (d : L.length≤400) (b : ∀ k t,(k,t)∈L→vld t) : ∀ {R : List (Int × List qj)},(∀ k v,(k,v)∈R→v = Y7 L k)→Ju R = some (R.map fun e=>(e.1,U1 2 (Y7 L e.1) []))
  | [],_=>rfl
  | (k,v)::r,h=>by
    have e:=h k v qd
    have j:=qf7 d b (R:=r) fun a w c=>h a w (by simp [c])
    have l:=q2j (L:=L) (k:=k)
    have g : qd6 v = (U1 2 (Y7 L k) [],0):=by
      subst e;unfold qd6;rw [Q4 q7,Q2 fun t f=>b k t (q48.1 f)]
    simp only [Ju,qv1,g,qn,j,List.map_cons]
theorem qns {L : List (Int × qj)} {R : List (Int × List qj)} (h : Grp L R) (p : L.length≤400) (m : ∀ k t,(k,t)∈L→vld t) (hb : ∀ k t,(k,t)∈L→-1000000≤k∧k≤1000000) : Rep (R.map fun e=>(e.1,U1 2 (Y7 L e.1) [])) (onL L):=by
  have J : ∀ k,qeo 2 (Y7 L k) [] (U1 2 (Y7 L k) []):=fun k=>(qks 2 _ _ (by have:=q2j (L:=L) (k:=k);omega) qd).2
  have c : ∀ k v,(k,v)∈(R.map fun e=>(e.1,U1 2 (Y7 L e.1) []))→v = U1 2 (Y7 L k) []:=by
    intro k v f;obtain ⟨e,q,n⟩:=List.mem_map.1 f;cases n;rfl
  have b : (R.map fun e=>(e.1,U1 2 (Y7 L e.1) [])).map (·.1) = R.map (·.1):=by simp
  refine ⟨by rw [b];exact h.nd,fun k v f=>?_,fun k v f=>?_,fun k v f x=>?_,fun k x d=>?_,?_,fun k hk=>?_⟩
  · rw [c k v f];refine ⟨fun t g=>⟨(J k).can.1 t g,?_⟩,(J k).can.2⟩;obtain ⟨e1,o⟩:=(J k).ends t g
    have j : ∀ x,x∈ends (Y7 L k)∨x∈ends []→-1000000≤x∧x≤1000000:=by
      rintro x (d | d)
      · obtain ⟨u,l,d⟩:=q8b.1 d;have:=m k u (q48.1 l);unfold vld at this;rcases d with rfl | rfl <;> omega
      · cases d
    exact ⟨(j _ e1).1,(j _ o).2⟩
  · rw [c k v f];have:=(J k).len;have:=q2j (L:=L) (k:=k);simp only [List.length_nil,Nat.add_zero] at *;omega
  · rw [c k v f,(J k).pts,qkn];simp [q29,q1h]
  · rw [b];obtain ⟨⟨a,t⟩,hp,rfl,_⟩:=d;exact h.all _ _ hp
  · have:=h.len;simp;omega
  · rw [b] at hk;obtain ⟨t,g⟩:=h.own k hk;exact hb k t g
theorem qr8 {r : Y9} {s : qt} {L M : List (Int × qj)} (c : Grp L r.rows_) (b : Grp M r.columns_) (g : L.length≤1000) (f : M.length≤1000) : ∃ a,q14 r s = some a∧Grp (L ++ (hk s).toList) a.rows_∧Grp (M ++ (vk s).toList) a.columns_:=by
  unfold q14 hk vk;by_cases e : s.A.Y = s.B.Y
  · have d : (s.A.Y == s.B.Y) = true:=by simpa using e
    rw [d,Q3,c.get,Yd (by have:=q2j (L:=L) (k:=s.A.Y);simp;omega),Q2 e,Q2 e];refine ⟨_,rfl,c.put _ _,by simpa using b⟩
  · have d : (s.A.Y == s.B.Y) = false:=by simpa using e
    rw [d,Q1,b.get,Yd (by have:=q2j (L:=M) (k:=s.A.X);simp;omega),Q4 e,Q4 e];refine ⟨_,rfl,by simpa using c,b.put _ _⟩
theorem qj7 : ∀ (l : List qt) {r : Y9} {L M : List (Int × qj)},Grp L r.rows_→Grp M r.columns_→L.length + l.length≤1000→M.length + l.length≤1000→∃ a,q1u l r = some a∧Grp (L ++ l.filterMap hk) a.rows_∧Grp (M ++ l.filterMap vk) a.columns_
  | [],r,L,M,h1,h2,_,_=>⟨r,rfl,by simpa using h1,by simpa using h2⟩
  | s::l,r,L,M,h1,h2,hl,hm=>by
    simp only [List.length_cons] at hl hm
    obtain ⟨n,e1,f,d⟩:=qr8 (s:=s) h1 h2 q7 q7
    have m : (hk s).toList.length≤1:=by cases hk s <;> simp
    have k : (vk s).toList.length≤1:=by cases vk s <;> simp
    obtain ⟨b,g,j,c⟩:=qj7 l f d (by simp;omega) (by simp;omega)
    refine ⟨b,by simp only [q1u,e1,qn,g],?_,?_⟩
    · have : L ++ (s::l).filterMap hk = L ++ (hk s).toList ++ l.filterMap hk:=by cases h : hk s <;> simp [h]
      rw [this];exact j
    · have : M ++ (s::l).filterMap vk = M ++ (vk s).toList ++ l.filterMap vk:=by cases h : vk s <;> simp [h]
      rw [this];exact c
structure SegV (s : qt) : Prop where
  a : -1000000≤s.A.X∧s.A.X≤1000000∧-1000000≤s.A.Y∧s.A.Y≤1000000
  b : -1000000≤s.B.X∧s.B.X≤1000000∧-1000000≤s.B.Y∧s.B.Y≤1000000
  or : (s.A.X = s.B.X∧s.A.Y≠s.B.Y)∨(s.A.X≠s.B.X∧s.A.Y = s.B.Y)
def q2f (l : List qt) : List (Int × qj):=l.filterMap hk
def q1v (l : List qt) : List (Int × qj):=l.filterMap vk
theorem q5j {l : List qt} {k : Int} {t : qj} : (k,t)∈q2f l↔∃ s∈l,s.A.Y = s.B.Y∧k = s.A.Y∧t = {Lo:=min s.A.X s.B.X,Hi:=max s.A.X s.B.X}:=by
  simp only [q2f,List.mem_filterMap,hk];constructor
  · rintro ⟨s,hs,h⟩;split at h
    · cases h;exact ⟨s,hs,by assumption,rfl,rfl⟩
    · cases h
  · rintro ⟨s,hs,a,rfl,rfl⟩;exact ⟨s,hs,by rw [Q2 a]⟩
theorem q5i {l : List qt} {k : Int} {t : qj} : (k,t)∈q1v l↔∃ s∈l,s.A.Y≠s.B.Y∧k = s.A.X∧t = {Lo:=min s.A.Y s.B.Y,Hi:=max s.A.Y s.B.Y}:=by
  simp only [q1v,List.mem_filterMap,vk];constructor
  · rintro ⟨s,hs,h⟩;split at h
    · cases h
    · cases h;exact ⟨s,hs,by assumption,rfl,rfl⟩
  · rintro ⟨s,hs,a,rfl,rfl⟩;exact ⟨s,hs,by rw [Q4 a]⟩
theorem qzt (l : List qt) : (q2f l).length≤l.length:=List.length_filterMap_le _ _
theorem qrb (l : List qt) : (q1v l).length≤l.length:=List.length_filterMap_le _ _
theorem qh9 {l : List qt} (h : ∀ s∈l,SegV s) : ∀ k t,(k,t)∈q2f l→vld t:=by
  intro k t a;obtain ⟨s,hs,j,_,rfl⟩:=q5j.1 a;obtain ⟨⟨f,g,m,b⟩,⟨b1,b2,d,c⟩,o⟩:=h s hs;unfold vld;simp only;omega
theorem qo1 {l : List qt} (h : ∀ s∈l,SegV s) : ∀ k t,(k,t)∈q2f l→-1000000≤k∧k≤1000000:=by
  intro k t b;obtain ⟨s,hs,c,rfl,rfl⟩:=q5j.1 b;exact ⟨(h s hs).a.2.2.1,(h s hs).a.2.2.2⟩
theorem qj8 {l : List qt} (h : ∀ s∈l,SegV s) : ∀ k t,(k,t)∈q1v l→-1000000≤k∧k≤1000000:=by
  intro k t b;obtain ⟨s,hs,c,rfl,rfl⟩:=q5i.1 b;exact ⟨(h s hs).a.1,(h s hs).a.2.1⟩
theorem qf9 {l : List qt} (h : ∀ s∈l,SegV s) : ∀ k t,(k,t)∈q1v l→vld t:=by
  intro k t a;obtain ⟨s,hs,j,_,rfl⟩:=q5i.1 a;obtain ⟨⟨f,g,m,b⟩,⟨b1,b2,d,c⟩,o⟩:=h s hs;unfold vld;simp only;omega
theorem qch {l : List qt} (d : l.length≤400) (a : ∀ s∈l,SegV s) : ∃ r,q7a l = some r∧Rep r.rows_ (onL (q2f l))∧Rep r.columns_ (onL (q1v l)):=by
  obtain ⟨r,e,c,b⟩:=qj7 l (r:={rows_:=[],columns_:=[]}) .nil .nil (by simp;omega) (by simp;omega);simp only [List.nil_append] at c b;have f:=qzt l;have n2:=qrb l;refine ⟨{rows_:=_,columns_:=_},?_,qns c (by show (q2f l).length≤400;omega) (qh9 a) (qo1 a),qns b (by show (q1v l).length≤400;omega) (qf9 a) (qj8 a)⟩;unfold q7a;rw [Q5 (show l.length≤1000000 by omega),Q3,e,qn,qf7 (L:=q2f l) q7 (qh9 a) c.val,qn,qf7 (L:=q1v l) q7 (qf9 a) b.val];rfl
end Go.Sh
