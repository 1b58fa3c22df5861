/- Pg4 Pg5 Pg6 Pj1 Pj2 Pl4 Pj3 St1 -/
import Derived.Test.YtgkialgkmjnfbaaGreatK11
namespace Go.Sh
open Go Go.Am
section
variable {T : Type} [Inhabited T] {P : T→Prop} {lt : T→T→Bool} {q : T→T→Option Int}
theorem qg7 {f : Int→Option (Int ⊕ Int)} (p : T→Bool) (d : Array T) (j : Nat)
    (b : ∀ k : Nat,k≤1000002→f (k : Int) = if (decide (k≤j) && p d[k]!) = true then some (.inl ((k + 1 : Nat) : Int)) else some (.inr (k : Int))) (g : j≤1000000) :
    ∀ (m i : Nat),j + 1 - i = m→i≤1000002→loop f (i : Int) = some ((Sort.scanUp p d j i : Nat) : Int):=by
  intro m
  induction m with
  | zero=>
    intro i c hi;unfold Sort.scanUp;have a : ¬ (decide (i≤j) && p d[i]!) = true:=by simp;omega
    rw [Q1 a];exact Y1 (by rw [b i hi,Q1 a])
  | succ m ih=>
    intro i c hi;unfold Sort.scanUp;by_cases a : (decide (i≤j) && p d[i]!) = true
    · rw [Q0 a,Ya (by rw [b i hi,Q0 a])];exact ih (i + 1) q8 q8
    · rw [Q1 a];exact Y1 (by rw [b i hi,Q1 a])
theorem qcz {f : Int→Option (Int ⊕ Int)} (p : T→Bool) (d : Array T) (i n : Nat) (hi : 1≤i)
    (b : ∀ k : Nat,k < n→f (k : Int) = if (decide (i≤k) && p d[k]!) = true then some (.inl ((k - 1 : Nat) : Int)) else some (.inr (k : Int))) :
    ∀ (j : Nat),j < n→loop f (j : Int) = some ((Sort.scanDown p d i j : Nat) : Int)
  | 0,hj=>by
    have a : ¬ (decide (i≤0) && p d[0]!) = true:=by simp;omega
    exact Y1 (by rw [b 0 hj,Q1 a];rfl)
  | j + 1,hj=>by
    unfold Sort.scanDown
    by_cases a : (decide (i≤j + 1) && p d[j + 1]!) = true
    · rw [Q0 a,Ya (by rw [b (j + 1) hj,Q0 a])]
      exact qcz p d i n hi b j q8
    · rw [Q1 a]
      exact Y1 (by rw [b (j + 1) hj,Q1 a])
theorem qkt (b : Y4 q lt P) {n : Nat} {d : Array T} (hd : AllP n P d) {a j : Nat} (c : a < n) (m : j < n) (x : Int) (k : Nat) (hk : k≤1000002) :
    J1 (x,(j : Int),d.toList) (a : Int) q (k : Int) = if (decide (k≤j) && (fun x=>lt x d[a]!) d[k]!) = true then some (.inl ((k + 1 : Nat) : Int)) else some (.inr (k : Int)):=by
  have l:=hd.1;by_cases h : k≤j
  · obtain ⟨r,g,f⟩:=b d[k]! d[a]! (hd.2.2 _ q8) (hd.2.2 _ c);have t : decide ((k : Int)≤(j : Int)) = true:=Q6 q8;simp only [J1,t,Q4,gx (d:=d) (k:=k) q8,gx (d:=d) (k:=a) q8,qo,g,f,w1p k q8];simp only [Q6 h,Bool.true_and,Bool.cond_eq_ite]
  · have t : decide ((k : Int)≤(j : Int)) = false:=Q9 q8;simp only [J1,t,qz,qo];simp [h]
theorem qku (c : Y4 q lt P) {n : Nat} {d : Array T} (hd : AllP n P d) {a i : Nat} (f : a < n) (hi : 1≤i) (x y : Int) (k : Nat) (hk : k < n) :
    J2 (i : Int) (x,y,d.toList) (a : Int) q (k : Int) = if (decide (i≤k) && (fun x=>!lt x d[a]!) d[k]!) = true then some (.inl ((k - 1 : Nat) : Int)) else some (.inr (k : Int)):=by
  have j:=hd.1;have l:=hd.2.1;by_cases h : i≤k
  · obtain ⟨r,g,b⟩:=c d[k]! d[a]! (hd.2.2 _ q8) (hd.2.2 _ f);have t : decide ((i : Int)≤(k : Int)) = true:=Q6 q8;have w : w64 ((k : Int) - 1) = ((k - 1 : Nat) : Int):=by rw [Qd q8];omega
    simp only [J2,t,Q4,gx (d:=d) (k:=k) q8,gx (d:=d) (k:=a) q8,qo,g,b,w];simp only [Q6 h,Bool.true_and,Bool.cond_eq_ite]
  · have t : decide ((i : Int)≤(k : Int)) = false:=Q9 q8;simp only [J2,t,qz,qo];simp [h]
theorem quv (b : Y4 q lt P) {n : Nat} {d : Array T} (hd : AllP n P d) {a j : Nat} (c : a < n) (m : j < n) (x : Int) (k : Nat) (hk : k≤1000002) :
    U9 (x,(j : Int),d.toList) (a : Int) q (k : Int) = if (decide (k≤j) && (fun x=>!lt d[a]! x) d[k]!) = true then some (.inl ((k + 1 : Nat) : Int)) else some (.inr (k : Int)):=by
  have l:=hd.1;by_cases h : k≤j
  · obtain ⟨r,g,f⟩:=b d[a]! d[k]! (hd.2.2 _ c) (hd.2.2 _ q8);have t : decide ((k : Int)≤(j : Int)) = true:=Q6 q8;simp only [U9,t,Q4,gx (d:=d) (k:=k) q8,gx (d:=d) (k:=a) q8,qo,g,f,w1p k q8];simp only [Q6 h,Bool.true_and,Bool.cond_eq_ite]
  · have t : decide ((k : Int)≤(j : Int)) = false:=Q9 q8;simp only [U9,t,qz,qo];simp [h]
theorem quw (c : Y4 q lt P) {n : Nat} {d : Array T} (hd : AllP n P d) {a i : Nat} (f : a < n) (hi : 1≤i) (x y : Int) (k : Nat) (hk : k < n) :
    Ua (i : Int) (x,y,d.toList) (a : Int) q (k : Int) = if (decide (i≤k) && (fun x=>lt d[a]! x) d[k]!) = true then some (.inl ((k - 1 : Nat) : Int)) else some (.inr (k : Int)):=by
  have j:=hd.1;have l:=hd.2.1;by_cases h : i≤k
  · obtain ⟨r,g,b⟩:=c d[a]! d[k]! (hd.2.2 _ f) (hd.2.2 _ q8);have t : decide ((i : Int)≤(k : Int)) = true:=Q6 q8;have w : w64 ((k : Int) - 1) = ((k - 1 : Nat) : Int):=by rw [Qd q8];omega
    simp only [Ua,t,Q4,gx (d:=d) (k:=k) q8,gx (d:=d) (k:=a) q8,qo,g,b,w];simp only [Q6 h,Bool.true_and,Bool.cond_eq_ite]
  · have t : decide ((i : Int)≤(k : Int)) = false:=Q9 q8;simp only [Ua,t,qz,qo];simp [h]
theorem quq (o : Y4 q lt P) (a n : Nat) (r : a < n) : ∀ (m i j : Nat) (d : Array T),j + 1 - i = m→AllP n P d→1≤i→i≤n + 1→j < n→
    loop (q14 (a : Int) q) ((i : Int),(j : Int),d.toList) = some (((Sort.partLoop lt a i j d).1 : Int),(Sort.partLoop lt a i j d).2.toList)∧AllP n P (Sort.partLoop lt a i j d).2∧(Sort.partLoop lt a i j d).1 < n:=by
  intro m
  induction m using Nat.strongRecOn with
  | _ m ih=>
    intro i j d hm hd hi v p;have z:=hd.1;have hn:=hd.2.1;rw [Sort.partLoop_eq];have s1:=qg7 (f:=J1 ((i : Int),(j : Int),d.toList) (a : Int) q) (fun x=>lt x d[a]!) d j (fun k hk=>qkt o hd r p _ k hk) q8 _ i rfl q8;have g1:=Sort.scanUp_ge (fun x=>lt x d[a]!) d j i;have y:=(Sort.scanUp_spec (fun x=>lt x d[a]!) d j _ i rfl).2.1;generalize Sort.scanUp (fun x=>lt x d[a]!) d j i = c at s1 g1 y ⊢;have l:=qcz (f:=J2 (c : Int) ((i : Int),(j : Int),d.toList) (a : Int) q) (fun x=>!lt x d[a]!) d c n q8 (fun k hk=>qku o hd r q8 _ _ k hk) j p;have u:=Sort.scanDown_le (fun x=>!lt x d[a]!) d c j;generalize Sort.scanDown (fun x=>!lt x d[a]!) d c j = g at l u ⊢;by_cases s : c > g
    · rw [Q0 s];have t : decide ((c : Int) > (g : Int)) = true:=Q6 q8;refine ⟨Y1 ?_,hd,by show g < n;omega⟩;simp only [q14,s1,l,qo,t,Q4]
    · rw [Q1 s];have t : decide ((c : Int) > (g : Int)) = false:=Q9 q8;have h:=ih ((g - 1) + 1 - (c + 1)) q8 (c + 1) (g - 1) _ rfl (hd.swp (a:=c) (b:=g) q8 q8) q8 q8 q8;refine ⟨?_,h.2⟩;rw [Ya (a':=(((c + 1 : Nat) : Int),((g - 1 : Nat) : Int),(Sort.swp d c g).toList)) ?_]
      · exact h.1
      · have w : w64 ((g : Int) - 1) = ((g - 1 : Nat) : Int):=by rw [Qd q8];omega
        simp only [q14,s1,l,qo,t,qz,gx (d:=d) (k:=c) q8,gx (d:=d) (k:=g) q8,gxs (d:=d) (k:=g) q8,Int.toNat_natCast,gswp,w,w1p c q8]
theorem qup (l : Y4 q lt P) (a n : Nat) (p : a < n) : ∀ (m i j : Nat) (d : Array T),j + 1 - i = m→AllP n P d→1≤i→i≤n + 1→j < n→
    loop (q13 (a : Int) q) ((i : Int),(j : Int),d.toList) = some (((Sort.partEqLoop lt a i j d).1 : Int),(Sort.partEqLoop lt a i j d).2.toList):=by
  intro m
  induction m using Nat.strongRecOn with
  | _ m ih=>
    intro i j d hm hd hi u o;have y:=hd.1;have hn:=hd.2.1;rw [Sort.partEqLoop_eq];have s1:=qg7 (f:=U9 ((i : Int),(j : Int),d.toList) (a : Int) q) (fun x=>!lt d[a]! x) d j (fun k hk=>quv l hd p o _ k hk) q8 _ i rfl q8;have z:=Sort.scanUp_ge (fun x=>!lt d[a]! x) d j i;have v:=(Sort.scanUp_spec (fun x=>!lt d[a]! x) d j _ i rfl).2.1;generalize Sort.scanUp (fun x=>!lt d[a]! x) d j i = c at s1 z v ⊢;have h:=qcz (f:=Ua (c : Int) ((i : Int),(j : Int),d.toList) (a : Int) q) (fun x=>lt d[a]! x) d c n q8 (fun k hk=>quw l hd p q8 _ _ k hk) j o;have s:=Sort.scanDown_le (fun x=>lt d[a]! x) d c j;generalize Sort.scanDown (fun x=>lt d[a]! x) d c j = g at h s ⊢;by_cases r : c > g
    · rw [Q0 r];have t : decide ((c : Int) > (g : Int)) = true:=Q6 q8;refine Y1 ?_;simp only [q13,s1,h,qo,t,Q4]
    · rw [Q1 r];have t : decide ((c : Int) > (g : Int)) = false:=Q9 q8;rw [Ya (a':=(((c + 1 : Nat) : Int),((g - 1 : Nat) : Int),(Sort.swp d c g).toList)) ?_]
      · exact ih ((g - 1) + 1 - (c + 1)) q8 (c + 1) (g - 1) _ rfl (hd.swp (a:=c) (b:=g) q8 q8) q8 q8 q8
      · have w : w64 ((g : Int) - 1) = ((g - 1 : Nat) : Int):=by rw [Qd q8];omega
        simp only [q13,s1,h,qo,t,qz,gx (d:=d) (k:=c) q8,gx (d:=d) (k:=g) q8,gxs (d:=d) (k:=g) q8,Int.toNat_natCast,gswp,w,w1p c q8]
theorem qus (c : Y4 q lt P) {a b n p : Nat} (hb : b≤n) (f : a < b) (hp : p < n) {d : Array T} (hd : AllP n P d) :
    q12 q d.toList (a : Int) (b : Int) (p : Int) = some (((Sort.partitionEqual lt d a b p).1 : Int),(Sort.partitionEqual lt d a b p).2.toList):=by
  have g:=hd.1;have h:=hd.2.1;have w : w64 ((b : Int) - 1) = ((b - 1 : Nat) : Int):=by rw [Qd q8];omega
  have s:=qup c a n q8 _ (a + 1) (b - 1) _ rfl (hd.swp (a:=a) (b:=p) q8 hp) q8 q8 q8;unfold q12 Sort.partitionEqual;simp only [gx (d:=d) (k:=p) q8,gx (d:=d) (k:=a) q8,gxs (d:=d) (k:=p) q8,qo,Int.toNat_natCast,gswp,w,w1p a q8,s]
theorem qut (j : Y4 q lt P) {a b n p : Nat} (hb : b≤n) (r : a < b) (hp : p < n) {d : Array T} (hd : AllP n P d) :
    q11 q d.toList (a : Int) (b : Int) (p : Int) = some (((Sort.partition lt d a b p).1 : Int),(Sort.partition lt d a b p).2.1,(Sort.partition lt d a b p).2.2.toList):=by
  have z:=hd.1;have hn:=hd.2.1;have w : w64 ((b : Int) - 1) = ((b - 1 : Nat) : Int):=by rw [Qd q8];omega
  have h:=hd.swp (a:=a) (b:=p) q8 hp
  have e1 : q1r (b : Int) d.toList (a : Int) d[p]! (p : Int) d[a]! q = J1 ((0 : Int),((b - 1 : Nat) : Int),(Sort.swp d a p).toList) (a : Int) q:=by
    funext k;simp only [q1r,J1,w,Int.toNat_natCast,gswp]
  have y : ∀ c : Int,q1s c d.toList (a : Int) d[p]! (p : Int) d[a]! q = J2 c ((0 : Int),(0 : Int),(Sort.swp d a p).toList) (a : Int) q:=by
    intro c;funext k;simp only [q1s,J2,Int.toNat_natCast,gswp]
  unfold q11 Sort.partition;simp only [gx (d:=d) (k:=p) q8,gx (d:=d) (k:=a) q8,gxs (d:=d) (k:=p) q8,qo,e1,y,Int.toNat_natCast,gswp,w,w1p a q8];generalize Sort.swp d a p = D at h ⊢;have ab:=h.1;have s1:=qg7 (f:=J1 ((0 : Int),((b - 1 : Nat) : Int),D.toList) (a : Int) q) (fun x=>lt x D[a]!) D (b - 1) (fun k hk=>qkt j h q8 q8 _ k hk) q8 _ (a + 1) rfl q8;have g1:=Sort.scanUp_ge (fun x=>lt x D[a]!) D (b - 1) (a + 1);generalize Sort.scanUp (fun x=>lt x D[a]!) D (b - 1) (a + 1) = c at s1 g1 ⊢;have l:=qcz (f:=J2 (c : Int) ((0 : Int),(0 : Int),D.toList) (a : Int) q) (fun x=>!lt x D[a]!) D c n q8 (fun k hk=>qku j h q8 q8 _ _ k hk) (b - 1) q8;have u:=Sort.scanDown_le (fun x=>!lt x D[a]!) D c (b - 1);generalize Sort.scanDown (fun x=>!lt x D[a]!) D c (b - 1) = g at l u ⊢;simp only [s1,l,qo];by_cases o : c > g
  · have t : decide ((c : Int) > (g : Int)) = true:=Q6 q8;simp only [Q0 o,t,Q4,gx (d:=D) (k:=a) q8,gx (d:=D) (k:=g) q8,gxs (d:=D) (k:=a) q8,qo,Int.toNat_natCast,gswp]
  · have t : decide ((c : Int) > (g : Int)) = false:=Q9 q8;have w2 : w64 ((g : Int) - 1) = ((g - 1 : Nat) : Int):=by rw [Qd q8];omega
    obtain ⟨s3,m,s⟩:=quq j a n q8 _ (c + 1) (g - 1) _ rfl (h.swp (a:=c) (b:=g) q8 q8) q8 q8 q8;simp only [Q1 o,t,qz,gx (d:=D) (k:=c) q8,gx (d:=D) (k:=g) q8,gxs (d:=D) (k:=g) q8,qo,Int.toNat_natCast,gswp,w2,w1p c q8,s3];generalize Sort.partLoop lt a (c + 1) (g - 1) (Sort.swp D c g) = R at m s ⊢;have v:=m.1;simp only [gx (d:=R.2) (k:=a) q8,gx (d:=R.2) (k:=R.1) q8,gxs (d:=R.2) (k:=a) q8,qo,gswp]
theorem qxl (l : Y4 q lt P) {b n : Nat} (hb : b≤n) {d : Array T} (hd : AllP n P d) (x y : Int) : ∀ (m i : Nat),b - i = m→1≤i→i≤b→
    loop (U7 (b : Int) (x,y,d.toList) q) (i : Int) = some ((Sort.scanSorted lt d b i : Nat) : Int)∧i≤Sort.scanSorted lt d b i∧Sort.scanSorted lt d b i≤b:=by
  have o:=hd.1;have p:=hd.2.1;intro m
  induction m with
  | zero=>
    intro i j hi a;unfold Sort.scanSorted;rw [Q1 (by simp;omega)];have t : decide ((i : Int) < (b : Int)) = false:=Q9 q8;exact ⟨Y1 (by simp only [U7,t,qz,qo]),Nat.le_refl _,a⟩
  | succ m ih=>
    intro i j hi a;unfold Sort.scanSorted;have t : decide ((i : Int) < (b : Int)) = true:=Q6 q8;have w : w64 ((i : Int) - 1) = ((i - 1 : Nat) : Int):=by rw [Qd q8];omega
    obtain ⟨r,h,g⟩:=l d[i]! d[i - 1]! (hd.2.2 _ q8) (hd.2.2 _ q8);by_cases c : lt d[i]! d[i - 1]! = true
    · rw [Q1 (by simp [c])];refine ⟨Y1 ?_,Nat.le_refl _,a⟩;simp only [U7,t,Q4,w,gx (d:=d) (k:=i) q8,gx (d:=d) (k:=i - 1) q8,qo,h,g,c,Bool.not_true,qz]
    · have c : lt d[i]! d[i - 1]! = false:=by simpa using c
      rw [Q0 (by simp [c];omega)];have f:=ih (i + 1) q8 q8 q8;refine ⟨?_,q8,f.2.2⟩;rw [Ya (a':=((i + 1 : Nat) : Int)) ?_]
      · exact f.1
      · simp only [U7,t,Q4,w,gx (d:=d) (k:=i) q8,gx (d:=d) (k:=i - 1) q8,qo,h,g,c,Bool.not_false,w1p i q8]
theorem qm5 (g : Y4 q lt P) (n : Nat) : ∀ (j : Nat) (d : Array T),AllP n P d→j < n→loop (Jo q) ((j : Int),d.toList) = some (Sort.shiftDown lt j d).toList∧AllP n P (Sort.shiftDown lt j d)
  | 0,d,hd,hj=>by
    have t : decide (((0 : Nat) : Int) ≥ 1) = false:=Q9 q8
    exact ⟨Y1 (by simp only [Jo,t,qz];rfl),hd⟩
  | j + 1,d,hd,hj=>by
    have m:=hd.1
    have o:=hd.2.1
    have t : decide (((j + 1 : Nat) : Int) ≥ 1) = true:=Q6 q8
    obtain ⟨r,l,f⟩:=g d[j + 1]! d[j]! (hd.2.2 _ hj) (hd.2.2 _ q8)
    unfold Sort.shiftDown
    by_cases c : lt d[j + 1]! d[j]! = true
    · rw [Q1 (by simp [c])]
      have h:=qm5 g n j _ (hd.swp (a:=j + 1) (b:=j) hj q8) q8
      refine ⟨?_,h.2⟩
      rw [Ya (a':=((j : Int),(Sort.swp d (j + 1) j).toList)) ?_]
      · exact h.1
      · simp only [Jo,t,Q4,gx (d:=d) (k:=j + 1) q8,w1m j q8,gx (d:=d) (k:=j) q8,gxs (d:=d) (k:=j) q8,qo,l,f,c,Bool.not_true,qz,Int.toNat_natCast,gswp]
    · have c : lt d[j + 1]! d[j]! = false:=by simpa using c
      rw [Q0 (by simp [c])]
      refine ⟨Y1 ?_,hd⟩
      simp only [Jo,t,Q4,gx (d:=d) (k:=j + 1) q8,w1m j q8,gx (d:=d) (k:=j) q8,qo,l,f,c,Bool.not_false]
theorem qm7 (p : Y4 q lt P) {b n : Nat} (hb : b≤n) (c : Int) : ∀ (m j : Nat) (d : Array T),b - j = m→AllP n P d→1≤j→loop (U8 (b : Int) q c) ((j : Int),d.toList) = some (c,(Sort.shiftUp lt b j d).toList)∧AllP n P (Sort.shiftUp lt b j d):=by
  intro m
  induction m with
  | zero=>
    intro j d o hd s;unfold Sort.shiftUp;rw [Q1 q8];have t : decide ((j : Int) < (b : Int)) = false:=Q9 q8;exact ⟨Y1 (by simp only [U8,t,qz]),hd⟩
  | succ m ih=>
    intro j d o hd s;have u:=hd.1;have v:=hd.2.1;unfold Sort.shiftUp;rw [Q0 q8];have t : decide ((j : Int) < (b : Int)) = true:=Q6 q8;have w : w64 ((j : Int) - 1) = ((j - 1 : Nat) : Int):=by rw [Qd q8];omega
    obtain ⟨r,l,h⟩:=p d[j]! d[j - 1]! (hd.2.2 _ q8) (hd.2.2 _ q8);by_cases f : lt d[j]! d[j - 1]! = true
    · rw [Q1 (by simp [f])];have g:=ih (j + 1) _ q8 (hd.swp (a:=j) (b:=j - 1) q8 q8) q8;refine ⟨?_,g.2⟩;rw [Ya (a':=(((j + 1 : Nat) : Int),(Sort.swp d j (j - 1)).toList)) ?_]
      · exact g.1
      · simp only [U8,t,Q4,w,gx (d:=d) (k:=j) q8,gx (d:=d) (k:=j - 1) q8,gxs (d:=d) (k:=j - 1) q8,qo,l,h,f,Bool.not_true,qz,Int.toNat_natCast,gswp,w1p j q8]
    · have f : lt d[j]! d[j - 1]! = false:=by simpa using f
      rw [Q0 (by simp [f])];refine ⟨Y1 ?_,hd⟩;simp only [U8,t,Q4,w,gx (d:=d) (k:=j) q8,gx (d:=d) (k:=j - 1) q8,qo,l,h,f,Bool.not_false]
theorem qkw (j : Y4 q lt P) {a b n : Nat} (hb : b≤n) : ∀ (s i : Nat) (d : Array T),s≤5→AllP n P d→a < i→i≤b→
    ∃ m,loop (Zm (b : Int) q (a : Int)) ((i : Int),((5 - s : Nat) : Int),d.toList) = some m∧(match m with | .inl b441=>some (false,b441) | .inr x1=>some x1) = some ((Sort.partialIns lt a b s i d).2,(Sort.partialIns lt a b s i d).1.toList)
  | 0,i,d,hs,hd,hi,hib=>by
    have t : decide (((5 - 0 : Nat) : Int) < 5) = false:=Q9 q8
    refine ⟨.inl d.toList,Y1 (by simp only [Zm,t,qz]),rfl⟩
  | s + 1,i,d,hs,hd,hi,hib=>by
    have ac:=hd.1
    have hn:=hd.2.1
    have t : decide (((5 - (s + 1) : Nat) : Int) < 5) = true:=Q6 q8
    rw [Sort.partialIns_succ]
    obtain ⟨s1,l1,w⟩:=qxl j hb hd (i : Int) ((5 - (s + 1) : Nat) : Int) _ i rfl q8 hib
    generalize Sort.scanSorted lt d b i = k at s1 l1 w ⊢
    by_cases hk : k = b
    · subst hk
      rw [Q0 rfl]
      refine ⟨.inr (true,d.toList),Y1 ?_,rfl⟩
      simp only [Zm,t,Q4,s1,qo,beq_self_eq_true]
    · rw [Q1 hk]
      have v : ((k : Int) == (b : Int)) = false:=by simp;omega
      have e0 : w64 ((b : Int) - (a : Int)) = ((b - a : Nat) : Int):=wsub q8 q8
      by_cases o : b - a < 50
      · rw [Q0 o]
        have g : decide (((b - a : Nat) : Int) < 50) = true:=Q6 q8
        refine ⟨.inr (false,d.toList),Y1 ?_,rfl⟩
        simp only [Zm,t,Q4,s1,qo,v,qz,e0,g]
      · rw [Q1 o]
        have g : decide (((b - a : Nat) : Int) < 50) = false:=Q9 q8
        have wk : w64 ((k : Int) - 1) = ((k - 1 : Nat) : Int):=by rw [Qd q8];omega
        have wa : w64 ((k : Int) - (a : Int)) = ((k - a : Nat) : Int):=wsub q8 q8
        have wb : w64 ((b : Int) - (k : Int)) = ((b - k : Nat) : Int):=wsub q8 q8
        have l:=hd.swp (a:=k) (b:=k - 1) q8 q8
        have down : (cond (decide (((k - a : Nat) : Int) ≥ 2)) ((loop (Jo q) (((k - 1 : Nat) : Int),(Sort.swp d k (k - 1)).toList)).bind fun x0=>some x0) (some (Sort.swp d k (k - 1)).toList)) = some (Sort.fixDown lt a k (Sort.swp d k (k - 1))).toList∧AllP n P (Sort.fixDown lt a k (Sort.swp d k (k - 1))):=by
          unfold Sort.fixDown;by_cases h : k - a ≥ 2
          · have f : decide (((k - a : Nat) : Int) ≥ 2) = true:=Q6 q8;obtain ⟨x,y⟩:=qm5 j n (k - 1) _ l q8;rw [Q0 h,f,Q4,x];exact ⟨rfl,y⟩
          · have f : decide (((k - a : Nat) : Int) ≥ 2) = false:=Q9 q8;rw [Q1 h,f,qz];exact ⟨rfl,l⟩
        obtain ⟨dn,c⟩:=down
        have p : AllP n P (Sort.fixUp lt b k (Sort.fixDown lt a k (Sort.swp d k (k - 1)))):=by
          unfold Sort.fixUp;split
          · exact (qm7 j hb 0 _ (k + 1) _ rfl c q8).2
          · exact c
        obtain ⟨m,r,u⟩:=qkw (a:=a) j hb s k _ q8 p q8 w
        refine ⟨m,?_,u⟩
        rw [Ya (a':=((k : Int),((5 - s : Nat) : Int),(Sort.fixUp lt b k (Sort.fixDown lt a k (Sort.swp d k (k - 1)))).toList)) ?_]
        · exact r
        · have z : w64 (((5 - (s + 1) : Nat) : Int) + 1) = ((5 - s : Nat) : Int):=by rw [Qd q8];omega
          simp only [Zm,t,Q4,s1,qo,v,qz,e0,g,wk,gx (d:=d) (k:=k) q8,gx (d:=d) (k:=k - 1) q8,gxs (d:=d) (k:=k - 1) q8,Int.toNat_natCast,gswp,wa,dn,wb,w1p k q8]
          unfold Sort.fixUp
          by_cases h : b - k ≥ 2
          · have f : decide (((b - k : Nat) : Int) ≥ 2) = true:=Q6 q8
            obtain ⟨x,y⟩:=qm7 j hb (k : Int) _ (k + 1) _ rfl c q8
            rw [Q0 h,f,Q4,x]
            simp only [qo,z]
          · have f : decide (((b - k : Nat) : Int) ≥ 2) = false:=Q9 q8
            rw [Q1 h,f,qz]
            simp only [qo,z]
theorem qur (f : Y4 q lt P) {a b n : Nat} (hb : b≤n) (h : a < b) {d : Array T} (hd : AllP n P d) :
    Jc q d.toList (a : Int) (b : Int) = some ((Sort.partialInsertionSort lt d a b).2,(Sort.partialInsertionSort lt d a b).1.toList):=by
  have j:=hd.2.1;obtain ⟨m,c,g⟩:=qkw (a:=a) f hb 5 (a + 1) d q8 hd q8 q8;have c : loop (Zm (b : Int) q (a : Int)) (((a + 1 : Nat) : Int),0,d.toList) = some m:=c;unfold Jc Sort.partialInsertionSort;rw [w1p a q8,c];exact g
end
end Go.Sh
namespace Go.Sh
open Go Go.Am
theorem qjm {α β : Type} {f : α→Option (α ⊕ β)} {a : α} (h : f a = none) : loop f a = none:=by
  apply Option.ext;intro b;rw [q7q];constructor
  · rintro ⟨n,c⟩
    cases n with
    | zero=>simp [iter] at c
    | succ n=>simp [iter,h] at c
  · intro h;cases h
section
variable {T : Type} [Inhabited T] {P : T→Prop} {lt : T→T→Bool} {q : T→T→Option Int}
def Srt (lt : T→T→Bool) (a b : Nat) (d : Array T) (o : Option (List T)) : Prop:=∃ d' : Array T,o = some d'.toList∧Sort.PermIn a b d d'∧Sort.SortedIn lt a b d'
theorem quu (hq : Y4 q lt P) (hS : Sort.SWO lt) {n N : Nat} (af : List T→Int→Int→Int→Option (List T))
    (am : ∀ (a b f : Nat) (d : Array T),AllP n P d→a≤b→b≤n→f≤1000→Sort.Below lt a b d→Srt lt a b d (af d.toList (a : Int) (b : Int) (f : Int))∨(N≤b - a∧af d.toList (a : Int) (b : Int) (f : Int) = none)) :
    ∀ (m a b f : Nat) (wb wp : Bool) (d : Array T),b - a = m→AllP n P d→a≤b→b≤n→f≤1000→Sort.Below lt a b d→
      Srt lt a b d (loop (Zd q af) ((a : Int),(b : Int),(f : Int),wb,wp,d.toList))∨(N + 1≤b - a∧loop (Zd q af) ((a : Int),(b : Int),(f : Int),wb,wp,d.toList) = none):=by
  intro m
  induction m using Nat.strongRecOn with
  | _ m ih=>
    intro a b f wb wp d hm hd o hb hl hB;have dc:=hd.1;have hn:=hd.2.1;have e0 : w64 ((b : Int) - (a : Int)) = ((b - a : Nat) : Int):=wsub o q8;by_cases da : b - a≤12
    ·
      have t : decide (((b - a : Nat) : Int)≤12) = true:=Q6 q8;obtain ⟨x,y⟩:=Sort.insertionSort_holds (lt:=lt) hS d a b o q8;have s:=qrh hq hb o hd;refine .inl ⟨_,Y1 ?_,x,y⟩;simp only [Zd,e0,t,Q4,s,qo,Uc hd (hd.perm o hb x)]
    have bm : decide (((b - a : Nat) : Int)≤12) = false:=Q9 q8;by_cases h0 : f = 0
    ·
      have t : ((f : Int) == 0) = true:=by simp [h0]
      obtain ⟨x,y⟩:=Sort.heapSort_holds (lt:=lt) hS d a b o q8;have s:=qrb hq hb (by omega : a < b) hd;refine .inl ⟨_,Y1 ?_,x,y⟩;simp only [Zd,e0,bm,qz,t,Q4,s,qo,Uc hd (hd.perm o hb x)]
    have t0 : ((f : Int) == 0) = false:=by simp [h0]
    have hA : ∃ (l1 : Nat) (d1 : Array T),(cond (!wb) ((Ux q d.toList (a : Int) (b : Int)).bind fun ba=>(K1 ba.length d.toList.length).bind fun ct=>some (w64 ((f : Int) - 1),ba)) (some ((f : Int),d.toList))) = some ((l1 : Int),d1.toList)∧l1≤1000∧AllP n P d1∧Sort.PermIn a b d d1:=by
      cases wb with
      | true=>exact ⟨f,d,rfl,hl,hd,Sort.permIn_refl _ _ _⟩
      | false=>
        have x:=Sort.breakPatterns_holds d a b o q8;have z:=hd.perm o hb x;have w : w64 ((f : Int) - 1) = ((f - 1 : Nat) : Int):=by rw [Qd q8];omega
        refine ⟨f - 1,_,?_,q8,z,x⟩;simp only [Bool.not_false,Q4,qnp (q:=q) hb (by omega : a < b) hd,qo,Uc hd z,w]
    obtain ⟨l1,d1,eA,an,z,p1⟩:=hA;have hC:=qoq hq z (by omega : a < b) hb;obtain ⟨c1,c2⟩:=Sort.choosePivot_holds lt d1 a b q8;generalize (Sort.choosePivot lt d1 a b).1 = c at hC c1 c2;generalize qet (Sort.choosePivot lt d1 a b).2 = h at hC
    have hR : ∃ (p : Nat) (h2 : Int) (d2 : Array T),(cond (h == 2) ((q15 q d1.toList (a : Int) (b : Int)).bind fun bd=>(K1 bd.length d1.toList.length).bind fun cq=>some (w64 ((w64 ((b : Int) - 1)) - (w64 ((c : Int) - (a : Int)))),(1 : Int),bd)) (some ((c : Int),h,d1.toList))) = some ((p : Int),h2,d2.toList)∧a≤p∧p < b∧AllP n P d2∧Sort.PermIn a b d1 d2:=by
      cases hh : (h == 2) with
      | false=>exact ⟨c,h,d1,rfl,c1,c2,z,Sort.permIn_refl _ _ _⟩
      | true=>
        have x:=Sort.reverseRange_holds d1 a b o (by rw [z.1];exact hb);have ac:=z.perm o hb x;have w1 : w64 ((b : Int) - 1) = ((b - 1 : Nat) : Int):=by rw [Qd q8];omega
        have w2 : w64 ((c : Int) - (a : Int)) = ((c - a : Nat) : Int):=wsub c1 q8;have w3 : w64 (((b - 1 : Nat) : Int) - ((c - a : Nat) : Int)) = ((b - 1 - (c - a) : Nat) : Int):=wsub q8 q8;refine ⟨b - 1 - (c - a),1,_,?_,q8,q8,ac,x⟩;simp only [Q4,qwz (q:=q) hb (by omega : a < b) z,qo,Uc z ac,w1,w2,w3]
    obtain ⟨p,h2,d2,eR,hp1,hp2,ac,p2⟩:=hR;have bv : Sort.Below lt a b d2:=(hB.perm q8 p1).perm (by rw [z.1];exact hb) p2;have bp:=Sort.permIn_trans _ _ _ a b p1 p2
    have hP : ∀ cc : Bool,∃ ab : (List T) ⊕ (List T),(cond cc ((Jc q d2.toList (a : Int) (b : Int)).bind fun ag=>(K1 ag.2.length d2.toList.length).bind fun cz=>cond ag.1 (some (.inr ag.2)) (some (.inl ag.2))) (some (.inl d2.toList)) : Option ((List T) ⊕ (List T))) = some ab∧
        ((∃ l : Array T,ab = .inr l.toList∧Sort.PermIn a b d2 l∧Sort.SortedIn lt a b l)∨(∃ l : Array T,ab = .inl l.toList∧AllP n P l∧Sort.PermIn a b d2 l)):=by
      intro cc
      cases cc with
      | false=>exact ⟨_,rfl,.inr ⟨d2,rfl,ac,Sort.permIn_refl _ _ _⟩⟩
      | true=>
        obtain ⟨x,y⟩:=Sort.partialInsertionSort_holds (lt:=lt) hS d2 a b q8 (by rw [ac.1];exact hb) bv;have u:=ac.perm o hb x;have s:=qur hq hb (by omega : a < b) ac;simp only [Q4,s,qo,Uc ac u]
        cases hz : (Sort.partialInsertionSort lt d2 a b).2 with
        | true=>exact ⟨_,rfl,.inl ⟨_,rfl,x,y hz⟩⟩
        | false=>exact ⟨_,rfl,.inr ⟨_,rfl,u,x⟩⟩
    obtain ⟨ab,eP,br⟩:=hP (wb && wp && (h2 == 1))
    have cm : ∀ {γ : Type} (X : Bool→Option γ),((cond wb (some wp) (some false)).bind fun bt=>(cond bt (some (h2 == 1)) (some false)).bind X) = X (wb && wp && (h2 == 1)):=by
      intro γ X;cases wb <;> cases wp <;> rfl
    have head : Zd q af ((a : Int),(b : Int),(f : Int),wb,wp,d.toList) = (match (generalizing:=false) ab with | .inl b377=>(cond (decide ((a : Int) > 0)) ((idx b377 (w64 ((a : Int) - 1))).bind fun av=>(idx b377 (p : Int)).bind fun ao=>(q av ao).bind fun ar=>some (!(decide (ar < 0)))) (some false)).bind fun bq=>cond bq ((q12 q b377 (a : Int) (b : Int) (p : Int)).bind fun al=>(K1 al.2.length b377.length).bind fun cy=>some (.inl (al.1,(b : Int),(l1 : Int),wb,wp,al.2))) ((q11 q b377 (a : Int) (b : Int) (p : Int)).bind fun g=>(K1 g.2.2.length b377.length).bind fun cp=>cond (decide ((w64 (g.1 - (a : Int))) < (w64 ((b : Int) - g.1)))) ((af g.2.2 (a : Int) g.1 (l1 : Int)).bind fun az=>(K1 az.length g.2.2.length).bind fun cw=>some (.inl (w64 (g.1 + 1),(b : Int),(l1 : Int),decide ((w64 (g.1 - (a : Int))) ≥ (w64 (Int.tdiv ((b - a : Nat) : Int) 8))),g.2.1,az))) ((af g.2.2 (w64 (g.1 + 1)) (b : Int) (l1 : Int)).bind fun bc=>(K1 bc.length g.2.2.length).bind fun cv=>some (.inl ((a : Int),g.1,(l1 : Int),decide ((w64 ((b : Int) - g.1)) ≥ (w64 (Int.tdiv ((b - a : Nat) : Int) 8))),g.2.1,bc)))) | .inr x1=>some (.inr x1)):=by
      simp only [Zd,e0,bm,qz,t0,eA,qo,hC,eR,cm,eP]
      all_goals (clear eP br hP am ih;cases ab <;> rfl)
    rcases br with ⟨l,rfl,x,y⟩ | ⟨l,rfl,u,p3⟩
    · refine .inl ⟨l,Y1 ?_,Sort.permIn_trans _ _ _ a b bp x,y⟩;rw [head]
    have ax:=u.1;have P3:=Sort.permIn_trans _ _ _ a b bp p3;have B3 : Sort.Below lt a b l:=bv.perm (by rw [ac.1];exact hb) p3
    have bh : (cond (decide ((a : Int) > 0)) ((idx l.toList (w64 ((a : Int) - 1))).bind fun av=>(idx l.toList (p : Int)).bind fun ao=>(q av ao).bind fun ar=>some (!(decide (ar < 0)))) (some false)) = some (decide (a > 0) && !lt l[a - 1]! l[p]!):=by
      by_cases ha : a > 0
      · have ta : decide ((a : Int) > 0) = true:=Q6 q8;have w : w64 ((a : Int) - 1) = ((a - 1 : Nat) : Int):=by rw [Qd q8];omega
        obtain ⟨r,h1,h2⟩:=hq l[a - 1]! l[p]! (u.2.2 _ q8) (u.2.2 _ q8);simp only [ta,Q4,w,gx (d:=l) (k:=a - 1) q8,gx (d:=l) (k:=p) q8,qo,h1,h2,Q6 ha,Bool.true_and]
      · have ta : decide ((a : Int) > 0) = false:=Q9 q8;simp only [ta,qz,Q9 ha,Bool.false_and]
    simp only [bh,qo] at head;by_cases hc : (decide (a > 0) && !lt l[a - 1]! l[p]!) = true
    ·
      rw [hc] at head;have s:=qus hq hb (by omega : a < b) (by omega : p < n) u;simp only [Bool.and_eq_true,decide_eq_true_eq,Bool.not_eq_true'] at hc
      cases hx : Sort.partitionEqual lt l a b p with
      | mk j d4=>
        obtain ⟨g1,g2,bz,ck,ad⟩:=Sort.round_eq hS (Sort.partitionEqual_holds lt) hc.1 hp1 hp2 (by rw [ax];exact hb) B3 hc.2 hx
        have cd : ∀ i,a≤i→i < b→lt l[i]! l[p]! = false:=fun i hi bx=>by
          rcases B3 with h0 | hB
          · omega
          · exact hS.ntrans _ _ _ (hB i hi bx) hc.2
        obtain ⟨_,_,v,_,_⟩:=Sort.partitionEqual_holds lt hS l a b p hp1 hp2 (by rw [ax];exact hb) cd;rw [hx] at v s;have aa:=u.perm o hb v;simp only [Q4,s,qo,Uc u aa] at head;rw [Ya head];rcases ih (b - j) q8 j b l1 wb wp d4 rfl aa g2 hb an ck with ⟨R,r0,r1,r2⟩ | ⟨r1,r2⟩
        · obtain ⟨q1,q2⟩:=ad _ r1 r2;exact .inl ⟨R,r0,Sort.permIn_trans _ _ _ a b P3 q1,q2⟩
        · exact .inr ⟨q8,r2⟩
    ·
      have hc : (decide (a > 0) && !lt l[a - 1]! l[p]!) = false:=by simpa using hc
      rw [hc] at head;have s:=qut hq hb (by omega : a < b) (by omega : p < n) u
      cases hx : Sort.partition lt l a b p with
      | mk j r=>
      cases r with
      | mk ap d4=>
        obtain ⟨g1,g2,bz,bw,cb,bg,ay⟩:=Sort.round_part hS (Sort.partition_holds lt) hp1 hp2 (by rw [ax];exact hb) B3 hx;obtain ⟨_,_,v,_,_⟩:=Sort.partition_holds lt hS l a b p hp1 hp2 (by rw [ax];exact hb);rw [hx] at v s;have aa:=u.perm o hb v;have w1 : w64 ((j : Int) - (a : Int)) = ((j - a : Nat) : Int):=wsub g1 q8;have w2 : w64 ((b : Int) - (j : Int)) = ((b - j : Nat) : Int):=wsub q8 q8;simp only [qz,s,qo,Uc u aa,w1,w2,w1p j q8] at head;by_cases dh : j - a < b - j
        · have tl : decide (((j - a : Nat) : Int) < ((b - j : Nat) : Int)) = true:=Q6 q8;simp only [tl,Q4] at head;rcases am a j l1 d4 aa g1 q8 an bw with ⟨L,e,aq,bj⟩ | ⟨r1,r2⟩
          · have au:=aa.perm g1 q8 aq;obtain ⟨bk,ad⟩:=bg _ aq bj;simp only [e,qo,Uc aa au] at head;rw [Ya head];rcases ih (b - (j + 1)) q8 (j + 1) b l1 _ _ L rfl au q8 hb an bk with ⟨R,r0,r1,r2⟩ | ⟨r1,r2⟩
            · obtain ⟨q1,q2⟩:=ad _ r1 r2;exact .inl ⟨R,r0,Sort.permIn_trans _ _ _ a b P3 q1,q2⟩
            · exact .inr ⟨q8,r2⟩
          · simp only [r2,Option.bind_none] at head;exact .inr ⟨q8,qjm head⟩
        · have tl : decide (((j - a : Nat) : Int) < ((b - j : Nat) : Int)) = false:=Q9 q8;simp only [tl,qz] at head;rcases am (j + 1) b l1 d4 aa q8 hb an cb with ⟨L,e,aq,bj⟩ | ⟨r1,r2⟩
          · have au:=aa.perm (by omega : j + 1≤b) hb aq;obtain ⟨bk,ad⟩:=ay _ aq bj;simp only [e,qo,Uc aa au] at head;rw [Ya head];rcases ih (j - a) q8 a j l1 _ _ L rfl au g1 q8 an bk with ⟨R,r0,r1,r2⟩ | ⟨r1,r2⟩
            · obtain ⟨q1,q2⟩:=ad _ r1 r2;exact .inl ⟨R,r0,Sort.permIn_trans _ _ _ a b P3 q1,q2⟩
            · exact .inr ⟨q8,r2⟩
          · simp only [r2,Option.bind_none] at head;exact .inr ⟨q8,qjm head⟩
theorem qkx (f : Y4 q lt P) (g : Sort.SWO lt) {n : Nat} : ∀ (N a b c : Nat) (d : Array T),AllP n P d→a≤b→b≤n→c≤1000→Sort.Below lt a b d→
    Srt lt a b d (Z7 N q d.toList (a : Int) (b : Int) (c : Int))∨(N≤b - a∧Z7 N q d.toList (a : Int) (b : Int) (c : Int) = none)
  | 0,a,b,c,d,_,_,_,_,_=>.inr ⟨q8,rfl⟩
  | N + 1,a,b,c,d,hd,hab,hb,hl,hB=>by
    have h:=quu f g (N:=N) (Z7 N q) (fun a b c d m j k l o=>qkx f g N a b c d m j k l o) _ a b c true true d rfl hd hab hb hl hB
    have e : Z7 (N + 1) q d.toList (a : Int) (b : Int) (c : Int) = loop (Zd q (Z7 N q)) ((a : Int),(b : Int),(c : Int),true,true,d.toList):=by
      show Jp (Z7 N q) q d.toList (a : Int) (b : Int) (c : Int) = _;unfold Jp;cases loop (Zd q (Z7 N q)) ((a : Int),(b : Int),(c : Int),true,true,d.toList) <;> rfl
    rw [e]
    exact h
theorem qgg (t : Y4 q lt P) (w : Sort.SWO lt) (xs : List T) (n : xs.length≤1000000) (v : ∀ x∈xs,P x) :
    ∃ ys,q1m q xs = some ys∧ys.Perm xs∧ys.Pairwise (fun x y=>lt y x = false):=by
  have hd : AllP xs.length P xs.toArray:=by
    refine ⟨qe,n,fun i hi=>?_⟩;have : xs.toArray[i]! = xs[i]:=by simp [hi]
    rw [this];exact v _ (Kr hi)
  have hk : Sort.bitsLen xs.length≤20:=(Sort.bitsLen_le_iff _ 20).2 q8;have c : ∀ N,_:=fun N=>qkx t w N 0 xs.length (Sort.bitsLen xs.length) xs.toArray hd q8 q8 q8 (.inl rfl);have z:=c (xs.length + 1);rcases z with ⟨d',e,_,_⟩ | ⟨h,_⟩
  · obtain ⟨r,o⟩:=qs3 (f:=fun N=>Z7 N q xs 0 (xs.length : Int) ((Sort.bitsLen xs.length : Nat) : Int)) e;obtain ⟨N,g⟩:=qc9 o;have g : Z7 N q xs 0 (xs.length : Int) ((Sort.bitsLen xs.length : Nat) : Int) = some r:=g;rcases c N with ⟨a,b,x,y⟩ | ⟨_,b⟩
    · have b : Z7 N q xs 0 (xs.length : Int) ((Sort.bitsLen xs.length : Nat) : Int) = some a.toList:=b;rw [g] at b;obtain rfl : r = a.toList:=J6 b;have d : a.size = xs.length:=by rw [x.1];simp
      refine ⟨a.toList,?_,?_,?_⟩
      · unfold q1m;rw [q2b,show ((xs.length : Int) % 18446744073709551616) = (xs.length : Int) by omega,qjh _ n];simp only [qo,o];unfold K1;rw [Q0 (by simp [d])];rfl
      · have:=x.2.2;have s : a.extract 0 xs.length = a:=by rw [← d];simp
        have p : xs.toArray.extract 0 xs.length = xs.toArray:=by simp
        rw [s,p] at this;exact this
      · rw [List.pairwise_iff_getElem];intro i j hi u k;have l : i < a.size:=by simpa using hi
        have m : j < a.size:=by simpa using u
        have:=y i j q8 k q8;rw [getElem!_pos a i l,getElem!_pos a j m] at this;simpa using this
    · have b : Z7 N q xs 0 (xs.length : Int) ((Sort.bitsLen xs.length : Nat) : Int) = none:=b;rw [g] at b;cases b
  · omega
end
end Go.Sh
namespace Go.Sh
open Go Go.Am
theorem qym : qau = q3o:=rfl
theorem qxn : q1v = q2h:=by
  funext p0;simp only [q1v,q2h,qym]
  all_goals exact Ql
theorem qlz : Ju = Uw:=by
  funext p0;simp only [Ju,Uw,qxn]
  all_goals exact Ql
theorem qxx : q98 = Jm:=by
  funext p1 q1 a459;simp only [q98,Jm]
  all_goals exact Ql
theorem qxw : q97 = q10:=by
  funext p2 p1 q1 a278;simp only [q97,q10,qxx]
  all_goals exact Ql
theorem qxv : q96 = q1p:=by
  funext q1 p0 p1 p2;simp only [q96,q1p,qxw]
  all_goals exact Ql
theorem qyl : qak = Jq:=by
  funext p2 p3 q1 a197;simp only [qak,Jq]
  all_goals exact Ql
theorem qm1 : q6v = Ub:=by
  funext q1 p0 p1 p2 p3;simp only [q6v,Ub,qyl]
  all_goals exact Ql
theorem qxt : q8y = Uy:=by
  funext q1 p2 p1 a123;simp only [q8y,Uy,qm1]
  all_goals exact Ql
theorem qxu : q8z = Uz:=by
  funext p1 q1 a191;simp only [q8z,Uz,qm1]
  all_goals exact Ql
theorem qxs : q8x = q1o:=by
  funext q1 p0 p1 p2;simp only [q8x,q1o,qxt,qxu]
  all_goals exact Ql
theorem qxz : Uh = q1q:=by
  funext p0;simp only [Uh,q1q,qlz]
  all_goals exact Ql
theorem qyn : Ui = q1t:=by
  funext p0;simp only [Ui,q1t]
  all_goals exact Ql
theorem qxq : q8n = U4:=by
  funext p1 p2 r101 a153;simp only [q8n,U4,qyn]
  all_goals exact Ql
theorem qxp : q8m = Ux:=by
  funext q1 p0 p1 p2;simp only [q8m,Ux,qxz,qxq]
  all_goals exact Ql
theorem qy0 : q4k = U6:=by
  funext q1 p0 p1 p2 p3;simp only [q4k,U6]
  all_goals exact Ql
theorem qm0 : q6d = U5:=by
  funext q1 p0 p1 p2 p3 p4;simp only [q6d,U5,qy0]
  all_goals exact Ql
theorem qxy : q4h = Jn:=by
  funext q1 p0 p1 p2;simp only [q4h,Jn,qm0]
  all_goals exact Ql
theorem qxr : q8q = q1n:=by
  funext p0 p1 p2 p3;simp only [q8q,q1n,qm0,qxy]
  all_goals exact Ql
theorem qyk : qah = q16:=by
  funext a119;simp only [qah,q16]
  all_goals exact Ql
theorem qyj : qag = q15:=by
  funext q1 p0 p1 p2;simp only [qag,q15,qyk]
  all_goals exact Ql
theorem qy3 : q9f = U7:=by
  funext p2 a438 q1 a681;simp only [q9f,U7]
  all_goals exact Ql
theorem qy4 : q9g = Jo:=by
  funext q1 a838;simp only [q9g,Jo]
  all_goals exact Ql
theorem qy5 : q9h = U8:=by
  funext p2 q1 b684 a928;simp only [q9h,U8]
  all_goals exact Ql
theorem qy2 : q6j = Zm:=by
  funext p2 q1 p1 a438;have a : @q6j.match_1.{1} = @Zm.match_1.{1} qn:=by funext motive m f g;cases m <;> rfl
  unfold q6j Zm;rw [a];simp only [qy3,qy4,qy5]
theorem qy1 : q6i = Jc:=by
  funext q1 p0 p1 p2;have a : @q6i.match_1.{1} = @Jc.match_1.{1} qn:=by funext motive m f g;cases m <;> rfl
  unfold q6i Jc;rw [a];simp only [qy2]
theorem qy9 : qaa = U9:=by
  funext a318 p1 q1 a378;simp only [qaa,U9]
  all_goals exact Ql
theorem qya : qab = Ua:=by
  funext b381 a318 p1 q1 a463;simp only [qab,Ua]
  all_goals exact Ql
theorem qy8 : qa9 = q13:=by
  funext p1 q1 a318;simp only [qa9,q13,qy9,qya]
  all_goals exact Ql
theorem qy7 : qa8 = q12:=by
  funext q1 p0 p1 p2 p3;simp only [qa8,q12,qy8]
  all_goals exact Ql
theorem qyb : q9v = q1r:=by
  funext p2 p0 p1 v101 p3 v103 q1 a163;simp only [q9v,q1r]
  all_goals exact Ql
theorem qyc : q9w = q1s:=by
  funext b166 p0 p1 v101 p3 v103 q1 a249;simp only [q9w,q1s]
  all_goals exact Ql
theorem qye : q9y = J1:=by
  funext a514 p1 q1 a572;simp only [q9y,J1]
  all_goals exact Ql
theorem qyf : q9z = J2:=by
  funext b575 a514 p1 q1 a658;simp only [q9z,J2]
  all_goals exact Ql
theorem qyd : q9x = q14:=by
  funext p1 q1 a514;simp only [q9x,q14,qye,qyf]
  all_goals exact Ql
theorem qy6 : q9u = q11:=by
  funext q1 p0 p1 p2 p3;simp only [q9u,q11,qyb,qyc,qyd]
  all_goals exact Ql
theorem qyh : q6r = Zd:=by
  funext q1 rec a309;have a : @q6r.match_1.{1} = @Zd.match_1.{1} qn:=by funext motive m f g;cases m <;> rfl
  unfold q6r Zd;rw [a];simp only [qxv,qxs,qxp,qxr,qyj,qy1,qy7,qy6]
theorem qyi : q6s = Jp:=by
  funext rec q1 p0 p1 p2 p3;simp only [q6s,Jp,qyh]
  all_goals exact Ql
theorem qyg : ∀ N q,q6q N q = Z7 N q:=by
  intro N q
  induction N with
  | zero=>rfl
  | succ N ih=>
    funext a b c d;show q6s (q6q N q) q a b c d = Jp (Z7 N q) q a b c d;rw [ih,qyi]
theorem qxo : q6a = q1m:=by
  funext q1 p0;simp only [q6a,q1m,qlz,qyg]
  all_goals exact Ql
end Go.Sh
namespace Go.Sh
open Go Go.Am
instance : Inhabited qn:=⟨⟨0,0,0⟩⟩
theorem q100 (q : qn→qn→Option Int) (xs : List qn) : q6a q xs = q1m q xs:=by rw [qxo]
def evs (s : List qi) (l : Int) : List qn:=s.flatMap fun t=>[{at_:=t.Lo,list_:=l,by_:=1},{at_:=t.Hi,list_:=l,by_:=-1}]
theorem q7i (s : List qi) (l : Int) : (evs s l).length = 2 * s.length:=by
  induction s with
  | nil=>rfl
  | cons t s ih=>simp only [evs,List.flatMap_cons,List.length_append,List.length_cons,List.length_nil] at ih ⊢;omega
theorem qce {s : List qi} {l : Int} {e : qn} (h : e∈evs s l) : e.list_ = l∧(e.by_ = 1∨e.by_ = -1)∧∃ t∈s,e.at_ = t.Lo∨e.at_ = t.Hi:=by
  simp only [evs,List.mem_flatMap] at h;obtain ⟨t,a,h⟩:=h;simp only [List.mem_cons,List.not_mem_nil,or_false] at h;rcases h with rfl | rfl
  · exact ⟨rfl,.inl rfl,t,a,.inl rfl⟩
  · exact ⟨rfl,.inr rfl,t,a,.inr rfl⟩
theorem qi6 (s : List qi) (l : Int) (y : List qn) (hs : s.length≤1000) (base : List qn) (hb : base.length≤10000) :
    loop (q4m s (l,y)) (0,base) = some (base ++ evs s l):=by
  have:=Ku (f:=q4m s (l,y)) (σ:=List qn) (fun k c=>((k : Int),c)) s.length (fun k c=>c = base ++ evs (s.take k) l) (fun t=>t = base ++ evs s l) ?_ ?_ (k0:=0) (c0:=base) q8 (by simp [evs])
  · obtain ⟨b,g,rfl⟩:=this;exact g
  · rintro k c hk rfl;have a : decide ((k : Int) < (s.length : Int)) = true:=Q6 q8;refine .inl ⟨base ++ evs (s.take (k + 1)) l,?_,rfl⟩;have d : (evs (s.take k) l).length≤2000:=by rw [q7i,List.length_take];omega
    simp only [q4m,a,Q4,Qw hk,qo];rw [Ye (by rw [List.length_append];simp only [List.length_cons,List.length_nil];omega),qo,Qd q8,List.take_succ_eq_append_getElem hk,List.append_assoc];have : evs (s.take k ++ [s[k]]) l = evs (s.take k) l ++ [{at_:=s[k].Lo,list_:=l,by_:=1},{at_:=s[k].Hi,list_:=l,by_:=-1}]:=by simp only [evs,List.flatMap_append,List.flatMap_cons,List.flatMap_nil,List.append_nil]
    rw [this];rfl
  · rintro c rfl;have a : decide ((s.length : Int) < (s.length : Int)) = false:=Q9 q8;exact ⟨_,by simp only [q4m,a,qz];rfl,by rw [List.take_length]⟩
def ltE (a b : qn) : Bool:=decide (a.at_ < b.at_)
def inE (e : qn) : Prop:=-1000000≤e.at_∧e.at_≤1000000
theorem swoE : Sort.SWO ltE where
  irrefl:=by intro x;simp [ltE]
  trans:=by intro x y z;simp only [ltE,decide_eq_true_eq];omega
  ntrans:=by intro x y z;simp only [ltE,decide_eq_false_iff_not];omega
theorem cmpE : Y4 (fun a b=>qan a b) ltE inE:=by
  rintro x y ⟨c,f⟩ ⟨d,g⟩;refine ⟨x.at_ - y.at_,?_,?_⟩
  · show some (w64 (x.at_ - y.at_)) = _;rw [Qd q8]
  · unfold ltE;exact decide_eq_decide.2 q8
theorem qzz (p q : List qi) (hp : p.length≤500) (u : q.length≤500) (s : ∀ t∈p,vld t) (k : ∀ t∈q,vld t) :
    ∃ ys,qao [p,q] = some ([p,q],ys)∧ys.Perm (evs p 0 ++ evs q 1)∧ys.Pairwise (fun x y=>x.at_≤y.at_):=by
  have n : ∀ x∈evs p 0 ++ evs q 1,inE x:=by
    intro x m;rcases List.mem_append.1 m with h | h
    · obtain ⟨_,_,t,g,h⟩:=qce h;obtain ⟨a,b,c⟩:=s t g;unfold inE;rcases h with h | h <;> omega
    · obtain ⟨_,_,t,g,h⟩:=qce h;obtain ⟨a,b,c⟩:=k t g;unfold inE;rcases h with h | h <;> omega
  have v:=q7i p 0;have w:=q7i q 1;obtain ⟨ys,r,j,l⟩:=qgg cmpE swoE (evs p 0 ++ evs q 1) (by rw [List.length_append];omega) n;refine ⟨ys,?_,j,l.imp (fun {x y} h=>by simp only [ltE,decide_eq_false_iff_not] at h;omega)⟩
  have d : loop (q1d [p,q]) (0,[]) = some (evs p 0 ++ evs q 1):=by
    have s0 : q1d [p,q] (0,[]) = some (.inl (1,evs p 0)):=by
      have t : decide ((0 : Int) < (([p,q] : List (List qi)).length : Int)) = true:=rfl;simp only [q1d,t,Q4];have : idx [p,q] 0 = some p:=rfl;rw [this];simp only [qo,qi6 p 0 [] q8 [] qe,List.nil_append];rfl
    have s1 : q1d [p,q] (1,evs p 0) = some (.inl (2,evs p 0 ++ evs q 1)):=by
      have t : decide ((1 : Int) < (([p,q] : List (List qi)).length : Int)) = true:=rfl;simp only [q1d,t,Q4];have : idx [p,q] 1 = some q:=rfl;rw [this];simp only [qo,qi6 q 1 (evs p 0) q8 (evs p 0) q8];rfl
    have o : q1d [p,q] (2,evs p 0 ++ evs q 1) = some (.inr (evs p 0 ++ evs q 1)):=by
      have t : decide ((2 : Int) < (([p,q] : List (List qi)).length : Int)) = false:=rfl;simp only [q1d,t,qz]
    rw [Ya s0,Ya s1,Y1 o]
  unfold qao;rw [d];simp only [qo,q100,r];have le : K1 ys.length (evs p 0 ++ evs q 1).length = some ():=by unfold K1;rw [Q0 j.length_eq]
  have f : K1 ys.length ys.length = some ():=by unfold K1;rw [Q0 rfl]
  simp only [le,qo,qd4,f]
def cnt (l : Int) (c : Int→Bool) : List qn→Int
  | []=>0
  | e::es=>(if e.list_ = l∧c e.at_ = true then e.by_ else 0) + cnt l c es
theorem q2e (l : Int) (c : Int→Bool) (a b : List qn) : cnt l c (a ++ b) = cnt l c a + cnt l c b:=by
  induction a with
  | nil=>simp [cnt]
  | cons e a ih=>simp only [List.cons_append,cnt,ih];omega
theorem qhp {l : Int} {c : Int→Bool} {a b : List qn} (h : a.Perm b) : cnt l c a = cnt l c b:=by
  induction h with
  | nil=>rfl
  | cons x _ ih=>simp only [cnt,ih]
  | swap x y l=>simp only [cnt];omega
  | trans _ _ ih1 ih2=>rw [ih1,ih2]
theorem qhm {l : Int} {c b : Int→Bool} : ∀ {a : List qn},(∀ e∈a,c e.at_ = b e.at_)→cnt l c a = cnt l b a
  | [],_=>rfl
  | e::a,h=>by simp only [cnt,h e qe,qhm (fun e d=>h e (List.mem_cons_of_mem _ d))]
theorem qho {l : Int} {c : Int→Bool} : ∀ {a : List qn},(∀ e∈a,c e.at_ = false)→cnt l c a = 0
  | [],_=>rfl
  | e::a,h=>by
    simp only [cnt,qho (fun e b=>h e (List.mem_cons_of_mem _ b)),h e qe]
    simp
theorem q7a {s : List qi} {l l' : Int} {c : Int→Bool} (h : l≠l') : cnt l c (evs s l') = 0:=by
  induction s with
  | nil=>rfl
  | cons t s ih=>
    have : evs (t::s) l' = [{at_:=t.Lo,list_:=l',by_:=1},{at_:=t.Hi,list_:=l',by_:=-1}] ++ evs s l':=rfl;rw [this,q2e,ih];have a : ¬ l' = l:=fun e=>h e.symm;simp [cnt,a]
theorem qhn {s : List qi} {l : Int} (v : ∀ t∈s,vld t) (x : Int) : 0≤cnt l (fun a=>decide (a≤x)) (evs s l)∧(0 < cnt l (fun a=>decide (a≤x)) (evs s l)↔has s x):=by
  induction s with
  | nil=>exact ⟨Int.le_refl 0,by simp [evs,cnt,has]⟩
  | cons t s ih=>
    obtain ⟨f,c⟩:=ih (fun t d=>v t (List.mem_cons_of_mem _ d));have b:=v t qe;have : evs (t::s) l = [{at_:=t.Lo,list_:=l,by_:=1},{at_:=t.Hi,list_:=l,by_:=-1}] ++ evs s l:=rfl;rw [this,q2e,Zs,← c];obtain ⟨j,h,g⟩:=b;simp only [cnt,true_and,decide_eq_true_eq];split <;> split <;> omega
theorem qhq {s : List qi} {l : Int} : cnt l (fun _=>true) (evs s l) = 0:=by
  induction s with
  | nil=>rfl
  | cons t s ih=>
    have : evs (t::s) l = [{at_:=t.Lo,list_:=l,by_:=1},{at_:=t.Hi,list_:=l,by_:=-1}] ++ evs s l:=rfl;rw [this,q2e,ih];simp [cnt]
theorem qe1 {l : Int} {c : Int→Bool} : ∀ {a : List qn},(∀ e∈a,e.by_ = 1∨e.by_ = -1)→-(a.length : Int)≤cnt l c a∧cnt l c a≤(a.length : Int)
  | [],_=>by simp [cnt]
  | e::a,h=>by
    obtain ⟨d,f⟩:=qe1 (l:=l) (c:=c) (fun e b=>h e (List.mem_cons_of_mem _ b))
    have:=h e qe
    simp only [cnt,List.length_cons]
    split <;> omega
end Go.Sh
namespace Go.Sh
open Go Go.Am
theorem qos (at_ a : Int) (inn : Bool) (out : List qi) (h : out.length≤10000) :
    qap at_ inn a out = some (if inn = true∧a≠at_ then addS out a at_ else out):=by
  unfold qap
  cases inn with
  | false=>rfl
  | true=>
    by_cases b : a = at_
    · simp [b]
    · have hb : (a == at_) = false:=by simpa using b
      simp only [Bool.not_true,qz,qo,hb];rw [Q0 ⟨trivial,b⟩];rcases qd5 out with rfl | ⟨d,t,rfl⟩
      · rfl
      · have l : (d ++ [t]).length = d.length + 1:=by simp
        have j : decide (((d ++ [t]).length : Int) > 0) = true:=Q6 q8;have g : w64 (((d ++ [t]).length : Int) - 1) = (d.length : Int):=by rw [Qd q8];omega
        have k : idx (d ++ [t]) (d.length : Int) = some t:=by
          rw [Qw q8];simp
        simp only [j,Q4,g,k,qo];by_cases c : t.Hi = a
        · subst c;simp only [beq_self_eq_true,Q4,qbb,Int.toNat_natCast,qm4]
        · have f : (t.Hi == a) = false:=by simpa using c
          simp only [f,qz,qbc c];rw [Ye (by simp;omega)];rfl
open Classical in
structure qnb (f : Bool→Bool→Bool) (p q : List qi) (ys : List qn) (k : Nat) (c : List Int × Int × Bool × List qi) : Prop where
  opn : c.1 = [cnt 0 (fun _=>true) (ys.take k),cnt 1 (fun _=>true) (ys.take k)]
  inn : c.2.2.1 = f (decide (0 < cnt 0 (fun _=>true) (ys.take k))) (decide (0 < cnt 1 (fun _=>true) (ys.take k)))
  lst : ∀ (h : k - 1 < ys.length),0 < k→c.2.1 = ys[k - 1].at_
  can : Can c.2.2.2
  his : ∀ t∈c.2.2.2,t.Hi≤c.2.1
  zro : k = 0→c.2.2.2 = []
  pts : ∀ x,has c.2.2.2 x↔0 < k∧x < c.2.1∧f (decide (has p x)) (decide (has q x)) = true
  len : c.2.2.2.length≤k
theorem qnc (c : List qi) (a b : Int) : (addS c a b).length≤c.length + 1:=by
  rcases qd5 c with rfl | ⟨d,t,rfl⟩
  · simp [qgx]
  · by_cases h : t.Hi = a
    · subst h;rw [qbb];simp
    · rw [qbc h];simp
theorem qhl {p q : List qi} {ys : List qn} (hp : ∀ t∈p,vld t) (f : ∀ t∈q,vld t) (b : ys.Perm (evs p 0 ++ evs q 1)) (_ : ys.Pairwise (fun x y=>x.at_≤y.at_)) (k : Nat) (x : Int)
    (g : ∀ i (h : i < ys.length),i < k→ys[i].at_≤x) (d : ∀ i (h : i < ys.length),k≤i→x < ys[i].at_) :
    (0 < cnt 0 (fun _=>true) (ys.take k)↔has p x)∧(0 < cnt 1 (fun _=>true) (ys.take k)↔has q x):=by
  have key : ∀ l,cnt l (fun _=>true) (ys.take k) = cnt l (fun a=>decide (a≤x)) (evs p 0) + cnt l (fun a=>decide (a≤x)) (evs q 1):=by
    intro l;rw [← q2e,← qhp b]
    conv=>rhs;rw [← List.take_append_drop k ys]
    rw [q2e]
    have m : cnt l (fun a=>decide (a≤x)) (ys.drop k) = 0:=by
      refine qho fun e c=>?_;obtain ⟨i,hi,rfl⟩:=List.mem_iff_getElem.1 c;rw [List.getElem_drop];rw [List.length_drop] at hi;have:=d (k + i) q8 q8;exact Q9 q8
    have n : cnt l (fun a=>decide (a≤x)) (ys.take k) = cnt l (fun _=>true) (ys.take k):=by
      refine qhm fun e c=>?_;obtain ⟨i,hi,rfl⟩:=List.mem_iff_getElem.1 c;rw [List.getElem_take];rw [List.length_take] at hi;exact Q6 (g i q8 q8)
    rw [m,n];omega
  rw [key 0,key 1,q7a (l:=0) (l':=1) Q7,q7a (l:=1) (l':=0) Q7];have e1:=qhn (l:=0) hp x;have j:=qhn (l:=1) f x;rw [Int.add_zero,Int.zero_add];exact ⟨e1.2,j.2⟩
open Classical in
theorem qrl (f : Bool→Bool→Bool) (hf : f false false = false) (p2 : Bool→Bool→Option Bool) (hp2 : ∀ a b,p2 a b = some (f a b)) (p q : List qi)
    (hp : p.length≤500) (hq : q.length≤500) (vp : ∀ t∈p,vld t) (vq : ∀ t∈q,vld t) :
    ∃ out,q6x p q p2 = some out∧Can out∧∀ x,has out x↔f (decide (has p x)) (decide (has q x)) = true:=by
  obtain ⟨ys,e1,g,hs⟩:=qzz p q hp hq vp vq;have bd : ys.length≤2000:=by rw [g.length_eq,List.length_append,q7i,q7i];omega
  have w : ∀ i j (hi : i < ys.length) (hj : j < ys.length),i≤j→ys[i].at_≤ys[j].at_:=by
    intro i j hi hj bl;rcases Nat.lt_or_ge i j with h | h
    · exact List.pairwise_iff_getElem.1 hs i j hi hj h
    · obtain rfl : i = j:=by omega
      exact Int.le_refl _
  have y : ∀ e∈ys,(e.list_ = 0∨e.list_ = 1)∧(e.by_ = 1∨e.by_ = -1):=by
    intro e he;rcases List.mem_append.1 (g.mem_iff.1 he) with h | h
    · obtain ⟨a,b,_⟩:=qce h;exact ⟨.inl a,b⟩
    · obtain ⟨a,b,_⟩:=qce h;exact ⟨.inr a,b⟩
  have:=Ku (f:=q4n ([p,q],ys) p2) (σ:=List Int × Int × Bool × List qi) (fun k c=>((k : Int),c)) ys.length (qnb f p q ys) (fun out=>Can out∧∀ x,has out x↔f (decide (has p x)) (decide (has q x)) = true) ?_ ?_ (k0:=0) (c0:=([0,0],0,false,[])) q8 ?_
  · obtain ⟨out,r,m⟩:=this;refine ⟨out,?_,m⟩;unfold q6x;have r : loop (q4n ([p,q],ys) p2) (0,[0,0],0,false,[]) = some out:=r;rw [e1];simp only [qo,r];rfl
  · rintro k ⟨opn,d,inn,out⟩ hk ⟨s1,s2,s3,s4,s5,s6,s7,s8⟩;simp only at s1 s2 s3 s4 s5 s6 s7 s8;have ae : decide ((k : Int) < (ys.length : Int)) = true:=Q6 q8;have bc:=qos ys[k].at_ d inn out q8;have hm:=y ys[k] (Kr hk);have ba : ys.take (k + 1) = ys.take k ++ [ys[k]]:=List.take_succ_eq_append_getElem hk;have aj : ∀ e∈ys.take k,e.by_ = 1∨e.by_ = -1:=fun e he=>(y e (List.mem_of_mem_take he)).2;have b0:=qe1 (l:=0) (c:=fun _=>true) aj;have b1:=qe1 (l:=1) (c:=fun _=>true) aj;have aq : (ys.take k).length = k:=by rw [List.length_take];omega
    rw [aq] at b0 b1
    have ad : ∃ v,idxA 2 opn ys[k].list_ = some v∧opn.set ys[k].list_.toNat (w64 (v + ys[k].by_)) = [cnt 0 (fun _=>true) (ys.take (k + 1)),cnt 1 (fun _=>true) (ys.take (k + 1))]:=by
      subst s1;rw [ba,q2e,q2e];rcases hm.1 with h | h
      · refine ⟨cnt 0 (fun _=>true) (ys.take k),by rw [h];rfl,?_⟩;rw [h,Qd q8];simp [cnt,h]
      · refine ⟨cnt 1 (fun _=>true) (ys.take k),by rw [h];rfl,?_⟩;rw [h,Qd q8];simp [cnt,h]
    obtain ⟨v,o1,o2⟩:=ad;refine .inl ⟨([cnt 0 (fun _=>true) (ys.take (k + 1)),cnt 1 (fun _=>true) (ys.take (k + 1))],ys[k].at_,f (decide (0 < cnt 0 (fun _=>true) (ys.take (k + 1)))) (decide (0 < cnt 1 (fun _=>true) (ys.take (k + 1)))),if inn = true∧d≠ys[k].at_ then addS out d ys[k].at_ else out),?_,?_⟩
    · have x0 : ∀ a b : Int,idxA 2 [a,b] 0 = some a:=fun a b=>rfl;have x1 : ∀ a b : Int,idxA 2 [a,b] 1 = some b:=fun a b=>rfl;simp only [q4n,ae,Q4,Qw hk,qo,bc,o1,o2,x0,x1,hp2];rw [Qd q8];rfl
    · have ac : ∀ x,(0 < k→d≤x)→∀ i (h : i < ys.length),i < k→ys[i].at_≤x:=by
        intro x o i hi an;have:=s3 q8 q8;have:=w i (k - 1) hi q8 q8;have:=o q8;omega
      have ab : ∀ x,x < ys[k].at_→∀ i (h : i < ys.length),k≤i→x < ys[i].at_:=by
        intro x o i hi an;have:=w k i hk hi an;omega
      have hF : ∀ x,(0 < k→d≤x)→x < ys[k].at_→f (decide (has p x)) (decide (has q x)) = inn:=by
        intro x o ap;obtain ⟨c1,c2⟩:=qhl vp vq g hs k x (ac x o) (ab x ap);rw [s2,decide_eq_decide.2 c1,decide_eq_decide.2 c2]
      have n : 0 < k→d≤ys[k].at_:=by
        intro u;rw [s3 q8 u];exact w (k - 1) k q8 hk q8
      have z : k = 0→inn = false:=by
        intro u;subst u;rw [s2];exact hf
      by_cases s : inn = true∧d≠ys[k].at_
      · have ai : 0 < k:=by
          rcases Nat.eq_zero_or_pos k with h | h
          · rw [z h] at s;cases s.1
          · exact h
        have hl:=n ai;have az : d < ys[k].at_:=by have:=s.2;omega
        obtain ⟨d1,d2,d3,d4⟩:=qgy s4 s5 az;constructor
        · rfl
        · rfl
        · intro h _;rfl
        · simp only [Q0 s];exact d1
        · simp only [Q0 s];exact d3
        · omega
        · intro x;simp only [Q0 s];rw [d2,s7];constructor
          · rintro (⟨u,r,m⟩ | ⟨r,m⟩)
            · exact ⟨q8,q8,m⟩
            · exact ⟨q8,m,by rw [hF x (fun _=>r) m];exact s.1⟩
          · rintro ⟨u,r,m⟩;by_cases o : x < d
            · exact .inl ⟨ai,o,m⟩
            · exact .inr ⟨q8,r⟩
        · simp only [Q0 s];have:=qnc out d ys[k].at_;omega
      · constructor
        · rfl
        · rfl
        · intro h _;rfl
        · simp only [Q1 s];exact s4
        · simp only [Q1 s];intro t ht;rcases Nat.eq_zero_or_pos k with h | h
          · rw [s6 h] at ht;cases ht
          · have:=s5 t ht;have:=n h;omega
        · omega
        · intro x;simp only [Q1 s];rw [s7];constructor
          · rintro ⟨u,r,m⟩;exact ⟨q8,by have:=n u;omega,m⟩
          · rintro ⟨u,r,m⟩;by_cases o : 0 < k∧x < d
            · exact ⟨o.1,o.2,m⟩
            · have ak : 0 < k→d≤x:=fun h=>by
                refine Int.not_lt.1 fun h'=>o ⟨h,h'⟩
              have:=hF x ak r;rw [this] at m;refine absurd ⟨m,?_⟩ s;intro e;rcases Nat.eq_zero_or_pos k with h | h
              · rw [z h] at m;cases m
              · have:=ak h;omega
        · simp only [Q1 s];omega
  · rintro ⟨opn,d,inn,out⟩ ⟨s1,s2,s3,s4,s5,s6,s7,s8⟩;simp only at s1 s2 s3 s4 s5 s6 s7 s8;have ae : decide ((ys.length : Int) < (ys.length : Int)) = false:=Q9 q8;refine ⟨out,by simp only [q4n,ae,qz],s4,fun x=>?_⟩;rw [s7];constructor
    · rintro ⟨_,_,h⟩;exact h
    · intro h;by_cases o : 0 < ys.length∧x < d
      · exact ⟨o.1,o.2,h⟩
      · obtain ⟨c1, c2⟩ := qhl vp vq g hs ys.length x (fun i hi _ => by
            have:=s3 q8 q8;have:=w i (ys.length - 1) hi q8 q8;have : d≤x:=Int.not_lt.1 fun h'=>o ⟨q8,h'⟩
            omega) (fun i hi bi=>q8)
        have aw : ∀ l,cnt l (fun _=>true) (ys.take ys.length) = 0:=by
          intro l;rw [List.take_length,qhp g,q2e];by_cases u : l = 0
          · subst u;rw [qhq,q7a Q7];rfl
          · rw [q7a u];by_cases r : l = 1
            · subst r;rw [qhq];rfl
            · rw [q7a r];rfl
        rw [aw] at c1 c2;have n1 : ¬ has p x:=fun h=>absurd (c1.2 h) Q7;have n2 : ¬ has q x:=fun h=>absurd (c2.2 h) Q7;rw [Q9 n1,Q9 n2,hf] at h;cases h
  · constructor
    · simp [cnt]
    · simp [cnt,hf]
    · intro h u;omega
    · exact ⟨fun t ht=>(by cases ht),.nil⟩
    · intro t ht;cases ht
    · intro _;rfl
    · intro x;simp [has]
    · simp
end Go.Sh
namespace Go.Sh
open Go Go.Am
theorem qop {s : List qi} (h : Us s = 0) : s.length≤400∧Good s:=by
  unfold Us at h;split at h
  · cases h
  · split at h
    · rename_i b a;exact ⟨q8,a⟩
    · cases h
def dst (x : Int) (t : qi) : Int:=max (max (t.Lo - x) (x - t.Hi + 1)) 0
end Go.Sh
namespace Go.Sh
open Go Go.Am
noncomputable def Js (kind : Int) (p q : List qi) : List qi:=(qct kind p q).getD []
theorem qj4 (kind : Int) (p q : List qi) (hp : p.length≤100000) (b : q.length≤100000) : qct kind p q = some (Js kind p q)∧qdl kind p q (Js kind p q):=by
  obtain ⟨out,a,c⟩:=qrn kind p q hp b;unfold Js;rw [a];exact ⟨rfl,c⟩
theorem qrd (s : List qi) (b : qi→Option Bool) (c : qi→Bool) (h : ∀ t,b t = some (c t)) (p : s.length≤1000000) :
    ∃ r,q8h s b = some r∧decide (r ≥ 0) = s.any c:=by
  have:=Ku (f:=q32 s b) (σ:=Unit) (fun k _=>(k : Int)) s.length (fun k _=>∀ i (h : i < s.length),i < k→c s[i] = false)
    (fun m=>∃ r : Int,(match m with | .inl b22=>some (-1) | .inr x1=>some x1) = some r∧decide (r ≥ 0) = s.any c) ?_ ?_ (k0:=0) (c0:=()) q8 (fun i _ hi=>q8)
  · obtain ⟨m,g,r,j,n⟩:=this;have g : loop (q32 s b) 0 = some m:=g;exact ⟨r,by unfold q8h;rw [g];exact j,n⟩
  · rintro k _ hk hi;have hb : decide ((k : Int) < (s.length : Int)) = true:=Q6 q8
    cases d : c s[k] with
    | true=>
      refine .inr ⟨.inr (k : Int),?_,(k : Int),rfl,?_⟩
      · simp only [q32,hb,Q4,Qw hk,qo,h,d]
      · have : s.any c = true:=List.any_eq_true.2 ⟨s[k],Kr hk,d⟩;rw [this];exact Q6 q8
    | false=>
      refine .inl ⟨(),?_,?_⟩
      · simp only [q32,hb,Q4,Qw hk,qo,h,d,qz];rw [Qd q8];rfl
      · intro i a o;by_cases e : i = k
        · subst e;exact d
        · exact hi i a q8
  · rintro _ hi;have hb : decide ((s.length : Int) < (s.length : Int)) = false:=Q9 q8;refine ⟨.inl (),by simp only [q32,hb,qz],-1,rfl,?_⟩
    have : s.any c = false:=by
      rw [List.any_eq_false];intro t l;obtain ⟨i,a,rfl⟩:=List.mem_iff_getElem.1 l;simp [hi i a a]
    rw [this];rfl
theorem qhv (s : List qi) (a : qi→Option Bool) (c : qi→Bool) (h : ∀ t,a t = some (c t)) (b : s.length≤1000000) : q66 s a = some (s.any c):=by
  obtain ⟨r,f,d⟩:=qrd s a c h b;unfold q66;rw [f,qo,d]
open Classical in
theorem q57 (s : List qi) (x : Int) (c : s.length≤1000000) : q1c s x = some (decide (has s x)):=by
  unfold q1c
  rw [qhv s _ (fun t=>decide (t.Lo≤x∧x < t.Hi)) (fun t=>by
    show (cond (decide (t.Lo≤x)) (some (decide (x < t.Hi))) (some false)).bind (fun c1=>some c1) = _;by_cases a : t.Lo≤x
    · simp [a]
    · simp [a]) c,qo]
  congr 1;by_cases h : has s x
  · rw [Q6 h,List.any_eq_true];obtain ⟨t,b,h⟩:=h;exact ⟨t,b,Q6 h⟩
  · rw [Q9 h,List.any_eq_false];intro t b a;exact h ⟨t,b,of_decide_eq_true a⟩
open Classical in
noncomputable def qcb (s : List qi) : List qi × Int:=if 400 < s.length then ([],4) else if ∀ t∈s,vld t then (Js 2 s [],0) else ([],8)
theorem qsf (s : List qi) (k : s.length≤400) (c : ∀ t∈s,vld t) (p2 : Bool→Bool→Option Bool) (hp2 : ∀ a b,p2 a b = some a) : q6x s [] p2 = some (Js 2 s []):=by
  classical
  obtain ⟨out,f,d,h⟩:=qrl (fun a _=>a) rfl p2 hp2 s [] q8 qe c (fun t g=>by cases g);obtain ⟨_,j⟩:=qj4 2 s [] q8 qe;rw [f];congr 1;refine qhc d j.can fun x=>?_;rw [h,j.pts];simp [q1u,q17]
theorem qse (s : List qi) : q24 s = some (qcb s):=by
  classical
  unfold q24 qcb;by_cases f : 400 < s.length
  · have e : decide ((s.length : Int) > 400) = true:=Q6 q8;rw [e,Q0 f];rfl
  · have e : decide ((s.length : Int) > 400) = false:=Q9 q8;rw [e,Q1 f,qz,qhv s _ (fun t=>!decide (vld t)) (fun t=>by show (q33 t).bind _ = _;rw [qn0];rfl) q8,qo];by_cases c : ∀ t∈s,vld t
    · have : (s.any fun t=>!decide (vld t)) = false:=by
        rw [List.any_eq_false];intro t d;simp [c t d]
      rw [this,qz,Q0 c,qsf s q8 c (fun g j=>qam g j) (fun a b=>rfl)];rfl
    · have : (s.any fun t=>!decide (vld t)) = true:=by
        rw [List.any_eq_true];obtain ⟨t,c⟩:=Classical.not_forall.1 c;obtain ⟨d,h⟩:=Classical.not_imp.1 c;exact ⟨t,d,by simp [h]⟩
      rw [this,Q4,Q1 c]
def lenL : List qi→Int
  | []=>0
  | t::s=>(t.Hi - t.Lo) + lenL s
theorem qje (a b : List qi) : lenL (a ++ b) = lenL a + lenL b:=by
  induction a with
  | nil=>simp [lenL]
  | cons t a ih=>simp only [List.cons_append,lenL,ih];omega
theorem qjf : ∀ {s : List qi},(∀ t∈s,vld t)→0≤lenL s∧lenL s≤2000000 * (s.length : Int)
  | [],_=>by simp [lenL]
  | t::s,h=>by
    obtain ⟨d,b⟩:=qjf (fun t a=>h t (List.mem_cons_of_mem _ a))
    obtain ⟨g,f,c⟩:=h t qe
    simp only [lenL,List.length_cons]
    omega
noncomputable def qex (s : List qi) : Int × Int:=if Us s = 0 then (lenL s,0) else (0,Us s)
theorem qru (s : List qi) (n : s.length≤400) (d : ∀ t∈s,vld t) : loop (qal s) (0,0) = some (lenL s)∧loop (q86 s) (0,0) = some (lenL s):=by
  have a : ∀ k,0≤lenL (s.take k)∧lenL (s.take k)≤800000000:=by
    intro k;have:=qjf (s:=s.take k) (fun t m=>d t (List.mem_of_mem_take m));have : (s.take k).length≤400:=by rw [List.length_take];omega
    omega
  constructor
  · have:=Ku (f:=qal s) (σ:=Int) (fun k c=>(c,(k : Int))) s.length (fun k c=>c = lenL (s.take k)) (fun r=>r = lenL s) ?_ ?_ (k0:=0) (c0:=0) q8 (by simp [lenL])
    · obtain ⟨b,g,rfl⟩:=this;exact g
    · rintro k c hk rfl;have hb : decide ((k : Int) < (s.length : Int)) = true:=Q6 q8;obtain ⟨l,j,h⟩:=d _ (Kr hk);have:=a k;refine .inl ⟨lenL (s.take (k + 1)),?_,rfl⟩;simp only [qal,hb,Q4,Qw hk,qo];rw [Qd (x:=s[k].Hi - s[k].Lo) q8,Qd (x:=lenL (s.take k) + _) q8,Qd q8,List.take_succ_eq_append_getElem hk,qje];simp only [lenL,Int.add_zero];rfl
    · rintro c rfl;have hb : decide ((s.length : Int) < (s.length : Int)) = false:=Q9 q8;exact ⟨_,by simp only [qal,hb,qz];rfl,by rw [List.take_length]⟩
  · have:=Ku (f:=q86 s) (σ:=Int) (fun k c=>(c,(k : Int))) s.length (fun k c=>c = lenL (s.take k)) (fun r=>r = lenL s) ?_ ?_ (k0:=0) (c0:=0) q8 (by simp [lenL])
    · obtain ⟨b,g,rfl⟩:=this;exact g
    · rintro k c hk rfl;have hb : decide ((k : Int) < (s.length : Int)) = true:=Q6 q8;obtain ⟨l,j,h⟩:=d _ (Kr hk);have:=a k;refine .inl ⟨lenL (s.take (k + 1)),?_,rfl⟩;simp only [q86,hb,Q4,Qw hk,qo];rw [Qd (x:=lenL (s.take k) + s[k].Hi) q8,Qd (x:=lenL (s.take k) + s[k].Hi - _) q8,Qd q8,List.take_succ_eq_append_getElem hk,qje];have : lenL (s.take k) + s[k].Hi - s[k].Lo = lenL (s.take k) + lenL [s[k]]:=by simp only [lenL];omega
      rw [this];rfl
    · rintro c rfl;have hb : decide ((s.length : Int) < (s.length : Int)) = false:=Q9 q8;exact ⟨_,by simp only [q86,hb,qz];rfl,by rw [List.take_length]⟩
theorem q11p (s : List qi) : qmg s = some (qex s)∧ql7 s = some (qex s):=by
  unfold qmg ql7 qex;simp only [qhh,qw8,qo];by_cases h : Us s = 0
  · obtain ⟨c,d⟩:=qop h;obtain ⟨a,b⟩:=qru s c d.1;have e : (Us s != 0) = false:=by simpa using h
    simp only [e,qz,a,b,qo];simp only [h,if_true];exact ⟨trivial,trivial⟩
  · have e : (Us s != 0) = true:=by simpa using h
    simp only [e,Q4,Q1 h];exact ⟨trivial,trivial⟩
end Go.Sh
namespace Go.Sh
open Go Go.Am
section
variable {α β : Type} [DecidableEq α]
theorem qci {z : β} {k : α} {v : β} : ∀ {R : List (α × β)},(R.map (·.1)).Nodup→(k,v)∈R→K9 z k R = v
  | [],_,h=>by cases h
  | (a,w)::r,hn,h=>by
    simp only [List.map_cons,List.nodup_cons] at hn
    simp only [K9]
    rcases List.mem_cons.1 h with h | h
    · cases h;rw [Q0 rfl]
    · have : k≠a:=fun e=>hn.1 (e ▸ List.mem_map_of_mem (f:=(·.1)) h)
      rw [Q1 this];exact qci hn.2 h
theorem qcj {z : β} {k : α} : ∀ {R : List (α × β)},k ∉ R.map (·.1)→K9 z k R = z
  | [],_=>rfl
  | (a,w)::r,h=>by
    simp only [List.map_cons,List.mem_cons,not_or] at h
    simp only [K9,Q1 h.1];exact qcj h.2
theorem qf2 {k : α} {v : β} : ∀ {R : List (α × β)},(R.map (·.1)).Nodup→∀ a w,((a,w)∈Ko k v R↔(a = k∧w = v)∨(a≠k∧(a,w)∈R))
  | [],_,a,w=>by simp [Ko]
  | (b,u)::r,hn,a,w=>by
    simp only [List.map_cons,List.nodup_cons] at hn
    simp only [Ko]
    by_cases e : k = b
    · subst e
      rw [Q0 rfl,List.mem_cons,Prod.mk.injEq,List.mem_cons,Prod.mk.injEq]
      constructor
      · rintro (h | h)
        · exact .inl h
        · exact .inr ⟨fun e=>hn.1 (e ▸ List.mem_map_of_mem (f:=(·.1)) h),.inr h⟩
      · rintro (h | ⟨c,h | h⟩)
        · exact .inl h
        · exact absurd h.1 c
        · exact .inr h
    · rw [Q1 e,List.mem_cons,qf2 hn.2 a w,List.mem_cons,Prod.mk.injEq]
      constructor
      · rintro (⟨rfl,rfl⟩ | h | ⟨c,d⟩)
        · exact .inr ⟨fun h=>e h.symm,.inl ⟨rfl,rfl⟩⟩
        · exact .inl h
        · exact .inr ⟨c,.inr d⟩
      · rintro (h | ⟨c,h | h⟩)
        · exact .inr (.inl h)
        · exact .inl h
        · exact .inr (.inr ⟨c,h⟩)
theorem q7w {k : α} {v : β} : ∀ {R : List (α × β)} (a : α),a∈(Ko k v R).map (·.1)↔a = k∨a∈R.map (·.1)
  | [],a=>by simp [Ko]
  | (b,u)::r,a=>by
    simp only [Ko]
    by_cases e : k = b
    · subst e;simp
    · simp only [e,if_false,List.map_cons,List.mem_cons,q7w a];constructor <;> (rintro (h | h | h) <;> simp [h])
theorem qfb {k : α} {v : β} : ∀ {R : List (α × β)},(R.map (·.1)).Nodup→((Ko k v R).map (·.1)).Nodup
  | [],_=>by simp [Ko]
  | (b,u)::r,hn=>by
    simp only [List.map_cons,List.nodup_cons] at hn
    simp only [Ko]
    by_cases e : k = b
    · subst e;simp only [if_true,List.map_cons,List.nodup_cons];exact hn
    · simp only [e,if_false,List.map_cons,List.nodup_cons]
      refine ⟨fun h=>?_,qfb hn.2⟩
      rcases (q7w b).1 h with h | h
      · exact e h.symm
      · exact hn.1 h
theorem qk4 {k : α} {v : β} : ∀ {R : List (α × β)},(Ko k v R).length≤R.length + 1
  | []=>by simp [Ko]
  | (b,u)::r=>by
    simp only [Ko]
    have:=qk4 (k:=k) (v:=v) (R:=r)
    split <;> simp <;> omega
end
def hk (s : Qb) : Option (Int × qi):=if s.A.Y = s.B.Y then some (s.A.Y,{Lo:=min s.A.X s.B.X,Hi:=max s.A.X s.B.X}) else none
def vk (s : Qb) : Option (Int × qi):=if s.A.Y = s.B.Y then none else some (s.A.X,{Lo:=min s.A.Y s.B.Y,Hi:=max s.A.Y s.B.Y})
def onL (L : List (Int × qi)) (k x : Int) : Prop:=∃ p∈L,p.1 = k∧p.2.Lo≤x∧x < p.2.Hi
def Y5 (L : List (Int × qi)) (k : Int) : List qi:=(L.filter fun p=>decide (p.1 = k)).map (·.2)
theorem q3t {L : List (Int × qi)} {k : Int} {t : qi} : t∈Y5 L k↔(k,t)∈L:=by
  simp only [Y5,List.mem_map,List.mem_filter,decide_eq_true_eq];constructor
  · rintro ⟨⟨a,b⟩,⟨c,rfl⟩,rfl⟩;exact c
  · intro h;exact ⟨(k,t),⟨h,rfl⟩,rfl⟩
theorem q25 {L : List (Int × qi)} {k : Int} : (Y5 L k).length≤L.length:=by
  simp only [Y5,List.length_map];exact List.length_filter_le _ _
theorem qiz {L : List (Int × qi)} {k x : Int} : has (Y5 L k) x↔onL L k x:=by
  constructor
  · rintro ⟨t,b,h⟩;exact ⟨(k,t),q3t.1 b,rfl,h⟩
  · rintro ⟨⟨a,t⟩,b,rfl,h⟩;exact ⟨t,q3t.2 b,h⟩
theorem qaq {L : List (Int × qi)} {k : Int} {t : qi} (a : Int) : Y5 (L ++ [(k,t)]) a = Y5 L a ++ (if a = k then [t] else []):=by
  simp only [Y5,List.filter_append,List.map_append,List.append_cancel_left_eq];by_cases e : k = a
  · subst e;simp
  · have : ¬ a = k:=fun h=>e h.symm;simp [e,this]
structure Grp (L : List (Int × qi)) (R : List (Int × List qi)) : Prop where
  nd : (R.map (·.1)).Nodup
  val : ∀ k v,(k,v)∈R→v = Y5 L k
  all : ∀ k t,(k,t)∈L→k∈R.map (·.1)
  own : ∀ k,k∈R.map (·.1)→∃ t,(k,t)∈L
theorem Grp.get {L : List (Int × qi)} {R : List (Int × List qi)} (h : Grp L R) (k : Int) : K9 [] k R = Y5 L k:=by
  by_cases hk : k∈R.map (·.1)
  · obtain ⟨⟨a,v⟩,b,rfl⟩:=List.mem_map.1 hk;rw [qci h.nd b];exact h.val _ _ b
  · rw [qcj hk];symm;refine List.eq_nil_iff_forall_not_mem.2 fun t c=>?_;exact hk (h.all k t (q3t.1 c))
theorem Grp.put {L : List (Int × qi)} {R : List (Int × List qi)} (h : Grp L R) (k : Int) (t : qi) : Grp (L ++ [(k,t)]) (Ko k (Y5 L k ++ [t]) R):=by
  refine ⟨qfb h.nd,fun a v f=>?_,fun a u d=>?_,fun a c=>?_⟩
  · rw [qaq];rcases (qf2 h.nd a v).1 f with ⟨rfl,rfl⟩ | ⟨b,g⟩
    · rw [Q0 rfl]
    · rw [Q1 b,List.append_nil];exact h.val a v g
  · rw [q7w];rcases List.mem_append.1 d with b | b
    · exact .inr (h.all a u b)
    · simp only [List.mem_singleton,Prod.mk.injEq] at b;exact .inl b.1
  · rcases (q7w a).1 c with rfl | c
    · exact ⟨t,qe⟩
    · obtain ⟨u,d⟩:=h.own a c;exact ⟨u,by simp [d]⟩
theorem Grp.nil : Grp [] []:=⟨.nil,fun _ _ h=>(by cases h),fun _ _ h=>(by cases h),fun _ h=>(by cases h)⟩
theorem Grp.len {L : List (Int × qi)} {R : List (Int × List qi)} (h : Grp L R) : R.length≤L.length:=by
  have : (R.map (·.1)).length≤(L.map (·.1)).length:=by
    refine List.Nodup.length_le_of_subset h.nd fun k hk=>?_;obtain ⟨t,a⟩:=h.own k hk;exact List.mem_map_of_mem (f:=(·.1)) a
  simpa using this
structure Rep (R : List (Int × List qi)) (F : Int→Int→Prop) : Prop where
  nd : (R.map (·.1)).Nodup
  good : ∀ k v,(k,v)∈R→Good v
  len : ∀ k v,(k,v)∈R→v.length≤800
  pts : ∀ k v,(k,v)∈R→∀ x,has v x↔F k x
  all : ∀ k x,F k x→k∈R.map (·.1)
  cnt : R.length≤400
  key : ∀ k∈R.map (·.1),-1000000≤k∧k≤1000000
theorem Rep.get {R : List (Int × List qi)} {F : Int→Int→Prop} (h : Rep R F) (k x : Int) : has (K9 [] k R) x↔F k x:=by
  by_cases hk : k∈R.map (·.1)
  · obtain ⟨⟨a,v⟩,c,rfl⟩:=List.mem_map.1 hk;rw [qci h.nd c];exact h.pts _ _ c x
  · rw [qcj hk];exact ⟨fun b=>absurd b (q17 x),fun b=>absurd (h.all k x b) hk⟩
theorem Rep.getlen {R : List (Int × List qi)} {F : Int→Int→Prop} (h : Rep R F) (k : Int) : (K9 [] k R).length≤800:=by
  by_cases hk : k∈R.map (·.1)
  · obtain ⟨⟨a,v⟩,b,rfl⟩:=List.mem_map.1 hk;rw [qci h.nd b];exact h.len _ _ b
  · rw [qcj hk];simp
theorem qe3 {L : List (Int × qi)} (d : L.length≤400) (b : ∀ k t,(k,t)∈L→vld t) : ∀ {R : List (Int × List qi)},(∀ k v,(k,v)∈R→v = Y5 L k)→Jl R = some (R.map fun e=>(e.1,Js 2 (Y5 L e.1) []))
  | [],_=>rfl
  | (k,v)::r,h=>by
    have e:=h k v qe
    have j:=qe3 d b (R:=r) fun a w c=>h a w (by simp [c])
    have l:=q25 (L:=L) (k:=k)
    have g : qcb v = (Js 2 (Y5 L k) [],0):=by
      subst e;unfold qcb;rw [Q1 q8,Q0 fun t f=>b k t (q3t.1 f)]
    simp only [Jl,qse,g,qo,j,List.map_cons]
theorem qlq {L : List (Int × qi)} {R : List (Int × List qi)} (h : Grp L R) (p : L.length≤400) (m : ∀ k t,(k,t)∈L→vld t) (hb : ∀ k t,(k,t)∈L→-1000000≤k∧k≤1000000) : Rep (R.map fun e=>(e.1,Js 2 (Y5 L e.1) [])) (onL L):=by
  have J : ∀ k,qdl 2 (Y5 L k) [] (Js 2 (Y5 L k) []):=fun k=>(qj4 2 _ _ (by have:=q25 (L:=L) (k:=k);omega) qe).2
  have c : ∀ k v,(k,v)∈(R.map fun e=>(e.1,Js 2 (Y5 L e.1) []))→v = Js 2 (Y5 L k) []:=by
    intro k v f;obtain ⟨e,q,n⟩:=List.mem_map.1 f;cases n;rfl
  have b : (R.map fun e=>(e.1,Js 2 (Y5 L e.1) [])).map (·.1) = R.map (·.1):=by simp
  refine ⟨by rw [b];exact h.nd,fun k v f=>?_,fun k v f=>?_,fun k v f x=>?_,fun k x d=>?_,?_,fun k hk=>?_⟩
  · rw [c k v f];refine ⟨fun t g=>⟨(J k).can.1 t g,?_⟩,(J k).can.2⟩;obtain ⟨e1,o⟩:=(J k).ends t g
    have j : ∀ x,x∈ends (Y5 L k)∨x∈ends []→-1000000≤x∧x≤1000000:=by
      rintro x (d | d)
      · obtain ⟨u,l,d⟩:=q7s.1 d;have:=m k u (q3t.1 l);unfold vld at this;rcases d with rfl | rfl <;> omega
      · cases d
    exact ⟨(j _ e1).1,(j _ o).2⟩
  · rw [c k v f];have:=(J k).len;have:=q25 (L:=L) (k:=k);simp only [List.length_nil,Nat.add_zero] at *;omega
  · rw [c k v f,(J k).pts,qiz];simp [q1u,q17]
  · rw [b];obtain ⟨⟨a,t⟩,hp,rfl,_⟩:=d;exact h.all _ _ hp
  · have:=h.len;simp;omega
  · rw [b] at hk;obtain ⟨t,g⟩:=h.own k hk;exact hb k t g
theorem qox {r : Y9} {s : Qb} {L M : List (Int × qi)} (c : Grp L r.rows_) (b : Grp M r.columns_) (g : L.length≤1000) (f : M.length≤1000) : ∃ a,Ut r s = some a∧Grp (L ++ (hk s).toList) a.rows_∧Grp (M ++ (vk s).toList) a.columns_:=by
  unfold Ut hk vk;by_cases e : s.A.Y = s.B.Y
  · have d : (s.A.Y == s.B.Y) = true:=by simpa using e
    rw [d,Q4,c.get,Ye (by have:=q25 (L:=L) (k:=s.A.Y);simp;omega),Q0 e,Q0 e];refine ⟨_,rfl,c.put _ _,by simpa using b⟩
  · have d : (s.A.Y == s.B.Y) = false:=by simpa using e
    rw [d,qz,b.get,Ye (by have:=q25 (L:=M) (k:=s.A.X);simp;omega),Q1 e,Q1 e];refine ⟨_,rfl,by simpa using c,b.put _ _⟩
theorem qhs : ∀ (l : List Qb) {r : Y9} {L M : List (Int × qi)},Grp L r.rows_→Grp M r.columns_→L.length + l.length≤1000→M.length + l.length≤1000→∃ a,q1h l r = some a∧Grp (L ++ l.filterMap hk) a.rows_∧Grp (M ++ l.filterMap vk) a.columns_
  | [],r,L,M,h1,h2,_,_=>⟨r,rfl,by simpa using h1,by simpa using h2⟩
  | s::l,r,L,M,h1,h2,hl,hm=>by
    simp only [List.length_cons] at hl hm
    obtain ⟨n,e1,f,d⟩:=qox (s:=s) h1 h2 q8 q8
    have m : (hk s).toList.length≤1:=by cases hk s <;> simp
    have k : (vk s).toList.length≤1:=by cases vk s <;> simp
    obtain ⟨b,g,j,c⟩:=qhs l f d (by simp;omega) (by simp;omega)
    refine ⟨b,by simp only [q1h,e1,qo,g],?_,?_⟩
    · have : L ++ (s::l).filterMap hk = L ++ (hk s).toList ++ l.filterMap hk:=by cases h : hk s <;> simp [h]
      rw [this];exact j
    · have : M ++ (s::l).filterMap vk = M ++ (vk s).toList ++ l.filterMap vk:=by cases h : vk s <;> simp [h]
      rw [this];exact c
structure SegV (s : Qb) : Prop where
  a : -1000000≤s.A.X∧s.A.X≤1000000∧-1000000≤s.A.Y∧s.A.Y≤1000000
  b : -1000000≤s.B.X∧s.B.X≤1000000∧-1000000≤s.B.Y∧s.B.Y≤1000000
  or : (s.A.X = s.B.X∧s.A.Y≠s.B.Y)∨(s.A.X≠s.B.X∧s.A.Y = s.B.Y)
def q21 (l : List Qb) : List (Int × qi):=l.filterMap hk
def q1i (l : List Qb) : List (Int × qi):=l.filterMap vk
theorem qjw {l : List Qb} {k : Int} {t : qi} : (k,t)∈q21 l↔∃ s∈l,s.A.Y = s.B.Y∧k = s.A.Y∧t = {Lo:=min s.A.X s.B.X,Hi:=max s.A.X s.B.X}:=by
  simp only [q21,List.mem_filterMap,hk];constructor
  · rintro ⟨s,hs,h⟩;split at h
    · cases h;exact ⟨s,hs,by assumption,rfl,rfl⟩
    · cases h
  · rintro ⟨s,hs,a,rfl,rfl⟩;exact ⟨s,hs,by rw [Q0 a]⟩
theorem qjt {l : List Qb} {k : Int} {t : qi} : (k,t)∈q1i l↔∃ s∈l,s.A.Y≠s.B.Y∧k = s.A.X∧t = {Lo:=min s.A.Y s.B.Y,Hi:=max s.A.Y s.B.Y}:=by
  simp only [q1i,List.mem_filterMap,vk];constructor
  · rintro ⟨s,hs,h⟩;split at h
    · cases h
    · cases h;exact ⟨s,hs,by assumption,rfl,rfl⟩
  · rintro ⟨s,hs,a,rfl,rfl⟩;exact ⟨s,hs,by rw [Q1 a]⟩
theorem qxf (l : List Qb) : (q21 l).length≤l.length:=List.length_filterMap_le _ _
theorem qp0 (l : List Qb) : (q1i l).length≤l.length:=List.length_filterMap_le _ _
theorem qg4 {l : List Qb} (h : ∀ s∈l,SegV s) : ∀ k t,(k,t)∈q21 l→vld t:=by
  intro k t a;obtain ⟨s,hs,j,_,rfl⟩:=qjw.1 a;obtain ⟨⟨f,g,m,b⟩,⟨b1,b2,d,c⟩,o⟩:=h s hs;unfold vld;simp only;omega
theorem qlw {l : List Qb} (h : ∀ s∈l,SegV s) : ∀ k t,(k,t)∈q21 l→-1000000≤k∧k≤1000000:=by
  intro k t b;obtain ⟨s,hs,c,rfl,rfl⟩:=qjw.1 b;exact ⟨(h s hs).a.2.2.1,(h s hs).a.2.2.2⟩
theorem qht {l : List Qb} (h : ∀ s∈l,SegV s) : ∀ k t,(k,t)∈q1i l→-1000000≤k∧k≤1000000:=by
  intro k t b;obtain ⟨s,hs,c,rfl,rfl⟩:=qjt.1 b;exact ⟨(h s hs).a.1,(h s hs).a.2.1⟩
theorem qe6 {l : List Qb} (h : ∀ s∈l,SegV s) : ∀ k t,(k,t)∈q1i l→vld t:=by
  intro k t a;obtain ⟨s,hs,j,_,rfl⟩:=qjt.1 a;obtain ⟨⟨f,g,m,b⟩,⟨b1,b2,d,c⟩,o⟩:=h s hs;unfold vld;simp only;omega
theorem qe5 {l : List Qb} (d : l.length≤400) (a : ∀ s∈l,SegV s) : ∃ r,q6z l = some r∧Rep r.rows_ (onL (q21 l))∧Rep r.columns_ (onL (q1i l)):=by
  obtain ⟨r,e,c,b⟩:=qhs l (r:={rows_:=[],columns_:=[]}) .nil .nil (by simp;omega) (by simp;omega);simp only [List.nil_append] at c b;have f:=qxf l;have g:=qp0 l;refine ⟨{rows_:=_,columns_:=_},?_,qlq c (by show (q21 l).length≤400;omega) (qg4 a) (qlw a),qlq b (by show (q1i l).length≤400;omega) (qe6 a) (qht a)⟩;unfold q6z;rw [Q6 (show l.length≤1000000 by omega),Q4,e,qo,qe3 (L:=q21 l) q8 (qg4 a) c.val,qo,qe3 (L:=q1i l) q8 (qe6 a) b.val];rfl
end Go.Sh
