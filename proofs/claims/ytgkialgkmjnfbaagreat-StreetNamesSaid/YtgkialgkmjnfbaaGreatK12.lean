/- Pg4 Pg5 Pg6 Pj1 Pj2 Pl4 Pj3 St1 St2 St3 St4 -/
import Derived.Test.YtgkialgkmjnfbaaGreatK11
namespace Go.Sh
open Go Go.Am
section
variable {T : Type} [Inhabited T] {P : T→Prop} {lt : T→T→Bool} {q : T→T→Option Int}
theorem qgp {f : Int→Option (Int ⊕ Int)} (p : T→Bool) (d : Array T) (j : Nat)
    (b : ∀ k : Nat,k≤1000002→f (k : Int) = if (decide (k≤j) && p d[k]!) = true then some (.inl ((k + 1 : Nat) : Int)) else some (.inr (k : Int))) (g : j≤1000000) :
    ∀ (m i : Nat),j + 1 - i = m→i≤1000002→loop f (i : Int) = some ((Sort.scanUp p d j i : Nat) : Int):=by
  intro m
  induction m with
  | zero=>
    intro i c hi;unfold Sort.scanUp;have a : ¬ (decide (i≤j) && p d[i]!) = true:=by simp;omega
    rw [qw a];exact Kc (by rw [b i hi,qw a])
  | succ m ih=>
    intro i c hi;unfold Sort.scanUp;by_cases a : (decide (i≤j) && p d[i]!) = true
    · rw [qu a,Kf (by rw [b i hi,qu a])];exact ih (i + 1) q8 q8
    · rw [qw a];exact Kc (by rw [b i hi,qw a])
theorem qdd {f : Int→Option (Int ⊕ Int)} (p : T→Bool) (d : Array T) (i n : Nat) (hi : 1≤i)
    (b : ∀ k : Nat,k < n→f (k : Int) = if (decide (i≤k) && p d[k]!) = true then some (.inl ((k - 1 : Nat) : Int)) else some (.inr (k : Int))) :
    ∀ (j : Nat),j < n→loop f (j : Int) = some ((Sort.scanDown p d i j : Nat) : Int)
  | 0,hj=>by
    have a : ¬ (decide (i≤0) && p d[0]!) = true:=by simp;omega
    exact Kc (by rw [b 0 hj,qw a];rfl)
  | j + 1,hj=>by
    unfold Sort.scanDown
    by_cases a : (decide (i≤j + 1) && p d[j + 1]!) = true
    · rw [qu a,Kf (by rw [b (j + 1) hj,qu a])]
      exact qdd p d i n hi b j q8
    · rw [qw a]
      exact Kc (by rw [b (j + 1) hj,qw a])
theorem qm7 (b : Ya q lt P) {n : Nat} {d : Array T} (hd : AllP n P d) {a j : Nat} (c : a < n) (m : j < n) (x : Int) (k : Nat) (hk : k≤1000002) :
    Jg (x,(j : Int),d.toList) (a : Int) q (k : Int) = if (decide (k≤j) && (fun x=>lt x d[a]!) d[k]!) = true then some (.inl ((k + 1 : Nat) : Int)) else some (.inr (k : Int)):=by
  have l:=hd.1;by_cases h : k≤j
  · obtain ⟨r,g,f⟩:=b d[k]! d[a]! (hd.2.2 _ q8) (hd.2.2 _ c);have t : decide ((k : Int)≤(j : Int)) = true:=Q9 q8;simp only [Jg,t,Qb,gx (d:=d) (k:=k) q8,gx (d:=d) (k:=a) q8,qr,g,f,w1p k q8];simp only [Q9 h,Bool.true_and,Bool.cond_eq_ite]
  · have t : decide ((k : Int)≤(j : Int)) = false:=Qa q8;simp only [Jg,t,Q6,qr];simp [h]
theorem qm8 (c : Ya q lt P) {n : Nat} {d : Array T} (hd : AllP n P d) {a i : Nat} (f : a < n) (hi : 1≤i) (x y : Int) (k : Nat) (hk : k < n) :
    Jh (i : Int) (x,y,d.toList) (a : Int) q (k : Int) = if (decide (i≤k) && (fun x=>!lt x d[a]!) d[k]!) = true then some (.inl ((k - 1 : Nat) : Int)) else some (.inr (k : Int)):=by
  have j:=hd.1;have l:=hd.2.1;by_cases h : i≤k
  · obtain ⟨r,g,b⟩:=c d[k]! d[a]! (hd.2.2 _ q8) (hd.2.2 _ f);have t : decide ((i : Int)≤(k : Int)) = true:=Q9 q8;have w : w64 ((k : Int) - 1) = ((k - 1 : Nat) : Int):=by rw [Qh q8];omega
    simp only [Jh,t,Qb,gx (d:=d) (k:=k) q8,gx (d:=d) (k:=a) q8,qr,g,b,w];simp only [Q9 h,Bool.true_and,Bool.cond_eq_ite]
  · have t : decide ((i : Int)≤(k : Int)) = false:=Qa q8;simp only [Jh,t,Q6,qr];simp [h]
theorem qxh (b : Ya q lt P) {n : Nat} {d : Array T} (hd : AllP n P d) {a j : Nat} (c : a < n) (m : j < n) (x : Int) (k : Nat) (hk : k≤1000002) :
    Uz (x,(j : Int),d.toList) (a : Int) q (k : Int) = if (decide (k≤j) && (fun x=>!lt d[a]! x) d[k]!) = true then some (.inl ((k + 1 : Nat) : Int)) else some (.inr (k : Int)):=by
  have l:=hd.1;by_cases h : k≤j
  · obtain ⟨r,g,f⟩:=b d[a]! d[k]! (hd.2.2 _ c) (hd.2.2 _ q8);have t : decide ((k : Int)≤(j : Int)) = true:=Q9 q8;simp only [Uz,t,Qb,gx (d:=d) (k:=k) q8,gx (d:=d) (k:=a) q8,qr,g,f,w1p k q8];simp only [Q9 h,Bool.true_and,Bool.cond_eq_ite]
  · have t : decide ((k : Int)≤(j : Int)) = false:=Qa q8;simp only [Uz,t,Q6,qr];simp [h]
theorem qxi (c : Ya q lt P) {n : Nat} {d : Array T} (hd : AllP n P d) {a i : Nat} (f : a < n) (hi : 1≤i) (x y : Int) (k : Nat) (hk : k < n) :
    q10 (i : Int) (x,y,d.toList) (a : Int) q (k : Int) = if (decide (i≤k) && (fun x=>lt d[a]! x) d[k]!) = true then some (.inl ((k - 1 : Nat) : Int)) else some (.inr (k : Int)):=by
  have j:=hd.1;have l:=hd.2.1;by_cases h : i≤k
  · obtain ⟨r,g,b⟩:=c d[a]! d[k]! (hd.2.2 _ f) (hd.2.2 _ q8);have t : decide ((i : Int)≤(k : Int)) = true:=Q9 q8;have w : w64 ((k : Int) - 1) = ((k - 1 : Nat) : Int):=by rw [Qh q8];omega
    simp only [q10,t,Qb,gx (d:=d) (k:=k) q8,gx (d:=d) (k:=a) q8,qr,g,b,w];simp only [Q9 h,Bool.true_and,Bool.cond_eq_ite]
  · have t : decide ((i : Int)≤(k : Int)) = false:=Qa q8;simp only [q10,t,Q6,qr];simp [h]
theorem qxc (o : Ya q lt P) (a n : Nat) (r : a < n) : ∀ (m i j : Nat) (d : Array T),j + 1 - i = m→AllP n P d→1≤i→i≤n + 1→j < n→
    loop (q1x (a : Int) q) ((i : Int),(j : Int),d.toList) = some (((Sort.partLoop lt a i j d).1 : Int),(Sort.partLoop lt a i j d).2.toList)∧AllP n P (Sort.partLoop lt a i j d).2∧(Sort.partLoop lt a i j d).1 < n:=by
  intro m
  induction m using Nat.strongRecOn with
  | _ m ih=>
    intro i j d hm hd hi v p;have z:=hd.1;have hn:=hd.2.1;rw [Sort.partLoop_eq];have s1:=qgp (f:=Jg ((i : Int),(j : Int),d.toList) (a : Int) q) (fun x=>lt x d[a]!) d j (fun k hk=>qm7 o hd r p _ k hk) q8 _ i rfl q8;have g1:=Sort.scanUp_ge (fun x=>lt x d[a]!) d j i;have y:=(Sort.scanUp_spec (fun x=>lt x d[a]!) d j _ i rfl).2.1;generalize Sort.scanUp (fun x=>lt x d[a]!) d j i = c at s1 g1 y ⊢;have l:=qdd (f:=Jh (c : Int) ((i : Int),(j : Int),d.toList) (a : Int) q) (fun x=>!lt x d[a]!) d c n q8 (fun k hk=>qm8 o hd r q8 _ _ k hk) j p;have u:=Sort.scanDown_le (fun x=>!lt x d[a]!) d c j;generalize Sort.scanDown (fun x=>!lt x d[a]!) d c j = g at l u ⊢;by_cases s : c > g
    · rw [qu s];have t : decide ((c : Int) > (g : Int)) = true:=Q9 q8;refine ⟨Kc ?_,hd,by show g < n;omega⟩;simp only [q1x,s1,l,qr,t,Qb]
    · rw [qw s];have t : decide ((c : Int) > (g : Int)) = false:=Qa q8;have h:=ih ((g - 1) + 1 - (c + 1)) q8 (c + 1) (g - 1) _ rfl (hd.swp (a:=c) (b:=g) q8 q8) q8 q8 q8;refine ⟨?_,h.2⟩;rw [Kf (a':=(((c + 1 : Nat) : Int),((g - 1 : Nat) : Int),(Sort.swp d c g).toList)) ?_]
      · exact h.1
      · have w : w64 ((g : Int) - 1) = ((g - 1 : Nat) : Int):=by rw [Qh q8];omega
        simp only [q1x,s1,l,qr,t,Q6,gx (d:=d) (k:=c) q8,gx (d:=d) (k:=g) q8,gxs (d:=d) (k:=g) q8,Int.toNat_natCast,gswp,w,w1p c q8]
theorem qxb (l : Ya q lt P) (a n : Nat) (p : a < n) : ∀ (m i j : Nat) (d : Array T),j + 1 - i = m→AllP n P d→1≤i→i≤n + 1→j < n→
    loop (q1w (a : Int) q) ((i : Int),(j : Int),d.toList) = some (((Sort.partEqLoop lt a i j d).1 : Int),(Sort.partEqLoop lt a i j d).2.toList):=by
  intro m
  induction m using Nat.strongRecOn with
  | _ m ih=>
    intro i j d hm hd hi u o;have y:=hd.1;have hn:=hd.2.1;rw [Sort.partEqLoop_eq];have s1:=qgp (f:=Uz ((i : Int),(j : Int),d.toList) (a : Int) q) (fun x=>!lt d[a]! x) d j (fun k hk=>qxh l hd p o _ k hk) q8 _ i rfl q8;have z:=Sort.scanUp_ge (fun x=>!lt d[a]! x) d j i;have v:=(Sort.scanUp_spec (fun x=>!lt d[a]! x) d j _ i rfl).2.1;generalize Sort.scanUp (fun x=>!lt d[a]! x) d j i = c at s1 z v ⊢;have h:=qdd (f:=q10 (c : Int) ((i : Int),(j : Int),d.toList) (a : Int) q) (fun x=>lt d[a]! x) d c n q8 (fun k hk=>qxi l hd p q8 _ _ k hk) j o;have s:=Sort.scanDown_le (fun x=>lt d[a]! x) d c j;generalize Sort.scanDown (fun x=>lt d[a]! x) d c j = g at h s ⊢;by_cases r : c > g
    · rw [qu r];have t : decide ((c : Int) > (g : Int)) = true:=Q9 q8;refine Kc ?_;simp only [q1w,s1,h,qr,t,Qb]
    · rw [qw r];have t : decide ((c : Int) > (g : Int)) = false:=Qa q8;rw [Kf (a':=(((c + 1 : Nat) : Int),((g - 1 : Nat) : Int),(Sort.swp d c g).toList)) ?_]
      · exact ih ((g - 1) + 1 - (c + 1)) q8 (c + 1) (g - 1) _ rfl (hd.swp (a:=c) (b:=g) q8 q8) q8 q8 q8
      · have w : w64 ((g : Int) - 1) = ((g - 1 : Nat) : Int):=by rw [Qh q8];omega
        simp only [q1w,s1,h,qr,t,Q6,gx (d:=d) (k:=c) q8,gx (d:=d) (k:=g) q8,gxs (d:=d) (k:=g) q8,Int.toNat_natCast,gswp,w,w1p c q8]
theorem qxe (c : Ya q lt P) {a b n p : Nat} (hb : b≤n) (f : a < b) (hp : p < n) {d : Array T} (hd : AllP n P d) :
    q1v q d.toList (a : Int) (b : Int) (p : Int) = some (((Sort.partitionEqual lt d a b p).1 : Int),(Sort.partitionEqual lt d a b p).2.toList):=by
  have g:=hd.1;have h:=hd.2.1;have w : w64 ((b : Int) - 1) = ((b - 1 : Nat) : Int):=by rw [Qh q8];omega
  have s:=qxb c a n q8 _ (a + 1) (b - 1) _ rfl (hd.swp (a:=a) (b:=p) q8 hp) q8 q8 q8;unfold q1v Sort.partitionEqual;simp only [gx (d:=d) (k:=p) q8,gx (d:=d) (k:=a) q8,gxs (d:=d) (k:=p) q8,qr,Int.toNat_natCast,gswp,w,w1p a q8,s]
theorem qxf (j : Ya q lt P) {a b n p : Nat} (hb : b≤n) (r : a < b) (hp : p < n) {d : Array T} (hd : AllP n P d) :
    q1u q d.toList (a : Int) (b : Int) (p : Int) = some (((Sort.partition lt d a b p).1 : Int),(Sort.partition lt d a b p).2.1,(Sort.partition lt d a b p).2.2.toList):=by
  have z:=hd.1;have hn:=hd.2.1;have w : w64 ((b : Int) - 1) = ((b - 1 : Nat) : Int):=by rw [Qh q8];omega
  have h:=hd.swp (a:=a) (b:=p) q8 hp
  have e1 : q2s (b : Int) d.toList (a : Int) d[p]! (p : Int) d[a]! q = Jg ((0 : Int),((b - 1 : Nat) : Int),(Sort.swp d a p).toList) (a : Int) q:=by
    funext k;simp only [q2s,Jg,w,Int.toNat_natCast,gswp]
  have y : ∀ c : Int,q2t c d.toList (a : Int) d[p]! (p : Int) d[a]! q = Jh c ((0 : Int),(0 : Int),(Sort.swp d a p).toList) (a : Int) q:=by
    intro c;funext k;simp only [q2t,Jh,Int.toNat_natCast,gswp]
  unfold q1u Sort.partition;simp only [gx (d:=d) (k:=p) q8,gx (d:=d) (k:=a) q8,gxs (d:=d) (k:=p) q8,qr,e1,y,Int.toNat_natCast,gswp,w,w1p a q8];generalize Sort.swp d a p = D at h ⊢;have ab:=h.1;have s1:=qgp (f:=Jg ((0 : Int),((b - 1 : Nat) : Int),D.toList) (a : Int) q) (fun x=>lt x D[a]!) D (b - 1) (fun k hk=>qm7 j h q8 q8 _ k hk) q8 _ (a + 1) rfl q8;have g1:=Sort.scanUp_ge (fun x=>lt x D[a]!) D (b - 1) (a + 1);generalize Sort.scanUp (fun x=>lt x D[a]!) D (b - 1) (a + 1) = c at s1 g1 ⊢;have l:=qdd (f:=Jh (c : Int) ((0 : Int),(0 : Int),D.toList) (a : Int) q) (fun x=>!lt x D[a]!) D c n q8 (fun k hk=>qm8 j h q8 q8 _ _ k hk) (b - 1) q8;have u:=Sort.scanDown_le (fun x=>!lt x D[a]!) D c (b - 1);generalize Sort.scanDown (fun x=>!lt x D[a]!) D c (b - 1) = g at l u ⊢;simp only [s1,l,qr];by_cases o : c > g
  · have t : decide ((c : Int) > (g : Int)) = true:=Q9 q8;simp only [qu o,t,Qb,gx (d:=D) (k:=a) q8,gx (d:=D) (k:=g) q8,gxs (d:=D) (k:=a) q8,qr,Int.toNat_natCast,gswp]
  · have t : decide ((c : Int) > (g : Int)) = false:=Qa q8;have w2 : w64 ((g : Int) - 1) = ((g - 1 : Nat) : Int):=by rw [Qh q8];omega
    obtain ⟨s3,m,s⟩:=qxc j a n q8 _ (c + 1) (g - 1) _ rfl (h.swp (a:=c) (b:=g) q8 q8) q8 q8 q8;simp only [qw o,t,Q6,gx (d:=D) (k:=c) q8,gx (d:=D) (k:=g) q8,gxs (d:=D) (k:=g) q8,qr,Int.toNat_natCast,gswp,w2,w1p c q8,s3];generalize Sort.partLoop lt a (c + 1) (g - 1) (Sort.swp D c g) = R at m s ⊢;have v:=m.1;simp only [gx (d:=R.2) (k:=a) q8,gx (d:=R.2) (k:=R.1) q8,gxs (d:=R.2) (k:=a) q8,qr,gswp]
theorem qzp (l : Ya q lt P) {b n : Nat} (hb : b≤n) {d : Array T} (hd : AllP n P d) (x y : Int) : ∀ (m i : Nat),b - i = m→1≤i→i≤b→
    loop (Ux (b : Int) (x,y,d.toList) q) (i : Int) = some ((Sort.scanSorted lt d b i : Nat) : Int)∧i≤Sort.scanSorted lt d b i∧Sort.scanSorted lt d b i≤b:=by
  have o:=hd.1;have p:=hd.2.1;intro m
  induction m with
  | zero=>
    intro i j hi a;unfold Sort.scanSorted;rw [qw (by simp;omega)];have t : decide ((i : Int) < (b : Int)) = false:=Qa q8;exact ⟨Kc (by simp only [Ux,t,Q6,qr]),Nat.le_refl _,a⟩
  | succ m ih=>
    intro i j hi a;unfold Sort.scanSorted;have t : decide ((i : Int) < (b : Int)) = true:=Q9 q8;have w : w64 ((i : Int) - 1) = ((i - 1 : Nat) : Int):=by rw [Qh q8];omega
    obtain ⟨r,h,g⟩:=l d[i]! d[i - 1]! (hd.2.2 _ q8) (hd.2.2 _ q8);by_cases c : lt d[i]! d[i - 1]! = true
    · rw [qw (by simp [c])];refine ⟨Kc ?_,Nat.le_refl _,a⟩;simp only [Ux,t,Qb,w,gx (d:=d) (k:=i) q8,gx (d:=d) (k:=i - 1) q8,qr,h,g,c,Bool.not_true,Q6]
    · have c : lt d[i]! d[i - 1]! = false:=by simpa using c
      rw [qu (by simp [c];omega)];have f:=ih (i + 1) q8 q8 q8;refine ⟨?_,q8,f.2.2⟩;rw [Kf (a':=((i + 1 : Nat) : Int)) ?_]
      · exact f.1
      · simp only [Ux,t,Qb,w,gx (d:=d) (k:=i) q8,gx (d:=d) (k:=i - 1) q8,qr,h,g,c,Bool.not_false,w1p i q8]
theorem qnk (g : Ya q lt P) (n : Nat) : ∀ (j : Nat) (d : Array T),AllP n P d→j < n→loop (Uc q) ((j : Int),d.toList) = some (Sort.shiftDown lt j d).toList∧AllP n P (Sort.shiftDown lt j d)
  | 0,d,hd,hj=>by
    have t : decide (((0 : Nat) : Int) ≥ 1) = false:=Qa q8
    exact ⟨Kc (by simp only [Uc,t,Q6];rfl),hd⟩
  | j + 1,d,hd,hj=>by
    have m:=hd.1
    have o:=hd.2.1
    have t : decide (((j + 1 : Nat) : Int) ≥ 1) = true:=Q9 q8
    obtain ⟨r,l,f⟩:=g d[j + 1]! d[j]! (hd.2.2 _ hj) (hd.2.2 _ q8)
    unfold Sort.shiftDown
    by_cases c : lt d[j + 1]! d[j]! = true
    · rw [qw (by simp [c])]
      have h:=qnk g n j _ (hd.swp (a:=j + 1) (b:=j) hj q8) q8
      refine ⟨?_,h.2⟩
      rw [Kf (a':=((j : Int),(Sort.swp d (j + 1) j).toList)) ?_]
      · exact h.1
      · simp only [Uc,t,Qb,gx (d:=d) (k:=j + 1) q8,w1m j q8,gx (d:=d) (k:=j) q8,gxs (d:=d) (k:=j) q8,qr,l,f,c,Bool.not_true,Q6,Int.toNat_natCast,gswp]
    · have c : lt d[j + 1]! d[j]! = false:=by simpa using c
      rw [qu (by simp [c])]
      refine ⟨Kc ?_,hd⟩
      simp only [Uc,t,Qb,gx (d:=d) (k:=j + 1) q8,w1m j q8,gx (d:=d) (k:=j) q8,qr,l,f,c,Bool.not_false]
theorem qnm (p : Ya q lt P) {b n : Nat} (hb : b≤n) (c : Int) : ∀ (m j : Nat) (d : Array T),b - j = m→AllP n P d→1≤j→loop (Uy (b : Int) q c) ((j : Int),d.toList) = some (c,(Sort.shiftUp lt b j d).toList)∧AllP n P (Sort.shiftUp lt b j d):=by
  intro m
  induction m with
  | zero=>
    intro j d o hd s;unfold Sort.shiftUp;rw [qw q8];have t : decide ((j : Int) < (b : Int)) = false:=Qa q8;exact ⟨Kc (by simp only [Uy,t,Q6]),hd⟩
  | succ m ih=>
    intro j d o hd s;have u:=hd.1;have v:=hd.2.1;unfold Sort.shiftUp;rw [qu q8];have t : decide ((j : Int) < (b : Int)) = true:=Q9 q8;have w : w64 ((j : Int) - 1) = ((j - 1 : Nat) : Int):=by rw [Qh q8];omega
    obtain ⟨r,l,h⟩:=p d[j]! d[j - 1]! (hd.2.2 _ q8) (hd.2.2 _ q8);by_cases f : lt d[j]! d[j - 1]! = true
    · rw [qw (by simp [f])];have g:=ih (j + 1) _ q8 (hd.swp (a:=j) (b:=j - 1) q8 q8) q8;refine ⟨?_,g.2⟩;rw [Kf (a':=(((j + 1 : Nat) : Int),(Sort.swp d j (j - 1)).toList)) ?_]
      · exact g.1
      · simp only [Uy,t,Qb,w,gx (d:=d) (k:=j) q8,gx (d:=d) (k:=j - 1) q8,gxs (d:=d) (k:=j - 1) q8,qr,l,h,f,Bool.not_true,Q6,Int.toNat_natCast,gswp,w1p j q8]
    · have f : lt d[j]! d[j - 1]! = false:=by simpa using f
      rw [qu (by simp [f])];refine ⟨Kc ?_,hd⟩;simp only [Uy,t,Qb,w,gx (d:=d) (k:=j) q8,gx (d:=d) (k:=j - 1) q8,qr,l,h,f,Bool.not_false]
theorem qma (j : Ya q lt P) {a b n : Nat} (hb : b≤n) : ∀ (s i : Nat) (d : Array T),s≤5→AllP n P d→a < i→i≤b→
    ∃ m,loop (Zz (b : Int) q (a : Int)) ((i : Int),((5 - s : Nat) : Int),d.toList) = some m∧(match m with | .inl b441=>some (false,b441) | .inr x1=>some x1) = some ((Sort.partialIns lt a b s i d).2,(Sort.partialIns lt a b s i d).1.toList)
  | 0,i,d,hs,hd,hi,hib=>by
    have t : decide (((5 - 0 : Nat) : Int) < 5) = false:=Qa q8
    refine ⟨.inl d.toList,Kc (by simp only [Zz,t,Q6]),rfl⟩
  | s + 1,i,d,hs,hd,hi,hib=>by
    have ac:=hd.1
    have hn:=hd.2.1
    have t : decide (((5 - (s + 1) : Nat) : Int) < 5) = true:=Q9 q8
    rw [Sort.partialIns_succ]
    obtain ⟨s1,l1,w⟩:=qzp j hb hd (i : Int) ((5 - (s + 1) : Nat) : Int) _ i rfl q8 hib
    generalize Sort.scanSorted lt d b i = k at s1 l1 w ⊢
    by_cases hk : k = b
    · subst hk
      rw [qu rfl]
      refine ⟨.inr (true,d.toList),Kc ?_,rfl⟩
      simp only [Zz,t,Qb,s1,qr,beq_self_eq_true]
    · rw [qw hk]
      have v : ((k : Int) == (b : Int)) = false:=by simp;omega
      have e0 : w64 ((b : Int) - (a : Int)) = ((b - a : Nat) : Int):=wsub q8 q8
      by_cases o : b - a < 50
      · rw [qu o]
        have g : decide (((b - a : Nat) : Int) < 50) = true:=Q9 q8
        refine ⟨.inr (false,d.toList),Kc ?_,rfl⟩
        simp only [Zz,t,Qb,s1,qr,v,Q6,e0,g]
      · rw [qw o]
        have g : decide (((b - a : Nat) : Int) < 50) = false:=Qa q8
        have wk : w64 ((k : Int) - 1) = ((k - 1 : Nat) : Int):=by rw [Qh q8];omega
        have wa : w64 ((k : Int) - (a : Int)) = ((k - a : Nat) : Int):=wsub q8 q8
        have wb : w64 ((b : Int) - (k : Int)) = ((b - k : Nat) : Int):=wsub q8 q8
        have l:=hd.swp (a:=k) (b:=k - 1) q8 q8
        have down : (cond (decide (((k - a : Nat) : Int) ≥ 2)) ((loop (Uc q) (((k - 1 : Nat) : Int),(Sort.swp d k (k - 1)).toList)).bind fun x0=>some x0) (some (Sort.swp d k (k - 1)).toList)) = some (Sort.fixDown lt a k (Sort.swp d k (k - 1))).toList∧AllP n P (Sort.fixDown lt a k (Sort.swp d k (k - 1))):=by
          unfold Sort.fixDown;by_cases h : k - a ≥ 2
          · have f : decide (((k - a : Nat) : Int) ≥ 2) = true:=Q9 q8;obtain ⟨x,y⟩:=qnk j n (k - 1) _ l q8;rw [qu h,f,Qb,x];exact ⟨rfl,y⟩
          · have f : decide (((k - a : Nat) : Int) ≥ 2) = false:=Qa q8;rw [qw h,f,Q6];exact ⟨rfl,l⟩
        obtain ⟨dn,c⟩:=down
        have p : AllP n P (Sort.fixUp lt b k (Sort.fixDown lt a k (Sort.swp d k (k - 1)))):=by
          unfold Sort.fixUp;split
          · exact (qnm j hb 0 _ (k + 1) _ rfl c q8).2
          · exact c
        obtain ⟨m,r,u⟩:=qma (a:=a) j hb s k _ q8 p q8 w
        refine ⟨m,?_,u⟩
        rw [Kf (a':=((k : Int),((5 - s : Nat) : Int),(Sort.fixUp lt b k (Sort.fixDown lt a k (Sort.swp d k (k - 1)))).toList)) ?_]
        · exact r
        · have z : w64 (((5 - (s + 1) : Nat) : Int) + 1) = ((5 - s : Nat) : Int):=by rw [Qh q8];omega
          simp only [Zz,t,Qb,s1,qr,v,Q6,e0,g,wk,gx (d:=d) (k:=k) q8,gx (d:=d) (k:=k - 1) q8,gxs (d:=d) (k:=k - 1) q8,Int.toNat_natCast,gswp,wa,dn,wb,w1p k q8]
          unfold Sort.fixUp
          by_cases h : b - k ≥ 2
          · have f : decide (((b - k : Nat) : Int) ≥ 2) = true:=Q9 q8
            obtain ⟨x,y⟩:=qnm j hb (k : Int) _ (k + 1) _ rfl c q8
            rw [qu h,f,Qb,x]
            simp only [qr,z]
          · have f : decide (((b - k : Nat) : Int) ≥ 2) = false:=Qa q8
            rw [qw h,f,Q6]
            simp only [qr,z]
theorem qxd (f : Ya q lt P) {a b n : Nat} (hb : b≤n) (h : a < b) {d : Array T} (hd : AllP n P d) :
    Ju q d.toList (a : Int) (b : Int) = some ((Sort.partialInsertionSort lt d a b).2,(Sort.partialInsertionSort lt d a b).1.toList):=by
  have j:=hd.2.1;obtain ⟨m,c,g⟩:=qma (a:=a) f hb 5 (a + 1) d q8 hd q8 q8;have c : loop (Zz (b : Int) q (a : Int)) (((a + 1 : Nat) : Int),0,d.toList) = some m:=c;unfold Ju Sort.partialInsertionSort;rw [w1p a q8,c];exact g
end
end Go.Sh
namespace Go.Sh
open Go Go.Am
theorem qku {α β : Type} {f : α→Option (α ⊕ β)} {a : α} (h : f a = none) : loop f a = none:=by
  apply Option.ext;intro b;rw [q8c];constructor
  · rintro ⟨n,c⟩
    cases n with
    | zero=>simp [iter] at c
    | succ n=>simp [iter,h] at c
  · intro h;cases h
section
variable {T : Type} [Inhabited T] {P : T→Prop} {lt : T→T→Bool} {q : T→T→Option Int}
def Srt (lt : T→T→Bool) (a b : Nat) (d : Array T) (o : Option (List T)) : Prop:=∃ d' : Array T,o = some d'.toList∧Sort.PermIn a b d d'∧Sort.SortedIn lt a b d'
theorem qxg (hq : Ya q lt P) (hS : Sort.SWO lt) {n N : Nat} (af : List T→Int→Int→Int→Option (List T))
    (am : ∀ (a b f : Nat) (d : Array T),AllP n P d→a≤b→b≤n→f≤1000→Sort.Below lt a b d→Srt lt a b d (af d.toList (a : Int) (b : Int) (f : Int))∨(N≤b - a∧af d.toList (a : Int) (b : Int) (f : Int) = none)) :
    ∀ (m a b f : Nat) (wb wp : Bool) (d : Array T),b - a = m→AllP n P d→a≤b→b≤n→f≤1000→Sort.Below lt a b d→
      Srt lt a b d (loop (Zo q af) ((a : Int),(b : Int),(f : Int),wb,wp,d.toList))∨(N + 1≤b - a∧loop (Zo q af) ((a : Int),(b : Int),(f : Int),wb,wp,d.toList) = none):=by
  intro m
  induction m using Nat.strongRecOn with
  | _ m ih=>
    intro a b f wb wp d hm hd o hb hl hB;have cz:=hd.1;have hn:=hd.2.1;have e0 : w64 ((b : Int) - (a : Int)) = ((b - a : Nat) : Int):=wsub o q8;by_cases cy : b - a≤12
    ·
      have t : decide (((b - a : Nat) : Int)≤12) = true:=Q9 q8;obtain ⟨x,y⟩:=Sort.insertionSort_holds (lt:=lt) hS d a b o q8;have s:=qto hq hb o hd;refine .inl ⟨_,Kc ?_,x,y⟩;simp only [Zo,e0,t,Qb,s,qr,q12 hd (hd.perm o hb x)]
    have bm : decide (((b - a : Nat) : Int)≤12) = false:=Qa q8;by_cases h0 : f = 0
    ·
      have t : ((f : Int) == 0) = true:=by simp [h0]
      obtain ⟨x,y⟩:=Sort.heapSort_holds (lt:=lt) hS d a b o q8;have s:=qti hq hb (by omega : a < b) hd;refine .inl ⟨_,Kc ?_,x,y⟩;simp only [Zo,e0,bm,Q6,t,Qb,s,qr,q12 hd (hd.perm o hb x)]
    have t0 : ((f : Int) == 0) = false:=by simp [h0]
    have hA : ∃ (l1 : Nat) (d1 : Array T),(cond (!wb) ((q1q q d.toList (a : Int) (b : Int)).bind fun ba=>(K1 ba.length d.toList.length).bind fun cr=>some (w64 ((f : Int) - 1),ba)) (some ((f : Int),d.toList))) = some ((l1 : Int),d1.toList)∧l1≤1000∧AllP n P d1∧Sort.PermIn a b d d1:=by
      cases wb with
      | true=>exact ⟨f,d,rfl,hl,hd,Sort.permIn_refl _ _ _⟩
      | false=>
        have x:=Sort.breakPatterns_holds d a b o q8;have z:=hd.perm o hb x;have w : w64 ((f : Int) - 1) = ((f - 1 : Nat) : Int):=by rw [Qh q8];omega
        refine ⟨f - 1,_,?_,q8,z,x⟩;simp only [Bool.not_false,Qb,qp4 (q:=q) hb (by omega : a < b) hd,qr,q12 hd z,w]
    obtain ⟨l1,d1,eA,an,z,p1⟩:=hA;have hC:=qq6 hq z (by omega : a < b) hb;obtain ⟨c1,c2⟩:=Sort.choosePivot_holds lt d1 a b q8;generalize (Sort.choosePivot lt d1 a b).1 = c at hC c1 c2;generalize qfe (Sort.choosePivot lt d1 a b).2 = h at hC
    have hR : ∃ (p : Nat) (h2 : Int) (d2 : Array T),(cond (h == 2) ((q1y q d1.toList (a : Int) (b : Int)).bind fun bd=>(K1 bd.length d1.toList.length).bind fun co=>some (w64 ((w64 ((b : Int) - 1)) - (w64 ((c : Int) - (a : Int)))),(1 : Int),bd)) (some ((c : Int),h,d1.toList))) = some ((p : Int),h2,d2.toList)∧a≤p∧p < b∧AllP n P d2∧Sort.PermIn a b d1 d2:=by
      cases hh : (h == 2) with
      | false=>exact ⟨c,h,d1,rfl,c1,c2,z,Sort.permIn_refl _ _ _⟩
      | true=>
        have x:=Sort.reverseRange_holds d1 a b o (by rw [z.1];exact hb);have ac:=z.perm o hb x;have w1 : w64 ((b : Int) - 1) = ((b - 1 : Nat) : Int):=by rw [Qh q8];omega
        have w2 : w64 ((c : Int) - (a : Int)) = ((c - a : Nat) : Int):=wsub c1 q8;have w3 : w64 (((b - 1 : Nat) : Int) - ((c - a : Nat) : Int)) = ((b - 1 - (c - a) : Nat) : Int):=wsub q8 q8;refine ⟨b - 1 - (c - a),1,_,?_,q8,q8,ac,x⟩;simp only [Qb,qza (q:=q) hb (by omega : a < b) z,qr,q12 z ac,w1,w2,w3]
    obtain ⟨p,h2,d2,eR,hp1,hp2,ac,p2⟩:=hR;have bv : Sort.Below lt a b d2:=(hB.perm q8 p1).perm (by rw [z.1];exact hb) p2;have bp:=Sort.permIn_trans _ _ _ a b p1 p2
    have hP : ∀ cc : Bool,∃ ab : (List T) ⊕ (List T),(cond cc ((Ju q d2.toList (a : Int) (b : Int)).bind fun ag=>(K1 ag.2.length d2.toList.length).bind fun cx=>cond ag.1 (some (.inr ag.2)) (some (.inl ag.2))) (some (.inl d2.toList)) : Option ((List T) ⊕ (List T))) = some ab∧
        ((∃ l : Array T,ab = .inr l.toList∧Sort.PermIn a b d2 l∧Sort.SortedIn lt a b l)∨(∃ l : Array T,ab = .inl l.toList∧AllP n P l∧Sort.PermIn a b d2 l)):=by
      intro cc
      cases cc with
      | false=>exact ⟨_,rfl,.inr ⟨d2,rfl,ac,Sort.permIn_refl _ _ _⟩⟩
      | true=>
        obtain ⟨x,y⟩:=Sort.partialInsertionSort_holds (lt:=lt) hS d2 a b q8 (by rw [ac.1];exact hb) bv;have u:=ac.perm o hb x;have s:=qxd hq hb (by omega : a < b) ac;simp only [Qb,s,qr,q12 ac u]
        cases hz : (Sort.partialInsertionSort lt d2 a b).2 with
        | true=>exact ⟨_,rfl,.inl ⟨_,rfl,x,y hz⟩⟩
        | false=>exact ⟨_,rfl,.inr ⟨_,rfl,u,x⟩⟩
    obtain ⟨ab,eP,br⟩:=hP (wb && wp && (h2 == 1))
    have cl : ∀ {γ : Type} (X : Bool→Option γ),((cond wb (some wp) (some false)).bind fun bt=>(cond bt (some (h2 == 1)) (some false)).bind X) = X (wb && wp && (h2 == 1)):=by
      intro γ X;cases wb <;> cases wp <;> rfl
    have head : Zo q af ((a : Int),(b : Int),(f : Int),wb,wp,d.toList) = (match (generalizing:=false) ab with | .inl b377=>(cond (decide ((a : Int) > 0)) ((idx b377 (w64 ((a : Int) - 1))).bind fun av=>(idx b377 (p : Int)).bind fun ao=>(q av ao).bind fun ar=>some (!(decide (ar < 0)))) (some false)).bind fun bq=>cond bq ((q1v q b377 (a : Int) (b : Int) (p : Int)).bind fun al=>(K1 al.2.length b377.length).bind fun cw=>some (.inl (al.1,(b : Int),(l1 : Int),wb,wp,al.2))) ((q1u q b377 (a : Int) (b : Int) (p : Int)).bind fun g=>(K1 g.2.2.length b377.length).bind fun cn=>cond (decide ((w64 (g.1 - (a : Int))) < (w64 ((b : Int) - g.1)))) ((af g.2.2 (a : Int) g.1 (l1 : Int)).bind fun az=>(K1 az.length g.2.2.length).bind fun cu=>some (.inl (w64 (g.1 + 1),(b : Int),(l1 : Int),decide ((w64 (g.1 - (a : Int))) ≥ (w64 (Int.tdiv ((b - a : Nat) : Int) 8))),g.2.1,az))) ((af g.2.2 (w64 (g.1 + 1)) (b : Int) (l1 : Int)).bind fun bc=>(K1 bc.length g.2.2.length).bind fun ct=>some (.inl ((a : Int),g.1,(l1 : Int),decide ((w64 ((b : Int) - g.1)) ≥ (w64 (Int.tdiv ((b - a : Nat) : Int) 8))),g.2.1,bc)))) | .inr x1=>some (.inr x1)):=by
      simp only [Zo,e0,bm,Q6,t0,eA,qr,hC,eR,cl,eP]
      all_goals (clear eP br hP am ih;cases ab <;> rfl)
    rcases br with ⟨l,rfl,x,y⟩ | ⟨l,rfl,u,p3⟩
    · refine .inl ⟨l,Kc ?_,Sort.permIn_trans _ _ _ a b bp x,y⟩;rw [head]
    have ax:=u.1;have P3:=Sort.permIn_trans _ _ _ a b bp p3;have B3 : Sort.Below lt a b l:=bv.perm (by rw [ac.1];exact hb) p3
    have bh : (cond (decide ((a : Int) > 0)) ((idx l.toList (w64 ((a : Int) - 1))).bind fun av=>(idx l.toList (p : Int)).bind fun ao=>(q av ao).bind fun ar=>some (!(decide (ar < 0)))) (some false)) = some (decide (a > 0) && !lt l[a - 1]! l[p]!):=by
      by_cases ha : a > 0
      · have ta : decide ((a : Int) > 0) = true:=Q9 q8;have w : w64 ((a : Int) - 1) = ((a - 1 : Nat) : Int):=by rw [Qh q8];omega
        obtain ⟨r,h1,h2⟩:=hq l[a - 1]! l[p]! (u.2.2 _ q8) (u.2.2 _ q8);simp only [ta,Qb,w,gx (d:=l) (k:=a - 1) q8,gx (d:=l) (k:=p) q8,qr,h1,h2,Q9 ha,Bool.true_and]
      · have ta : decide ((a : Int) > 0) = false:=Qa q8;simp only [ta,Q6,Qa ha,Bool.false_and]
    simp only [bh,qr] at head;by_cases hc : (decide (a > 0) && !lt l[a - 1]! l[p]!) = true
    ·
      rw [hc] at head;have s:=qxe hq hb (by omega : a < b) (by omega : p < n) u;simp only [Bool.and_eq_true,decide_eq_true_eq,Bool.not_eq_true'] at hc
      cases hx : Sort.partitionEqual lt l a b p with
      | mk j d4=>
        obtain ⟨g1,g2,bz,cj,ad⟩:=Sort.round_eq hS (Sort.partitionEqual_holds lt) hc.1 hp1 hp2 (by rw [ax];exact hb) B3 hc.2 hx
        have cd : ∀ i,a≤i→i < b→lt l[i]! l[p]! = false:=fun i hi bx=>by
          rcases B3 with h0 | hB
          · omega
          · exact hS.ntrans _ _ _ (hB i hi bx) hc.2
        obtain ⟨_,_,v,_,_⟩:=Sort.partitionEqual_holds lt hS l a b p hp1 hp2 (by rw [ax];exact hb) cd;rw [hx] at v s;have aa:=u.perm o hb v;simp only [Qb,s,qr,q12 u aa] at head;rw [Kf head];rcases ih (b - j) q8 j b l1 wb wp d4 rfl aa g2 hb an cj with ⟨R,r0,r1,r2⟩ | ⟨r1,r2⟩
        · obtain ⟨q1,q2⟩:=ad _ r1 r2;exact .inl ⟨R,r0,Sort.permIn_trans _ _ _ a b P3 q1,q2⟩
        · exact .inr ⟨q8,r2⟩
    ·
      have hc : (decide (a > 0) && !lt l[a - 1]! l[p]!) = false:=by simpa using hc
      rw [hc] at head;have s:=qxf hq hb (by omega : a < b) (by omega : p < n) u
      cases hx : Sort.partition lt l a b p with
      | mk j r=>
      cases r with
      | mk ap d4=>
        obtain ⟨g1,g2,bz,bw,cb,bg,ay⟩:=Sort.round_part hS (Sort.partition_holds lt) hp1 hp2 (by rw [ax];exact hb) B3 hx;obtain ⟨_,_,v,_,_⟩:=Sort.partition_holds lt hS l a b p hp1 hp2 (by rw [ax];exact hb);rw [hx] at v s;have aa:=u.perm o hb v;have w1 : w64 ((j : Int) - (a : Int)) = ((j - a : Nat) : Int):=wsub g1 q8;have w2 : w64 ((b : Int) - (j : Int)) = ((b - j : Nat) : Int):=wsub q8 q8;simp only [Q6,s,qr,q12 u aa,w1,w2,w1p j q8] at head;by_cases df : j - a < b - j
        · have tl : decide (((j - a : Nat) : Int) < ((b - j : Nat) : Int)) = true:=Q9 q8;simp only [tl,Qb] at head;rcases am a j l1 d4 aa g1 q8 an bw with ⟨L,e,aq,bj⟩ | ⟨r1,r2⟩
          · have au:=aa.perm g1 q8 aq;obtain ⟨bk,ad⟩:=bg _ aq bj;simp only [e,qr,q12 aa au] at head;rw [Kf head];rcases ih (b - (j + 1)) q8 (j + 1) b l1 _ _ L rfl au q8 hb an bk with ⟨R,r0,r1,r2⟩ | ⟨r1,r2⟩
            · obtain ⟨q1,q2⟩:=ad _ r1 r2;exact .inl ⟨R,r0,Sort.permIn_trans _ _ _ a b P3 q1,q2⟩
            · exact .inr ⟨q8,r2⟩
          · simp only [r2,Option.bind_none] at head;exact .inr ⟨q8,qku head⟩
        · have tl : decide (((j - a : Nat) : Int) < ((b - j : Nat) : Int)) = false:=Qa q8;simp only [tl,Q6] at head;rcases am (j + 1) b l1 d4 aa q8 hb an cb with ⟨L,e,aq,bj⟩ | ⟨r1,r2⟩
          · have au:=aa.perm (by omega : j + 1≤b) hb aq;obtain ⟨bk,ad⟩:=ay _ aq bj;simp only [e,qr,q12 aa au] at head;rw [Kf head];rcases ih (j - a) q8 a j l1 _ _ L rfl au g1 q8 an bk with ⟨R,r0,r1,r2⟩ | ⟨r1,r2⟩
            · obtain ⟨q1,q2⟩:=ad _ r1 r2;exact .inl ⟨R,r0,Sort.permIn_trans _ _ _ a b P3 q1,q2⟩
            · exact .inr ⟨q8,r2⟩
          · simp only [r2,Option.bind_none] at head;exact .inr ⟨q8,qku head⟩
theorem qmb (f : Ya q lt P) (g : Sort.SWO lt) {n : Nat} : ∀ (N a b c : Nat) (d : Array T),AllP n P d→a≤b→b≤n→c≤1000→Sort.Below lt a b d→
    Srt lt a b d (Zj N q d.toList (a : Int) (b : Int) (c : Int))∨(N≤b - a∧Zj N q d.toList (a : Int) (b : Int) (c : Int) = none)
  | 0,a,b,c,d,_,_,_,_,_=>.inr ⟨q8,rfl⟩
  | N + 1,a,b,c,d,hd,hab,hb,hl,hB=>by
    have h:=qxg f g (N:=N) (Zj N q) (fun a b c d m j k l o=>qmb f g N a b c d m j k l o) _ a b c true true d rfl hd hab hb hl hB
    have e : Zj (N + 1) q d.toList (a : Int) (b : Int) (c : Int) = loop (Zo q (Zj N q)) ((a : Int),(b : Int),(c : Int),true,true,d.toList):=by
      show Ud (Zj N q) q d.toList (a : Int) (b : Int) (c : Int) = _;unfold Ud;cases loop (Zo q (Zj N q)) ((a : Int),(b : Int),(c : Int),true,true,d.toList) <;> rfl
    rw [e]
    exact h
theorem qh1 (t : Ya q lt P) (w : Sort.SWO lt) (xs : List T) (n : xs.length≤1000000) (v : ∀ x∈xs,P x) :
    ∃ ys,q2n q xs = some ys∧ys.Perm xs∧ys.Pairwise (fun x y=>lt y x = false):=by
  have hd : AllP xs.length P xs.toArray:=by
    refine ⟨qd,n,fun i hi=>?_⟩;have : xs.toArray[i]! = xs[i]:=by simp [hi]
    rw [this];exact v _ (Yi hi)
  have hk : Sort.bitsLen xs.length≤20:=(Sort.bitsLen_le_iff _ 20).2 q8;have c : ∀ N,_:=fun N=>qmb t w N 0 xs.length (Sort.bitsLen xs.length) xs.toArray hd q8 q8 q8 (.inl rfl);have z:=c (xs.length + 1);rcases z with ⟨d',e,_,_⟩ | ⟨h,_⟩
  · obtain ⟨r,o⟩:=qu8 (f:=fun N=>Zj N q xs 0 (xs.length : Int) ((Sort.bitsLen xs.length : Nat) : Int)) e;obtain ⟨N,g⟩:=qcp o;have g : Zj N q xs 0 (xs.length : Int) ((Sort.bitsLen xs.length : Nat) : Int) = some r:=g;rcases c N with ⟨a,b,x,y⟩ | ⟨_,b⟩
    · have b : Zj N q xs 0 (xs.length : Int) ((Sort.bitsLen xs.length : Nat) : Int) = some a.toList:=b;rw [g] at b;obtain rfl : r = a.toList:=Zl b;have d : a.size = xs.length:=by rw [x.1];simp
      refine ⟨a.toList,?_,?_,?_⟩
      · unfold q2n;rw [q3c,show ((xs.length : Int) % 18446744073709551616) = (xs.length : Int) by omega,qkq _ n];simp only [qr,o];unfold K1;rw [qu (by simp [d])];rfl
      · have:=x.2.2;have s : a.extract 0 xs.length = a:=by rw [← d];simp
        have p : xs.toArray.extract 0 xs.length = xs.toArray:=by simp
        rw [s,p] at this;exact this
      · rw [List.pairwise_iff_getElem];intro i j hi u k;have l : i < a.size:=by simpa using hi
        have m : j < a.size:=by simpa using u
        have:=y i j q8 k q8;rw [getElem!_pos a i l,getElem!_pos a j m] at this;simpa using this
    · have b : Zj N q xs 0 (xs.length : Int) ((Sort.bitsLen xs.length : Nat) : Int) = none:=b;rw [g] at b;cases b
  · omega
end
end Go.Sh
namespace Go.Sh
open Go Go.Am
theorem q10q : qbh = q4h:=rfl
theorem qzr : q2y = q3l:=by
  funext p0;simp only [q2y,q3l,q10q]
  all_goals exact Qm
theorem qnd : Uh = q1p:=by
  funext p0;simp only [Uh,q1p,qzr]
  all_goals exact Qm
theorem q101 : q9w = Ua:=by
  funext p1 q1 a459;simp only [q9w,Ua]
  all_goals exact Qm
theorem q100 : q9v = q1t:=by
  funext p2 p1 q1 a278;simp only [q9v,q1t,q101]
  all_goals exact Qm
theorem qzz : q9u = q2q:=by
  funext q1 p0 p1 p2;simp only [q9u,q2q,q100]
  all_goals exact Qm
theorem q10p : qb8 = Ue:=by
  funext p2 p3 q1 a197;simp only [qb8,Ue]
  all_goals exact Qm
theorem qnf : q76 = q11:=by
  funext q1 p0 p1 p2 p3;simp only [q76,q11,q10p]
  all_goals exact Qm
theorem qzx : q9m = q1r:=by
  funext q1 p2 p1 a123;simp only [q9m,q1r,qnf]
  all_goals exact Qm
theorem qzy : q9n = q1s:=by
  funext p1 q1 a191;simp only [q9n,q1s,qnf]
  all_goals exact Qm
theorem qzw : q9l = q2p:=by
  funext q1 p0 p1 p2;simp only [q9l,q2p,qzx,qzy]
  all_goals exact Qm
theorem q103 : q1a = q2r:=by
  funext p0;simp only [q1a,q2r,qnd]
  all_goals exact Qm
theorem q10r : q1b = q2u:=by
  funext p0;simp only [q1b,q2u]
  all_goals exact Qm
theorem qzu : q9b = Uu:=by
  funext p1 p2 r101 a153;simp only [q9b,Uu,q10r]
  all_goals exact Qm
theorem qzt : q9a = q1q:=by
  funext q1 p0 p1 p2;simp only [q9a,q1q,q103,qzu]
  all_goals exact Qm
theorem q104 : q4u = Uw:=by
  funext q1 p0 p1 p2 p3;simp only [q4u,Uw]
  all_goals exact Qm
theorem qne : q6o = Uv:=by
  funext q1 p0 p1 p2 p3 p4;simp only [q6o,Uv,q104]
  all_goals exact Qm
theorem q102 : q4r = Ub:=by
  funext q1 p0 p1 p2;simp only [q4r,Ub,qne]
  all_goals exact Qm
theorem qzv : q9e = q2o:=by
  funext p0 p1 p2 p3;simp only [q9e,q2o,qne,q102]
  all_goals exact Qm
theorem q10o : qb5 = q1z:=by
  funext a119;simp only [qb5,q1z]
  all_goals exact Qm
theorem q10n : qb4 = q1y:=by
  funext q1 p0 p1 p2;simp only [qb4,q1y,q10o]
  all_goals exact Qm
theorem q107 : qa3 = Ux:=by
  funext p2 a438 q1 a681;simp only [qa3,Ux]
  all_goals exact Qm
theorem q108 : qa4 = Uc:=by
  funext q1 a838;simp only [qa4,Uc]
  all_goals exact Qm
theorem q109 : qa5 = Uy:=by
  funext p2 q1 b684 a928;simp only [qa5,Uy]
  all_goals exact Qm
theorem q106 : q6u = Zz:=by
  funext p2 q1 p1 a438;have a : @q6u.match_1.{1} = @Zz.match_1.{1} qn:=by funext motive m f g;cases m <;> rfl
  unfold q6u Zz;rw [a];simp only [q107,q108,q109]
theorem q105 : q6t = Ju:=by
  funext q1 p0 p1 p2;have a : @q6t.match_1.{1} = @Ju.match_1.{1} qn:=by funext motive m f g;cases m <;> rfl
  unfold q6t Ju;rw [a];simp only [q106]
theorem q10d : qay = Uz:=by
  funext a318 p1 q1 a378;simp only [qay,Uz]
  all_goals exact Qm
theorem q10e : qaz = q10:=by
  funext b381 a318 p1 q1 a463;simp only [qaz,q10]
  all_goals exact Qm
theorem q10c : qax = q1w:=by
  funext p1 q1 a318;simp only [qax,q1w,q10d,q10e]
  all_goals exact Qm
theorem q10b : qaw = q1v:=by
  funext q1 p0 p1 p2 p3;simp only [qaw,q1v,q10c]
  all_goals exact Qm
theorem q10f : qaj = q2s:=by
  funext p2 p0 p1 v101 p3 v103 q1 a163;simp only [qaj,q2s]
  all_goals exact Qm
theorem q10g : qak = q2t:=by
  funext b166 p0 p1 v101 p3 v103 q1 a249;simp only [qak,q2t]
  all_goals exact Qm
theorem q10i : qam = Jg:=by
  funext a514 p1 q1 a572;simp only [qam,Jg]
  all_goals exact Qm
theorem q10j : qan = Jh:=by
  funext b575 a514 p1 q1 a658;simp only [qan,Jh]
  all_goals exact Qm
theorem q10h : qal = q1x:=by
  funext p1 q1 a514;simp only [qal,q1x,q10i,q10j]
  all_goals exact Qm
theorem q10a : qai = q1u:=by
  funext q1 p0 p1 p2 p3;simp only [qai,q1u,q10f,q10g,q10h]
  all_goals exact Qm
theorem q10l : q72 = Zo:=by
  funext q1 rec a309;have a : @q72.match_1.{1} = @Zo.match_1.{1} qn:=by funext motive m f g;cases m <;> rfl
  unfold q72 Zo;rw [a];simp only [qzz,qzw,qzt,qzv,q10n,q105,q10b,q10a]
theorem q10m : q73 = Ud:=by
  funext rec q1 p0 p1 p2 p3;simp only [q73,Ud,q10l]
  all_goals exact Qm
theorem q10k : ∀ N q,q71 N q = Zj N q:=by
  intro N q
  induction N with
  | zero=>rfl
  | succ N ih=>
    funext a b c d;show q73 (q71 N q) q a b c d = Ud (Zj N q) q a b c d;rw [ih,q10m]
theorem qzs : q6l = q2n:=by
  funext q1 p0;simp only [q6l,q2n,qnd,q10k]
  all_goals exact Qm
end Go.Sh
namespace Go.Sh
open Go Go.Am
instance : Inhabited qn:=⟨⟨0,0,0⟩⟩
theorem q127 (q : qn→qn→Option Int) (xs : List qn) : q6l q xs = q2n q xs:=by rw [qzs]
def evs (s : List ql) (l : Int) : List qn:=s.flatMap fun t=>[{at_:=t.Lo,list_:=l,by_:=1},{at_:=t.Hi,list_:=l,by_:=-1}]
theorem q7y (s : List ql) (l : Int) : (evs s l).length = 2 * s.length:=by
  induction s with
  | nil=>rfl
  | cons t s ih=>simp only [evs,List.flatMap_cons,List.length_append,List.length_cons,List.length_nil] at ih ⊢;omega
theorem qcu {s : List ql} {l : Int} {e : qn} (h : e∈evs s l) : e.list_ = l∧(e.by_ = 1∨e.by_ = -1)∧∃ t∈s,e.at_ = t.Lo∨e.at_ = t.Hi:=by
  simp only [evs,List.mem_flatMap] at h;obtain ⟨t,a,h⟩:=h;simp only [List.mem_cons,List.not_mem_nil,or_false] at h;rcases h with rfl | rfl
  · exact ⟨rfl,.inl rfl,t,a,.inl rfl⟩
  · exact ⟨rfl,.inr rfl,t,a,.inr rfl⟩
theorem qjb (s : List ql) (l : Int) (y : List qn) (hs : s.length≤1000) (base : List qn) (hb : base.length≤10000) :
    loop (q4w s (l,y)) (0,base) = some (base ++ evs s l):=by
  have:=Yx (f:=q4w s (l,y)) (σ:=List qn) (fun k c=>((k : Int),c)) s.length (fun k c=>c = base ++ evs (s.take k) l) (fun t=>t = base ++ evs s l) ?_ ?_ (k0:=0) (c0:=base) q8 (by simp [evs])
  · obtain ⟨b,g,rfl⟩:=this;exact g
  · rintro k c hk rfl;have a : decide ((k : Int) < (s.length : Int)) = true:=Q9 q8;refine .inl ⟨base ++ evs (s.take (k + 1)) l,?_,rfl⟩;have d : (evs (s.take k) l).length≤2000:=by rw [q7y,List.length_take];omega
    simp only [q4w,a,Qb,Ko hk,qr];rw [Jc (by rw [List.length_append];simp only [List.length_cons,List.length_nil];omega),qr,Qh q8,List.take_succ_eq_append_getElem hk,List.append_assoc];have : evs (s.take k ++ [s[k]]) l = evs (s.take k) l ++ [{at_:=s[k].Lo,list_:=l,by_:=1},{at_:=s[k].Hi,list_:=l,by_:=-1}]:=by simp only [evs,List.flatMap_append,List.flatMap_cons,List.flatMap_nil,List.append_nil]
    rw [this];rfl
  · rintro c rfl;have a : decide ((s.length : Int) < (s.length : Int)) = false:=Qa q8;exact ⟨_,by simp only [q4w,a,Q6];rfl,by rw [List.take_length]⟩
def ltE (a b : qn) : Bool:=decide (a.at_ < b.at_)
def inE (e : qn) : Prop:=-1000000≤e.at_∧e.at_≤1000000
theorem swoE : Sort.SWO ltE where
  irrefl:=by intro x;simp [ltE]
  trans:=by intro x y z;simp only [ltE,decide_eq_true_eq];omega
  ntrans:=by intro x y z;simp only [ltE,decide_eq_false_iff_not];omega
theorem cmpE : Ya (fun a b=>qbb a b) ltE inE:=by
  rintro x y ⟨c,f⟩ ⟨d,g⟩;refine ⟨x.at_ - y.at_,?_,?_⟩
  · show some (w64 (x.at_ - y.at_)) = _;rw [Qh q8]
  · unfold ltE;exact decide_eq_decide.2 q8
theorem q126 (p q : List ql) (hp : p.length≤500) (u : q.length≤500) (s : ∀ t∈p,vld t) (k : ∀ t∈q,vld t) :
    ∃ ys,qbc [p,q] = some ([p,q],ys)∧ys.Perm (evs p 0 ++ evs q 1)∧ys.Pairwise (fun x y=>x.at_≤y.at_):=by
  have n : ∀ x∈evs p 0 ++ evs q 1,inE x:=by
    intro x m;rcases List.mem_append.1 m with h | h
    · obtain ⟨_,_,t,g,h⟩:=qcu h;obtain ⟨a,b,c⟩:=s t g;unfold inE;rcases h with h | h <;> omega
    · obtain ⟨_,_,t,g,h⟩:=qcu h;obtain ⟨a,b,c⟩:=k t g;unfold inE;rcases h with h | h <;> omega
  have v:=q7y p 0;have w:=q7y q 1;obtain ⟨ys,r,j,l⟩:=qh1 cmpE swoE (evs p 0 ++ evs q 1) (by rw [List.length_append];omega) n;refine ⟨ys,?_,j,l.imp (fun {x y} h=>by simp only [ltE,decide_eq_false_iff_not] at h;omega)⟩
  have d : loop (q28 [p,q]) (0,[]) = some (evs p 0 ++ evs q 1):=by
    have s0 : q28 [p,q] (0,[]) = some (.inl (1,evs p 0)):=by
      have t : decide ((0 : Int) < (([p,q] : List (List ql)).length : Int)) = true:=rfl;simp only [q28,t,Qb];have : idx [p,q] 0 = some p:=rfl;rw [this];simp only [qr,qjb p 0 [] q8 [] qd,List.nil_append];rfl
    have s1 : q28 [p,q] (1,evs p 0) = some (.inl (2,evs p 0 ++ evs q 1)):=by
      have t : decide ((1 : Int) < (([p,q] : List (List ql)).length : Int)) = true:=rfl;simp only [q28,t,Qb];have : idx [p,q] 1 = some q:=rfl;rw [this];simp only [qr,qjb q 1 (evs p 0) q8 (evs p 0) q8];rfl
    have o : q28 [p,q] (2,evs p 0 ++ evs q 1) = some (.inr (evs p 0 ++ evs q 1)):=by
      have t : decide ((2 : Int) < (([p,q] : List (List ql)).length : Int)) = false:=rfl;simp only [q28,t,Q6]
    rw [Kf s0,Kf s1,Kc o]
  unfold qbc;rw [d];simp only [qr,q127,r];have le : K1 ys.length (evs p 0 ++ evs q 1).length = some ():=by unfold K1;rw [qu j.length_eq]
  have f : K1 ys.length ys.length = some ():=by unfold K1;rw [qu rfl]
  simp only [le,qr,qdg,f]
def cnt (l : Int) (c : Int→Bool) : List qn→Int
  | []=>0
  | e::es=>(if e.list_ = l∧c e.at_ = true then e.by_ else 0) + cnt l c es
theorem q3f (l : Int) (c : Int→Bool) (a b : List qn) : cnt l c (a ++ b) = cnt l c a + cnt l c b:=by
  induction a with
  | nil=>simp [cnt]
  | cons e a ih=>simp only [List.cons_append,cnt,ih];omega
theorem qil {l : Int} {c : Int→Bool} {a b : List qn} (h : a.Perm b) : cnt l c a = cnt l c b:=by
  induction h with
  | nil=>rfl
  | cons x _ ih=>simp only [cnt,ih]
  | swap x y l=>simp only [cnt];omega
  | trans _ _ ih1 ih2=>rw [ih1,ih2]
theorem qii {l : Int} {c b : Int→Bool} : ∀ {a : List qn},(∀ e∈a,c e.at_ = b e.at_)→cnt l c a = cnt l b a
  | [],_=>rfl
  | e::a,h=>by simp only [cnt,h e qd,qii (fun e d=>h e (List.mem_cons_of_mem _ d))]
theorem qik {l : Int} {c : Int→Bool} : ∀ {a : List qn},(∀ e∈a,c e.at_ = false)→cnt l c a = 0
  | [],_=>rfl
  | e::a,h=>by
    simp only [cnt,qik (fun e b=>h e (List.mem_cons_of_mem _ b)),h e qd]
    simp
theorem q7n {s : List ql} {l l' : Int} {c : Int→Bool} (h : l≠l') : cnt l c (evs s l') = 0:=by
  induction s with
  | nil=>rfl
  | cons t s ih=>
    have : evs (t::s) l' = [{at_:=t.Lo,list_:=l',by_:=1},{at_:=t.Hi,list_:=l',by_:=-1}] ++ evs s l':=rfl;rw [this,q3f,ih];have a : ¬ l' = l:=fun e=>h e.symm;simp [cnt,a]
theorem qij {s : List ql} {l : Int} (v : ∀ t∈s,vld t) (x : Int) : 0≤cnt l (fun a=>decide (a≤x)) (evs s l)∧(0 < cnt l (fun a=>decide (a≤x)) (evs s l)↔has s x):=by
  induction s with
  | nil=>exact ⟨Int.le_refl 0,by simp [evs,cnt,has]⟩
  | cons t s ih=>
    obtain ⟨f,c⟩:=ih (fun t d=>v t (List.mem_cons_of_mem _ d));have b:=v t qd;have : evs (t::s) l = [{at_:=t.Lo,list_:=l,by_:=1},{at_:=t.Hi,list_:=l,by_:=-1}] ++ evs s l:=rfl;rw [this,q3f,Ji,← c];obtain ⟨j,h,g⟩:=b;simp only [cnt,true_and,decide_eq_true_eq];split <;> split <;> omega
theorem qim {s : List ql} {l : Int} : cnt l (fun _=>true) (evs s l) = 0:=by
  induction s with
  | nil=>rfl
  | cons t s ih=>
    have : evs (t::s) l = [{at_:=t.Lo,list_:=l,by_:=1},{at_:=t.Hi,list_:=l,by_:=-1}] ++ evs s l:=rfl;rw [this,q3f,ih];simp [cnt]
theorem qej {l : Int} {c : Int→Bool} : ∀ {a : List qn},(∀ e∈a,e.by_ = 1∨e.by_ = -1)→-(a.length : Int)≤cnt l c a∧cnt l c a≤(a.length : Int)
  | [],_=>by simp [cnt]
  | e::a,h=>by
    obtain ⟨d,f⟩:=qej (l:=l) (c:=c) (fun e b=>h e (List.mem_cons_of_mem _ b))
    have:=h e qd
    simp only [cnt,List.length_cons]
    split <;> omega
end Go.Sh
namespace Go.Sh
open Go Go.Am
theorem qqd (at_ last : Int) (inn : Bool) (out : List ql) (h : out.length≤10000) :
    qbd at_ inn last out = some (if inn = true∧last≠at_ then addS out last at_ else out):=by
  unfold qbd
  cases inn with
  | false=>rfl
  | true=>
    by_cases a : last = at_
    · simp [a]
    · have hb : (last == at_) = false:=by simpa using a
      simp only [Bool.not_true,Q6,qr,hb];rw [qu ⟨trivial,a⟩];rcases qdh out with rfl | ⟨d,t,rfl⟩
      · rfl
      · have k : (d ++ [t]).length = d.length + 1:=by simp
        have g : decide (((d ++ [t]).length : Int) > 0) = true:=Q9 q8;have f : w64 (((d ++ [t]).length : Int) - 1) = (d.length : Int):=by rw [Qh q8];omega
        have j : idx (d ++ [t]) (d.length : Int) = some t:=by
          rw [Ko q8];simp
        simp only [g,Qb,f,j,qr];by_cases b : t.Hi = last
        · subst b;simp only [beq_self_eq_true,Qb,qbw,Int.toNat_natCast,qnj]
        · have c : (t.Hi == last) = false:=by simpa using b
          simp only [c,Q6,qbx b];rw [Jc (by simp;omega)];rfl
open Classical in
structure qoo (f : Bool→Bool→Bool) (p q : List ql) (ys : List qn) (k : Nat) (c : List Int × Int × Bool × List ql) : Prop where
  opn : c.1 = [cnt 0 (fun _=>true) (ys.take k),cnt 1 (fun _=>true) (ys.take k)]
  inn : c.2.2.1 = f (decide (0 < cnt 0 (fun _=>true) (ys.take k))) (decide (0 < cnt 1 (fun _=>true) (ys.take k)))
  lst : ∀ (h : k - 1 < ys.length),0 < k→c.2.1 = ys[k - 1].at_
  can : Can c.2.2.2
  his : ∀ t∈c.2.2.2,t.Hi≤c.2.1
  zro : k = 0→c.2.2.2 = []
  pts : ∀ x,has c.2.2.2 x↔0 < k∧x < c.2.1∧f (decide (has p x)) (decide (has q x)) = true
  len : c.2.2.2.length≤k
theorem qop (c : List ql) (a b : Int) : (addS c a b).length≤c.length + 1:=by
  rcases qdh c with rfl | ⟨d,t,rfl⟩
  · simp [qhq]
  · by_cases h : t.Hi = a
    · subst h;rw [qbw];simp
    · rw [qbx h];simp
theorem qih {p q : List ql} {ys : List qn} (hp : ∀ t∈p,vld t) (f : ∀ t∈q,vld t) (b : ys.Perm (evs p 0 ++ evs q 1)) (_ : ys.Pairwise (fun x y=>x.at_≤y.at_)) (k : Nat) (x : Int)
    (g : ∀ i (h : i < ys.length),i < k→ys[i].at_≤x) (d : ∀ i (h : i < ys.length),k≤i→x < ys[i].at_) :
    (0 < cnt 0 (fun _=>true) (ys.take k)↔has p x)∧(0 < cnt 1 (fun _=>true) (ys.take k)↔has q x):=by
  have key : ∀ l,cnt l (fun _=>true) (ys.take k) = cnt l (fun a=>decide (a≤x)) (evs p 0) + cnt l (fun a=>decide (a≤x)) (evs q 1):=by
    intro l;rw [← q3f,← qil b]
    conv=>rhs;rw [← List.take_append_drop k ys]
    rw [q3f]
    have m : cnt l (fun a=>decide (a≤x)) (ys.drop k) = 0:=by
      refine qik fun e c=>?_;obtain ⟨i,hi,rfl⟩:=List.mem_iff_getElem.1 c;rw [List.getElem_drop];rw [List.length_drop] at hi;have:=d (k + i) q8 q8;exact Qa q8
    have n : cnt l (fun a=>decide (a≤x)) (ys.take k) = cnt l (fun _=>true) (ys.take k):=by
      refine qii fun e c=>?_;obtain ⟨i,hi,rfl⟩:=List.mem_iff_getElem.1 c;rw [List.getElem_take];rw [List.length_take] at hi;exact Q9 (g i q8 q8)
    rw [m,n];omega
  rw [key 0,key 1,q7n (l:=0) (l':=1) qq,q7n (l:=1) (l':=0) qq];have e1:=qij (l:=0) hp x;have j:=qij (l:=1) f x;rw [Int.add_zero,Int.zero_add];exact ⟨e1.2,j.2⟩
open Classical in
theorem qtr (f : Bool→Bool→Bool) (hf : f false false = false) (p2 : Bool→Bool→Option Bool) (hp2 : ∀ a b,p2 a b = some (f a b)) (p q : List ql)
    (hp : p.length≤500) (hq : q.length≤500) (vp : ∀ t∈p,vld t) (vq : ∀ t∈q,vld t) :
    ∃ out,q78 p q p2 = some out∧Can out∧∀ x,has out x↔f (decide (has p x)) (decide (has q x)) = true:=by
  obtain ⟨ys,e1,d,hs⟩:=q126 p q hp hq vp vq;have bc : ys.length≤2000:=by rw [d.length_eq,List.length_append,q7y,q7y];omega
  have u : ∀ i j (hi : i < ys.length) (hj : j < ys.length),i≤j→ys[i].at_≤ys[j].at_:=by
    intro i j hi hj bk;rcases Nat.lt_or_ge i j with h | h
    · exact List.pairwise_iff_getElem.1 hs i j hi hj h
    · obtain rfl : i = j:=by omega
      exact Int.le_refl _
  have w : ∀ e∈ys,(e.list_ = 0∨e.list_ = 1)∧(e.by_ = 1∨e.by_ = -1):=by
    intro e he;rcases List.mem_append.1 (d.mem_iff.1 he) with h | h
    · obtain ⟨a,b,_⟩:=qcu h;exact ⟨.inl a,b⟩
    · obtain ⟨a,b,_⟩:=qcu h;exact ⟨.inr a,b⟩
  have:=Yx (f:=q4x ([p,q],ys) p2) (σ:=List Int × Int × Bool × List ql) (fun k c=>((k : Int),c)) ys.length (qoo f p q ys) (fun out=>Can out∧∀ x,has out x↔f (decide (has p x)) (decide (has q x)) = true) ?_ ?_ (k0:=0) (c0:=([0,0],0,false,[])) q8 ?_
  · obtain ⟨out,o,g⟩:=this;refine ⟨out,?_,g⟩;unfold q78;have o : loop (q4x ([p,q],ys) p2) (0,[0,0],0,false,[]) = some out:=o;rw [e1];simp only [qr,o];rfl
  · rintro k ⟨opn,last,inn,out⟩ hk ⟨s1,s2,s3,s4,s5,s6,s7,s8⟩;simp only at s1 s2 s3 s4 s5 s6 s7 s8;have ad : decide ((k : Int) < (ys.length : Int)) = true:=Q9 q8;have bb:=qqd ys[k].at_ last inn out q8;have hm:=w ys[k] (Yi hk);have az : ys.take (k + 1) = ys.take k ++ [ys[k]]:=List.take_succ_eq_append_getElem hk;have ai : ∀ e∈ys.take k,e.by_ = 1∨e.by_ = -1:=fun e he=>(w e (List.mem_of_mem_take he)).2;have b0:=qej (l:=0) (c:=fun _=>true) ai;have b1:=qej (l:=1) (c:=fun _=>true) ai;have ap : (ys.take k).length = k:=by rw [List.length_take];omega
    rw [ap] at b0 b1
    have ac : ∃ v,idxA 2 opn ys[k].list_ = some v∧opn.set ys[k].list_.toNat (w64 (v + ys[k].by_)) = [cnt 0 (fun _=>true) (ys.take (k + 1)),cnt 1 (fun _=>true) (ys.take (k + 1))]:=by
      subst s1;rw [az,q3f,q3f];rcases hm.1 with h | h
      · refine ⟨cnt 0 (fun _=>true) (ys.take k),by rw [h];rfl,?_⟩;rw [h,Qh q8];simp [cnt,h]
      · refine ⟨cnt 1 (fun _=>true) (ys.take k),by rw [h];rfl,?_⟩;rw [h,Qh q8];simp [cnt,h]
    obtain ⟨v,o1,o2⟩:=ac;refine .inl ⟨([cnt 0 (fun _=>true) (ys.take (k + 1)),cnt 1 (fun _=>true) (ys.take (k + 1))],ys[k].at_,f (decide (0 < cnt 0 (fun _=>true) (ys.take (k + 1)))) (decide (0 < cnt 1 (fun _=>true) (ys.take (k + 1)))),if inn = true∧last≠ys[k].at_ then addS out last ys[k].at_ else out),?_,?_⟩
    · have x0 : ∀ a b : Int,idxA 2 [a,b] 0 = some a:=fun a b=>rfl;have x1 : ∀ a b : Int,idxA 2 [a,b] 1 = some b:=fun a b=>rfl;simp only [q4x,ad,Qb,Ko hk,qr,bb,o1,o2,x0,x1,hp2];rw [Qh q8];rfl
    · have ab : ∀ x,(0 < k→last≤x)→∀ i (h : i < ys.length),i < k→ys[i].at_≤x:=by
        intro x n i hi am;have:=s3 q8 q8;have:=u i (k - 1) hi q8 q8;have:=n q8;omega
      have aa : ∀ x,x < ys[k].at_→∀ i (h : i < ys.length),k≤i→x < ys[i].at_:=by
        intro x n i hi am;have:=u k i hk hi am;omega
      have hF : ∀ x,(0 < k→last≤x)→x < ys[k].at_→f (decide (has p x)) (decide (has q x)) = inn:=by
        intro x n ao;obtain ⟨c1,c2⟩:=qih vp vq d hs k x (ab x n) (aa x ao);rw [s2,decide_eq_decide.2 c1,decide_eq_decide.2 c2]
      have m : 0 < k→last≤ys[k].at_:=by
        intro s;rw [s3 q8 s];exact u (k - 1) k q8 hk q8
      have y : k = 0→inn = false:=by
        intro s;subst s;rw [s2];exact hf
      by_cases r : inn = true∧last≠ys[k].at_
      · have ah : 0 < k:=by
          rcases Nat.eq_zero_or_pos k with h | h
          · rw [y h] at r;cases r.1
          · exact h
        have hl:=m ah;have ay : last < ys[k].at_:=by have:=r.2;omega
        obtain ⟨d1,d2,d3,d4⟩:=qhr s4 s5 ay;constructor
        · rfl
        · rfl
        · intro h _;rfl
        · simp only [qu r];exact d1
        · simp only [qu r];exact d3
        · omega
        · intro x;simp only [qu r];rw [d2,s7];constructor
          · rintro (⟨s,o,g⟩ | ⟨o,g⟩)
            · exact ⟨q8,q8,g⟩
            · exact ⟨q8,g,by rw [hF x (fun _=>o) g];exact r.1⟩
          · rintro ⟨s,o,g⟩;by_cases n : x < last
            · exact .inl ⟨ah,n,g⟩
            · exact .inr ⟨q8,o⟩
        · simp only [qu r];have:=qop out last ys[k].at_;omega
      · constructor
        · rfl
        · rfl
        · intro h _;rfl
        · simp only [qw r];exact s4
        · simp only [qw r];intro t z;rcases Nat.eq_zero_or_pos k with h | h
          · rw [s6 h] at z;cases z
          · have:=s5 t z;have:=m h;omega
        · omega
        · intro x;simp only [qw r];rw [s7];constructor
          · rintro ⟨s,o,g⟩;exact ⟨q8,by have:=m s;omega,g⟩
          · rintro ⟨s,o,g⟩;by_cases n : 0 < k∧x < last
            · exact ⟨n.1,n.2,g⟩
            · have aj : 0 < k→last≤x:=fun h=>by
                refine Int.not_lt.1 fun h'=>n ⟨h,h'⟩
              have:=hF x aj o;rw [this] at g;refine absurd ⟨g,?_⟩ r;intro e;rcases Nat.eq_zero_or_pos k with h | h
              · rw [y h] at g;cases g
              · have:=aj h;omega
        · simp only [qw r];omega
  · rintro ⟨opn,last,inn,out⟩ ⟨s1,s2,s3,s4,s5,s6,s7,s8⟩;simp only at s1 s2 s3 s4 s5 s6 s7 s8;have ad : decide ((ys.length : Int) < (ys.length : Int)) = false:=Qa q8;refine ⟨out,by simp only [q4x,ad,Q6],s4,fun x=>?_⟩;rw [s7];constructor
    · rintro ⟨_,_,h⟩;exact h
    · intro h;by_cases n : 0 < ys.length∧x < last
      · exact ⟨n.1,n.2,h⟩
      · obtain ⟨c1, c2⟩ := qih vp vq d hs ys.length x (fun i hi _ => by
            have:=s3 q8 q8;have:=u i (ys.length - 1) hi q8 q8;have : last≤x:=Int.not_lt.1 fun h'=>n ⟨q8,h'⟩
            omega) (fun i hi bh=>q8)
        have av : ∀ l,cnt l (fun _=>true) (ys.take ys.length) = 0:=by
          intro l;rw [List.take_length,qil d,q3f];by_cases s : l = 0
          · subst s;rw [qim,q7n qq];rfl
          · rw [q7n s];by_cases o : l = 1
            · subst o;rw [qim];rfl
            · rw [q7n o];rfl
        rw [av] at c1 c2;have n1 : ¬ has p x:=fun h=>absurd (c1.2 h) qq;have n2 : ¬ has q x:=fun h=>absurd (c2.2 h) qq;rw [Qa n1,Qa n2,hf] at h;cases h
  · constructor
    · simp [cnt]
    · simp [cnt,hf]
    · intro h s;omega
    · exact ⟨fun t z=>(by cases z),.nil⟩
    · intro t z;cases z
    · intro _;rfl
    · intro x;simp [has]
    · simp
end Go.Sh
namespace Go.Sh
open Go Go.Am
theorem qq3 {s : List ql} (h : q1l s = 0) : s.length≤400∧Good s:=by
  unfold q1l at h;split at h
  · cases h
  · split at h
    · rename_i b a;exact ⟨q8,a⟩
    · cases h
def dst (x : Int) (t : ql) : Int:=max (max (t.Lo - x) (x - t.Hi + 1)) 0
end Go.Sh
namespace Go.Sh
open Go Go.Am
noncomputable def Uf (kind : Int) (p q : List ql) : List ql:=(qdb kind p q).getD []
theorem qkf (kind : Int) (p q : List ql) (hp : p.length≤100000) (b : q.length≤100000) : qdb kind p q = some (Uf kind p q)∧qdz kind p q (Uf kind p q):=by
  obtain ⟨out,a,c⟩:=qtt kind p q hp b;unfold Uf;rw [a];exact ⟨rfl,c⟩
theorem qtl (s : List ql) (b : ql→Option Bool) (c : ql→Bool) (h : ∀ t,b t = some (c t)) (p : s.length≤1000000) :
    ∃ r,q94 s b = some r∧decide (r ≥ 0) = s.any c:=by
  have:=Yx (f:=q3u s b) (σ:=Unit) (fun k _=>(k : Int)) s.length (fun k _=>∀ i (h : i < s.length),i < k→c s[i] = false)
    (fun m=>∃ r : Int,(match m with | .inl b22=>some (-1) | .inr x1=>some x1) = some r∧decide (r ≥ 0) = s.any c) ?_ ?_ (k0:=0) (c0:=()) q8 (fun i _ hi=>q8)
  · obtain ⟨m,g,r,j,n⟩:=this;have g : loop (q3u s b) 0 = some m:=g;exact ⟨r,by unfold q94;rw [g];exact j,n⟩
  · rintro k _ hk hi;have hb : decide ((k : Int) < (s.length : Int)) = true:=Q9 q8
    cases d : c s[k] with
    | true=>
      refine .inr ⟨.inr (k : Int),?_,(k : Int),rfl,?_⟩
      · simp only [q3u,hb,Qb,Ko hk,qr,h,d]
      · have : s.any c = true:=List.any_eq_true.2 ⟨s[k],Yi hk,d⟩;rw [this];exact Q9 q8
    | false=>
      refine .inl ⟨(),?_,?_⟩
      · simp only [q3u,hb,Qb,Ko hk,qr,h,d,Q6];rw [Qh q8];rfl
      · intro i a o;by_cases e : i = k
        · subst e;exact d
        · exact hi i a q8
  · rintro _ hi;have hb : decide ((s.length : Int) < (s.length : Int)) = false:=Qa q8;refine ⟨.inl (),by simp only [q3u,hb,Q6],-1,rfl,?_⟩
    have : s.any c = false:=by
      rw [List.any_eq_false];intro t l;obtain ⟨i,a,rfl⟩:=List.mem_iff_getElem.1 l;simp [hi i a a]
    rw [this];rfl
theorem qit (s : List ql) (a : ql→Option Bool) (c : ql→Bool) (h : ∀ t,a t = some (c t)) (b : s.length≤1000000) : q6h s a = some (s.any c):=by
  obtain ⟨r,f,d⟩:=qtl s a c h b;unfold q6h;rw [f,qr,d]
open Classical in
theorem q5l (s : List ql) (x : Int) (c : s.length≤1000000) : q27 s x = some (decide (has s x)):=by
  unfold q27
  rw [qit s _ (fun t=>decide (t.Lo≤x∧x < t.Hi)) (fun t=>by
    show (cond (decide (t.Lo≤x)) (some (decide (x < t.Hi))) (some false)).bind (fun c1=>some c1) = _;by_cases a : t.Lo≤x
    · simp [a]
    · simp [a]) c,qr]
  congr 1;by_cases h : has s x
  · rw [Q9 h,List.any_eq_true];obtain ⟨t,b,h⟩:=h;exact ⟨t,b,Q9 h⟩
  · rw [Qa h,List.any_eq_false];intro t b a;exact h ⟨t,b,of_decide_eq_true a⟩
open Classical in
noncomputable def qcr (s : List ql) : List ql × Int:=if 400 < s.length then ([],4) else if ∀ t∈s,vld t then (Uf 2 s [],0) else ([],8)
theorem quh (s : List ql) (k : s.length≤400) (c : ∀ t∈s,vld t) (p2 : Bool→Bool→Option Bool) (hp2 : ∀ a b,p2 a b = some a) : q78 s [] p2 = some (Uf 2 s []):=by
  classical
  obtain ⟨out,f,d,h⟩:=qtr (fun a _=>a) rfl p2 hp2 s [] q8 qd c (fun t g=>by cases g);obtain ⟨_,j⟩:=qkf 2 s [] q8 qd;rw [f];congr 1;refine qi6 d j.can fun x=>?_;rw [h,j.pts];simp [q2w,q2v]
theorem qug (s : List ql) : q34 s = some (qcr s):=by
  classical
  unfold q34 qcr;by_cases f : 400 < s.length
  · have e : decide ((s.length : Int) > 400) = true:=Q9 q8;rw [e,qu f];rfl
  · have e : decide ((s.length : Int) > 400) = false:=Qa q8;rw [e,qw f,Q6,qit s _ (fun t=>!decide (vld t)) (fun t=>by show (q3v t).bind _ = _;rw [qoe];rfl) q8,qr];by_cases c : ∀ t∈s,vld t
    · have : (s.any fun t=>!decide (vld t)) = false:=by
        rw [List.any_eq_false];intro t d;simp [c t d]
      rw [this,Q6,qu c,quh s q8 c (fun g j=>qba g j) (fun a b=>rfl)];rfl
    · have : (s.any fun t=>!decide (vld t)) = true:=by
        rw [List.any_eq_true];obtain ⟨t,c⟩:=Classical.not_forall.1 c;obtain ⟨d,h⟩:=Classical.not_imp.1 c;exact ⟨t,d,by simp [h]⟩
      rw [this,Qb,qw c]
def lenL : List ql→Int
  | []=>0
  | t::s=>(t.Hi - t.Lo) + lenL s
theorem qkn (a b : List ql) : lenL (a ++ b) = lenL a + lenL b:=by
  induction a with
  | nil=>simp [lenL]
  | cons t a ih=>simp only [List.cons_append,lenL,ih];omega
theorem qko : ∀ {s : List ql},(∀ t∈s,vld t)→0≤lenL s∧lenL s≤2000000 * (s.length : Int)
  | [],_=>by simp [lenL]
  | t::s,h=>by
    obtain ⟨d,b⟩:=qko (fun t a=>h t (List.mem_cons_of_mem _ a))
    obtain ⟨g,f,c⟩:=h t qd
    simp only [lenL,List.length_cons]
    omega
noncomputable def qfi (s : List ql) : Int × Int:=if q1l s = 0 then (lenL s,0) else (0,q1l s)
theorem qu1 (s : List ql) (n : s.length≤400) (d : ∀ t∈s,vld t) : loop (qb9 s) (0,0) = some (lenL s)∧loop (q8w s) (0,0) = some (lenL s):=by
  have a : ∀ k,0≤lenL (s.take k)∧lenL (s.take k)≤800000000:=by
    intro k;have:=qko (s:=s.take k) (fun t m=>d t (List.mem_of_mem_take m));have : (s.take k).length≤400:=by rw [List.length_take];omega
    omega
  constructor
  · have:=Yx (f:=qb9 s) (σ:=Int) (fun k c=>(c,(k : Int))) s.length (fun k c=>c = lenL (s.take k)) (fun r=>r = lenL s) ?_ ?_ (k0:=0) (c0:=0) q8 (by simp [lenL])
    · obtain ⟨b,g,rfl⟩:=this;exact g
    · rintro k c hk rfl;have hb : decide ((k : Int) < (s.length : Int)) = true:=Q9 q8;obtain ⟨l,j,h⟩:=d _ (Yi hk);have:=a k;refine .inl ⟨lenL (s.take (k + 1)),?_,rfl⟩;simp only [qb9,hb,Qb,Ko hk,qr];rw [Qh (x:=s[k].Hi - s[k].Lo) q8,Qh (x:=lenL (s.take k) + _) q8,Qh q8,List.take_succ_eq_append_getElem hk,qkn];simp only [lenL,Int.add_zero];rfl
    · rintro c rfl;have hb : decide ((s.length : Int) < (s.length : Int)) = false:=Qa q8;exact ⟨_,by simp only [qb9,hb,Q6];rfl,by rw [List.take_length]⟩
  · have:=Yx (f:=q8w s) (σ:=Int) (fun k c=>(c,(k : Int))) s.length (fun k c=>c = lenL (s.take k)) (fun r=>r = lenL s) ?_ ?_ (k0:=0) (c0:=0) q8 (by simp [lenL])
    · obtain ⟨b,g,rfl⟩:=this;exact g
    · rintro k c hk rfl;have hb : decide ((k : Int) < (s.length : Int)) = true:=Q9 q8;obtain ⟨l,j,h⟩:=d _ (Yi hk);have:=a k;refine .inl ⟨lenL (s.take (k + 1)),?_,rfl⟩;simp only [q8w,hb,Qb,Ko hk,qr];rw [Qh (x:=lenL (s.take k) + s[k].Hi) q8,Qh (x:=lenL (s.take k) + s[k].Hi - _) q8,Qh q8,List.take_succ_eq_append_getElem hk,qkn];have : lenL (s.take k) + s[k].Hi - s[k].Lo = lenL (s.take k) + lenL [s[k]]:=by simp only [lenL];omega
      rw [this];rfl
    · rintro c rfl;have hb : decide ((s.length : Int) < (s.length : Int)) = false:=Qa q8;exact ⟨_,by simp only [q8w,hb,Q6];rfl,by rw [List.take_length]⟩
theorem q13z (s : List ql) : qnu s = some (qfi s)∧qmn s = some (qfi s):=by
  unfold qnu qmn qfi;simp only [qid,qyu,qr];by_cases h : q1l s = 0
  · obtain ⟨c,d⟩:=qq3 h;obtain ⟨a,b⟩:=qu1 s c d.1;have e : (q1l s != 0) = false:=by simpa using h
    simp only [e,Q6,a,b,qr];simp only [h,if_true];exact ⟨trivial,trivial⟩
  · have e : (q1l s != 0) = true:=by simpa using h
    simp only [e,Qb,qw h];exact ⟨trivial,trivial⟩
end Go.Sh
namespace Go.Sh
open Go Go.Am
section
variable {α β : Type} [DecidableEq α]
theorem qcy {z : β} {k : α} {v : β} : ∀ {R : List (α × β)},(R.map (·.1)).Nodup→(k,v)∈R→K5 z k R = v
  | [],_,h=>by cases h
  | (a,w)::r,hn,h=>by
    simp only [List.map_cons,List.nodup_cons] at hn
    simp only [K5]
    rcases List.mem_cons.1 h with h | h
    · cases h;rw [qu rfl]
    · have : k≠a:=fun e=>hn.1 (e ▸ List.mem_map_of_mem (f:=(·.1)) h)
      rw [qw this];exact qcy hn.2 h
theorem qcz {z : β} {k : α} : ∀ {R : List (α × β)},k ∉ R.map (·.1)→K5 z k R = z
  | [],_=>rfl
  | (a,w)::r,h=>by
    simp only [List.map_cons,List.mem_cons,not_or] at h
    simp only [K5,qw h.1];exact qcz h.2
theorem qfn {k : α} {v : β} : ∀ {R : List (α × β)},(R.map (·.1)).Nodup→∀ a w,((a,w)∈K8 k v R↔(a = k∧w = v)∨(a≠k∧(a,w)∈R))
  | [],_,a,w=>by simp [K8]
  | (b,u)::r,hn,a,w=>by
    simp only [List.map_cons,List.nodup_cons] at hn
    simp only [K8]
    by_cases e : k = b
    · subst e
      rw [qu rfl,List.mem_cons,Prod.mk.injEq,List.mem_cons,Prod.mk.injEq]
      constructor
      · rintro (h | h)
        · exact .inl h
        · exact .inr ⟨fun e=>hn.1 (e ▸ List.mem_map_of_mem (f:=(·.1)) h),.inr h⟩
      · rintro (h | ⟨c,h | h⟩)
        · exact .inl h
        · exact absurd h.1 c
        · exact .inr h
    · rw [qw e,List.mem_cons,qfn hn.2 a w,List.mem_cons,Prod.mk.injEq]
      constructor
      · rintro (⟨rfl,rfl⟩ | h | ⟨c,d⟩)
        · exact .inr ⟨fun h=>e h.symm,.inl ⟨rfl,rfl⟩⟩
        · exact .inl h
        · exact .inr ⟨c,.inr d⟩
      · rintro (h | ⟨c,h | h⟩)
        · exact .inr (.inl h)
        · exact .inl h
        · exact .inr (.inr ⟨c,h⟩)
theorem q8l {k : α} {v : β} : ∀ {R : List (α × β)} (a : α),a∈(K8 k v R).map (·.1)↔a = k∨a∈R.map (·.1)
  | [],a=>by simp [K8]
  | (b,u)::r,a=>by
    simp only [K8]
    by_cases e : k = b
    · subst e;simp
    · simp only [e,if_false,List.map_cons,List.mem_cons,q8l a];constructor <;> (rintro (h | h | h) <;> simp [h])
theorem qfv {k : α} {v : β} : ∀ {R : List (α × β)},(R.map (·.1)).Nodup→((K8 k v R).map (·.1)).Nodup
  | [],_=>by simp [K8]
  | (b,u)::r,hn=>by
    simp only [List.map_cons,List.nodup_cons] at hn
    simp only [K8]
    by_cases e : k = b
    · subst e;simp only [if_true,List.map_cons,List.nodup_cons];exact hn
    · simp only [e,if_false,List.map_cons,List.nodup_cons]
      refine ⟨fun h=>?_,qfv hn.2⟩
      rcases (q8l b).1 h with h | h
      · exact e h.symm
      · exact hn.1 h
theorem qlb {k : α} {v : β} : ∀ {R : List (α × β)},(K8 k v R).length≤R.length + 1
  | []=>by simp [K8]
  | (b,u)::r=>by
    simp only [K8]
    have:=qlb (k:=k) (v:=v) (R:=r)
    split <;> simp <;> omega
end
def hk (s : qt) : Option (Int × ql):=if s.A.Y = s.B.Y then some (s.A.Y,{Lo:=min s.A.X s.B.X,Hi:=max s.A.X s.B.X}) else none
def vk (s : qt) : Option (Int × ql):=if s.A.Y = s.B.Y then none else some (s.A.X,{Lo:=min s.A.Y s.B.Y,Hi:=max s.A.Y s.B.Y})
def onL (L : List (Int × ql)) (k x : Int) : Prop:=∃ p∈L,p.1 = k∧p.2.Lo≤x∧x < p.2.Hi
def Zb (L : List (Int × ql)) (k : Int) : List ql:=(L.filter fun p=>decide (p.1 = k)).map (·.2)
theorem q8g {L : List (Int × ql)} {k : Int} {t : ql} : t∈Zb L k↔(k,t)∈L:=by
  simp only [Zb,List.mem_map,List.mem_filter,decide_eq_true_eq];constructor
  · rintro ⟨⟨a,b⟩,⟨c,rfl⟩,rfl⟩;exact c
  · intro h;exact ⟨(k,t),⟨h,rfl⟩,rfl⟩
theorem qbe {L : List (Int × ql)} {k : Int} : (Zb L k).length≤L.length:=by
  simp only [Zb,List.length_map];exact List.length_filter_le _ _
theorem qtg {L : List (Int × ql)} {k x : Int} : has (Zb L k) x↔onL L k x:=by
  constructor
  · rintro ⟨t,b,h⟩;exact ⟨(k,t),q8g.1 b,rfl,h⟩
  · rintro ⟨⟨a,t⟩,b,rfl,h⟩;exact ⟨t,q8g.2 b,h⟩
theorem q12h {L : List (Int × ql)} {k : Int} {t : ql} (a : Int) : Zb (L ++ [(k,t)]) a = Zb L a ++ (if a = k then [t] else []):=by
  simp only [Zb,List.filter_append,List.map_append,List.append_cancel_left_eq];by_cases e : k = a
  · subst e;simp
  · have : ¬ a = k:=fun h=>e h.symm;simp [e,this]
structure Grp (L : List (Int × ql)) (R : List (Int × List ql)) : Prop where
  nd : (R.map (·.1)).Nodup
  val : ∀ k v,(k,v)∈R→v = Zb L k
  all : ∀ k t,(k,t)∈L→k∈R.map (·.1)
  own : ∀ k,k∈R.map (·.1)→∃ t,(k,t)∈L
theorem Grp.get {L : List (Int × ql)} {R : List (Int × List ql)} (h : Grp L R) (k : Int) : K5 [] k R = Zb L k:=by
  by_cases hk : k∈R.map (·.1)
  · obtain ⟨⟨a,v⟩,b,rfl⟩:=List.mem_map.1 hk;rw [qcy h.nd b];exact h.val _ _ b
  · rw [qcz hk];symm;refine List.eq_nil_iff_forall_not_mem.2 fun t c=>?_;exact hk (h.all k t (q8g.1 c))
theorem Grp.put {L : List (Int × ql)} {R : List (Int × List ql)} (h : Grp L R) (k : Int) (t : ql) : Grp (L ++ [(k,t)]) (K8 k (Zb L k ++ [t]) R):=by
  refine ⟨qfv h.nd,fun a v f=>?_,fun a u d=>?_,fun a c=>?_⟩
  · rw [q12h];rcases (qfn h.nd a v).1 f with ⟨rfl,rfl⟩ | ⟨b,g⟩
    · rw [qu rfl]
    · rw [qw b,List.append_nil];exact h.val a v g
  · rw [q8l];rcases List.mem_append.1 d with b | b
    · exact .inr (h.all a u b)
    · simp only [List.mem_singleton,Prod.mk.injEq] at b;exact .inl b.1
  · rcases (q8l a).1 c with rfl | c
    · exact ⟨t,qd⟩
    · obtain ⟨u,d⟩:=h.own a c;exact ⟨u,by simp [d]⟩
theorem Grp.nil : Grp [] []:=⟨.nil,fun _ _ h=>(by cases h),fun _ _ h=>(by cases h),fun _ h=>(by cases h)⟩
theorem Grp.len {L : List (Int × ql)} {R : List (Int × List ql)} (h : Grp L R) : R.length≤L.length:=by
  have : (R.map (·.1)).length≤(L.map (·.1)).length:=by
    refine List.Nodup.length_le_of_subset h.nd fun k hk=>?_;obtain ⟨t,a⟩:=h.own k hk;exact List.mem_map_of_mem (f:=(·.1)) a
  simpa using this
structure Rep (R : List (Int × List ql)) (F : Int→Int→Prop) : Prop where
  nd : (R.map (·.1)).Nodup
  good : ∀ k v,(k,v)∈R→Good v
  len : ∀ k v,(k,v)∈R→v.length≤800
  pts : ∀ k v,(k,v)∈R→∀ x,has v x↔F k x
  all : ∀ k x,F k x→k∈R.map (·.1)
  cnt : R.length≤400
  key : ∀ k∈R.map (·.1),-1000000≤k∧k≤1000000
theorem Rep.get {R : List (Int × List ql)} {F : Int→Int→Prop} (h : Rep R F) (k x : Int) : has (K5 [] k R) x↔F k x:=by
  by_cases hk : k∈R.map (·.1)
  · obtain ⟨⟨a,v⟩,c,rfl⟩:=List.mem_map.1 hk;rw [qcy h.nd c];exact h.pts _ _ c x
  · rw [qcz hk];exact ⟨fun b=>absurd b (q2v x),fun b=>absurd (h.all k x b) hk⟩
theorem Rep.getlen {R : List (Int × List ql)} {F : Int→Int→Prop} (h : Rep R F) (k : Int) : (K5 [] k R).length≤800:=by
  by_cases hk : k∈R.map (·.1)
  · obtain ⟨⟨a,v⟩,b,rfl⟩:=List.mem_map.1 hk;rw [qcy h.nd b];exact h.len _ _ b
  · rw [qcz hk];simp
theorem qel {L : List (Int × ql)} (d : L.length≤400) (b : ∀ k t,(k,t)∈L→vld t) : ∀ {R : List (Int × List ql)},(∀ k v,(k,v)∈R→v = Zb L k)→U6 R = some (R.map fun e=>(e.1,Uf 2 (Zb L e.1) []))
  | [],_=>rfl
  | (k,v)::r,h=>by
    have e:=h k v qd
    have j:=qel d b (R:=r) fun a w c=>h a w (by simp [c])
    have l:=qbe (L:=L) (k:=k)
    have g : qcr v = (Uf 2 (Zb L k) [],0):=by
      subst e;unfold qcr;rw [qw q8,qu fun t f=>b k t (q8g.1 f)]
    simp only [U6,qug,g,qr,j,List.map_cons]
theorem qmx {L : List (Int × ql)} {R : List (Int × List ql)} (h : Grp L R) (p : L.length≤400) (m : ∀ k t,(k,t)∈L→vld t) (hb : ∀ k t,(k,t)∈L→-1000000≤k∧k≤1000000) : Rep (R.map fun e=>(e.1,Uf 2 (Zb L e.1) [])) (onL L):=by
  have J : ∀ k,qdz 2 (Zb L k) [] (Uf 2 (Zb L k) []):=fun k=>(qkf 2 _ _ (by have:=qbe (L:=L) (k:=k);omega) qd).2
  have c : ∀ k v,(k,v)∈(R.map fun e=>(e.1,Uf 2 (Zb L e.1) []))→v = Uf 2 (Zb L k) []:=by
    intro k v f;obtain ⟨e,q,n⟩:=List.mem_map.1 f;cases n;rfl
  have b : (R.map fun e=>(e.1,Uf 2 (Zb L e.1) [])).map (·.1) = R.map (·.1):=by simp
  refine ⟨by rw [b];exact h.nd,fun k v f=>?_,fun k v f=>?_,fun k v f x=>?_,fun k x d=>?_,?_,fun k hk=>?_⟩
  · rw [c k v f];refine ⟨fun t g=>⟨(J k).can.1 t g,?_⟩,(J k).can.2⟩;obtain ⟨e1,o⟩:=(J k).ends t g
    have j : ∀ x,x∈ends (Zb L k)∨x∈ends []→-1000000≤x∧x≤1000000:=by
      rintro x (d | d)
      · obtain ⟨u,l,d⟩:=q8f.1 d;have:=m k u (q8g.1 l);unfold vld at this;rcases d with rfl | rfl <;> omega
      · cases d
    exact ⟨(j _ e1).1,(j _ o).2⟩
  · rw [c k v f];have:=(J k).len;have:=qbe (L:=L) (k:=k);simp only [List.length_nil,Nat.add_zero] at *;omega
  · rw [c k v f,(J k).pts,qtg];simp [q2w,q2v]
  · rw [b];obtain ⟨⟨a,t⟩,hp,rfl,_⟩:=d;exact h.all _ _ hp
  · have:=h.len;simp;omega
  · rw [b] at hk;obtain ⟨t,g⟩:=h.own k hk;exact hb k t g
theorem qqk {r : Yc} {s : qt} {L M : List (Int × ql)} (c : Grp L r.rows_) (b : Grp M r.columns_) (g : L.length≤1000) (f : M.length≤1000) : ∃ a,q1m r s = some a∧Grp (L ++ (hk s).toList) a.rows_∧Grp (M ++ (vk s).toList) a.columns_:=by
  unfold q1m hk vk;by_cases e : s.A.Y = s.B.Y
  · have d : (s.A.Y == s.B.Y) = true:=by simpa using e
    rw [d,Qb,c.get,Jc (by have:=qbe (L:=L) (k:=s.A.Y);simp;omega),qu e,qu e];refine ⟨_,rfl,c.put _ _,by simpa using b⟩
  · have d : (s.A.Y == s.B.Y) = false:=by simpa using e
    rw [d,Q6,b.get,Jc (by have:=qbe (L:=M) (k:=s.A.X);simp;omega),qw e,qw e];refine ⟨_,rfl,by simpa using c,b.put _ _⟩
theorem qiq : ∀ (l : List qt) {r : Yc} {L M : List (Int × ql)},Grp L r.rows_→Grp M r.columns_→L.length + l.length≤1000→M.length + l.length≤1000→∃ a,q2d l r = some a∧Grp (L ++ l.filterMap hk) a.rows_∧Grp (M ++ l.filterMap vk) a.columns_
  | [],r,L,M,h1,h2,_,_=>⟨r,rfl,by simpa using h1,by simpa using h2⟩
  | s::l,r,L,M,h1,h2,hl,hm=>by
    simp only [List.length_cons] at hl hm
    obtain ⟨n,e1,f,d⟩:=qqk (s:=s) h1 h2 q8 q8
    have m : (hk s).toList.length≤1:=by cases hk s <;> simp
    have k : (vk s).toList.length≤1:=by cases vk s <;> simp
    obtain ⟨b,g,j,c⟩:=qiq l f d (by simp;omega) (by simp;omega)
    refine ⟨b,by simp only [q2d,e1,qr,g],?_,?_⟩
    · have : L ++ (s::l).filterMap hk = L ++ (hk s).toList ++ l.filterMap hk:=by cases h : hk s <;> simp [h]
      rw [this];exact j
    · have : M ++ (s::l).filterMap vk = M ++ (vk s).toList ++ l.filterMap vk:=by cases h : vk s <;> simp [h]
      rw [this];exact c
structure SegV (s : qt) : Prop where
  a : -1000000≤s.A.X∧s.A.X≤1000000∧-1000000≤s.A.Y∧s.A.Y≤1000000
  b : -1000000≤s.B.X∧s.B.X≤1000000∧-1000000≤s.B.Y∧s.B.Y≤1000000
  or : (s.A.X = s.B.X∧s.A.Y≠s.B.Y)∨(s.A.X≠s.B.X∧s.A.Y = s.B.Y)
def q31 (l : List qt) : List (Int × ql):=l.filterMap hk
def q2e (l : List qt) : List (Int × ql):=l.filterMap vk
theorem q5u {l : List qt} {k : Int} {t : ql} : (k,t)∈q31 l↔∃ s∈l,s.A.Y = s.B.Y∧k = s.A.Y∧t = {Lo:=min s.A.X s.B.X,Hi:=max s.A.X s.B.X}:=by
  simp only [q31,List.mem_filterMap,hk];constructor
  · rintro ⟨s,hs,h⟩;split at h
    · cases h;exact ⟨s,hs,by assumption,rfl,rfl⟩
    · cases h
  · rintro ⟨s,hs,a,rfl,rfl⟩;exact ⟨s,hs,by rw [qu a]⟩
theorem q5t {l : List qt} {k : Int} {t : ql} : (k,t)∈q2e l↔∃ s∈l,s.A.Y≠s.B.Y∧k = s.A.X∧t = {Lo:=min s.A.Y s.B.Y,Hi:=max s.A.Y s.B.Y}:=by
  simp only [q2e,List.mem_filterMap,vk];constructor
  · rintro ⟨s,hs,h⟩;split at h
    · cases h
    · cases h;exact ⟨s,hs,by assumption,rfl,rfl⟩
  · rintro ⟨s,hs,a,rfl,rfl⟩;exact ⟨s,hs,by rw [qw a]⟩
theorem qzl (l : List qt) : (q31 l).length≤l.length:=List.length_filterMap_le _ _
theorem qqo (l : List qt) : (q2e l).length≤l.length:=List.length_filterMap_le _ _
theorem qn6 {l : List qt} (h : ∀ s∈l,SegV s) : ∀ k t,(k,t)∈q31 l→vld t:=by
  intro k t a;obtain ⟨s,hs,j,_,rfl⟩:=q5u.1 a;obtain ⟨⟨f,g,m,b⟩,⟨b1,b2,d,c⟩,o⟩:=h s hs;unfold vld;simp only;omega
theorem qzk {l : List qt} (h : ∀ s∈l,SegV s) : ∀ k t,(k,t)∈q31 l→-1000000≤k∧k≤1000000:=by
  intro k t b;obtain ⟨s,hs,c,rfl,rfl⟩:=q5u.1 b;exact ⟨(h s hs).a.2.2.1,(h s hs).a.2.2.2⟩
theorem qqn {l : List qt} (h : ∀ s∈l,SegV s) : ∀ k t,(k,t)∈q2e l→-1000000≤k∧k≤1000000:=by
  intro k t b;obtain ⟨s,hs,c,rfl,rfl⟩:=q5t.1 b;exact ⟨(h s hs).a.1,(h s hs).a.2.1⟩
theorem qir {l : List qt} (h : ∀ s∈l,SegV s) : ∀ k t,(k,t)∈q2e l→vld t:=by
  intro k t a;obtain ⟨s,hs,j,_,rfl⟩:=q5t.1 a;obtain ⟨⟨f,g,m,b⟩,⟨b1,b2,d,c⟩,o⟩:=h s hs;unfold vld;simp only;omega
theorem qc5 {l : List qt} (d : l.length≤400) (a : ∀ s∈l,SegV s) : ∃ r,q7b l = some r∧Rep r.rows_ (onL (q31 l))∧Rep r.columns_ (onL (q2e l)):=by
  obtain ⟨r,e,c,b⟩:=qiq l (r:={rows_:=[],columns_:=[]}) .nil .nil (by simp;omega) (by simp;omega);simp only [List.nil_append] at c b;have f:=qzl l;have n2:=qqo l;refine ⟨{rows_:=_,columns_:=_},?_,qmx c (by show (q31 l).length≤400;omega) (qn6 a) (qzk a),qmx b (by show (q2e l).length≤400;omega) (qir a) (qqn a)⟩;unfold q7b;rw [Q9 (show l.length≤1000000 by omega),Qb,e,qr,qel (L:=q31 l) q8 (qn6 a) c.val,qr,qel (L:=q2e l) q8 (qir a) b.val];rfl
end Go.Sh
namespace Go.Sh
open Go Go.Am
structure Abs (out : List ql) (lo0 hi0 : Int) (k : Nat) (c : Int × Int × List ql) : Prop where
  can : Can c.2.2
  sub : ∀ t∈c.2.2,t∈out.take k
  apart : ∀ t∈c.2.2,t.Hi < c.1∨c.2.1 < t.Lo
  lt : c.1 < c.2.1
  bnd : -1000000≤c.1∧c.2.1≤1000000
  pts : ∀ x,(has c.2.2 x∨(c.1≤x∧x < c.2.1))↔(has (out.take k) x∨(lo0≤x∧x < hi0))
  len : c.2.2.length≤k
structure Uni (s out : List ql) : Prop where
  good : Good out
  pts : ∀ x,has out x↔has s x
  len : out.length≤s.length
end Go.Sh
namespace Go.Sh
open Go Go.Am
def kf (p : Bool) : qt→Option (Int × ql):=cond p hk vk
end Go.Sh
namespace Go.Sh
open Go Go.Am
open Classical
def q60 (e n w s : Bool) : Bool:=(e || n || w || s) && !(e && !n && w && !s) && !(!e && n && !w && s)
noncomputable def arB (F G : Int→Int→Prop) (x y : Int) : Bool × Bool × Bool × Bool:=(decide (F y x),decide (G x y),decide (F y (x - 1)),decide (G x (y - 1)))
def Y4 (F G : Int→Int→Prop) (x y : Int) : Prop:=q60 (decide (F y x)) (decide (G x y)) (decide (F y (x - 1))) (decide (G x (y - 1))) = true
def PtB (p : qa) : Prop:=-1000000≤p.X∧p.X≤1000000∧-1000000≤p.Y∧p.Y≤1000000
section
variable {F G : Int→Int→Prop}
theorem qe4 {r : Yc} (b : Rep r.rows_ F) (a : Rep r.columns_ G) {p : qa} (hp : PtB p) : q53 r p = some (arB F G p.X p.Y):=by
  obtain ⟨d,g,j,c⟩:=hp;unfold q53 arB;have f:=b.getlen p.Y;have h:=a.getlen p.X;rw [Qh q8,Qh q8,q5l _ _ q8,q5l _ _ q8,q5l _ _ q8,q5l _ _ q8];simp only [qr,decide_eq_decide.2 (b.get _ _),decide_eq_decide.2 (a.get _ _)]
theorem qva {r : Yc} (f : Rep r.rows_ F) (g : Rep r.columns_ G) {p : qa} (hp : PtB p) : qbk r p = some (decide (Y4 F G p.X p.Y)):=by
  unfold qbk;rw [qe4 f g hp];simp only [qr,arB]
  have e : decide (Y4 F G p.X p.Y) = q60 (decide (F p.Y p.X)) (decide (G p.X p.Y)) (decide (F p.Y (p.X - 1))) (decide (G p.X (p.Y - 1))):=by
    unfold Y4;cases q60 (decide (F p.Y p.X)) (decide (G p.X p.Y)) (decide (F p.Y (p.X - 1))) (decide (G p.X (p.Y - 1))) <;> simp
  rw [e];generalize decide (F p.Y p.X) = a;generalize decide (G p.X p.Y) = b;generalize decide (F p.Y (p.X - 1)) = c;generalize decide (G p.X (p.Y - 1)) = d;revert a b c d;decide
theorem qea {s : List ql} (b : Can s) (x : Int) : (∃ t∈s,t.Lo = x)↔has s x∧¬ has s (x - 1):=by
  constructor
  · rintro ⟨t,a,rfl⟩;have:=b.1 t a;refine ⟨⟨t,a,q8,q8⟩,?_⟩;rintro ⟨u,g,f,d⟩;obtain ⟨i,hi,rfl⟩:=List.mem_iff_getElem.1 a;obtain ⟨j,c,rfl⟩:=List.mem_iff_getElem.1 g;rcases Nat.lt_trichotomy i j with h | h | h
    · have:=List.pairwise_iff_getElem.1 b.2 i j hi c h;omega
    · subst h;omega
    · have:=List.pairwise_iff_getElem.1 b.2 j i c hi h;omega
  · rintro ⟨⟨t,a,f,d⟩,k⟩;refine ⟨t,a,?_⟩;by_cases e : t.Lo = x
    · exact e
    · exact absurd ⟨t,a,q8,q8⟩ k
theorem qi5 {s : List ql} (b : Can s) (x : Int) : (∃ t∈s,t.Hi = x)↔¬ has s x∧has s (x - 1):=by
  constructor
  · rintro ⟨t,a,rfl⟩;have:=b.1 t a;refine ⟨?_,⟨t,a,q8,q8⟩⟩;rintro ⟨u,g,f,d⟩;obtain ⟨i,hi,rfl⟩:=List.mem_iff_getElem.1 a;obtain ⟨j,c,rfl⟩:=List.mem_iff_getElem.1 g;rcases Nat.lt_trichotomy i j with h | h | h
    · have:=List.pairwise_iff_getElem.1 b.2 i j hi c h;omega
    · subst h;omega
    · have:=List.pairwise_iff_getElem.1 b.2 j i c hi h;omega
  · rintro ⟨k,⟨t,a,f,d⟩⟩;refine ⟨t,a,?_⟩;by_cases e : t.Hi = x
    · exact e
    · exact absurd ⟨t,a,q8,q8⟩ k
end
end Go.Sh
