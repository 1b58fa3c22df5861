/- Pg4 Pg5 Pg6 Pj1 Pj2 Pl4 Pj3 Po1 -/
import Derived.Test.YtmnfbjlabfeneaaGreatK9
namespace Go.Sh
open Go Go.Am
section
variable {T : Type} [Inhabited T] {P : T→Prop} {lt : T→T→Bool} {q : T→T→Option Int}
theorem qgr {f : Int→Option (Int ⊕ Int)} (p : T→Bool) (d : Array T) (j : Nat)
    (b : ∀ k : Nat,k≤1000002→f (k : Int) = if (decide (k≤j) && p d[k]!) = true then some (.inl ((k + 1 : Nat) : Int)) else some (.inr (k : Int))) (g : j≤1000000) :
    ∀ (m i : Nat),j + 1 - i = m→i≤1000002→loop f (i : Int) = some ((Sort.scanUp p d j i : Nat) : Int):=by
  intro m
  induction m with
  | zero=>
    intro i c hi;unfold Sort.scanUp;have a : ¬ (decide (i≤j) && p d[i]!) = true:=by simp;omega
    rw [qs a];exact Ke (by rw [b i hi,qs a])
  | succ m ih=>
    intro i c hi;unfold Sort.scanUp;by_cases a : (decide (i≤j) && p d[i]!) = true
    · rw [qr a,Kq (by rw [b i hi,qr a])];exact ih (i + 1) q0 q0
    · rw [qs a];exact Ke (by rw [b i hi,qs a])
theorem qd0 {f : Int→Option (Int ⊕ Int)} (p : T→Bool) (d : Array T) (i n : Nat) (hi : 1≤i)
    (b : ∀ k : Nat,k < n→f (k : Int) = if (decide (i≤k) && p d[k]!) = true then some (.inl ((k - 1 : Nat) : Int)) else some (.inr (k : Int))) :
    ∀ (j : Nat),j < n→loop f (j : Int) = some ((Sort.scanDown p d i j : Nat) : Int)
  | 0,hj=>by
    have a : ¬ (decide (i≤0) && p d[0]!) = true:=by simp;omega
    exact Ke (by rw [b 0 hj,qs a];rfl)
  | j + 1,hj=>by
    unfold Sort.scanDown
    by_cases a : (decide (i≤j + 1) && p d[j + 1]!) = true
    · rw [qr a,Kq (by rw [b (j + 1) hj,qr a])]
      exact qd0 p d i n hi b j q0
    · rw [qs a]
      exact Ke (by rw [b (j + 1) hj,qs a])
theorem qm5 (hq : Kt q lt P) {n : Nat} {d : Array T} (hd : AllP n P d) {a j : Nat} (b : a < n) (m : j < n) (x : Int) (k : Nat) (l : k≤1000002) :
    J9 (x,(j : Int),d.toList) (a : Int) q (k : Int) = if (decide (k≤j) && (fun x=>lt x d[a]!) d[k]!) = true then some (.inl ((k + 1 : Nat) : Int)) else some (.inr (k : Int)):=by
  have g:=hd.1;by_cases h : k≤j
  · obtain ⟨r,f,c⟩:=hq d[k]! d[a]! (hd.2.2 _ q0) (hd.2.2 _ b);have t : decide ((k : Int)≤(j : Int)) = true:=Qb q0;simp only [J9,t,Q0,gx (d:=d) (k:=k) q0,gx (d:=d) (k:=a) q0,qk,f,c,w1p k q0];simp only [Qb h,Bool.true_and,Bool.cond_eq_ite]
  · have t : decide ((k : Int)≤(j : Int)) = false:=Q9 q0;simp only [J9,t,Q4,qk];simp [h]
theorem qm6 (hq : Kt q lt P) {n : Nat} {d : Array T} (hd : AllP n P d) {a i : Nat} (c : a < n) (hi : 1≤i) (x y : Int) (k : Nat) (l : k < n) :
    Ja (i : Int) (x,y,d.toList) (a : Int) q (k : Int) = if (decide (i≤k) && (fun x=>!lt x d[a]!) d[k]!) = true then some (.inl ((k - 1 : Nat) : Int)) else some (.inr (k : Int)):=by
  have g:=hd.1;have j:=hd.2.1;by_cases h : i≤k
  · obtain ⟨r,f,b⟩:=hq d[k]! d[a]! (hd.2.2 _ q0) (hd.2.2 _ c);have t : decide ((i : Int)≤(k : Int)) = true:=Qb q0;have w : w64 ((k : Int) - 1) = ((k - 1 : Nat) : Int):=by rw [Qa q0];omega
    simp only [Ja,t,Q0,gx (d:=d) (k:=k) q0,gx (d:=d) (k:=a) q0,qk,f,b,w];simp only [Qb h,Bool.true_and,Bool.cond_eq_ite]
  · have t : decide ((i : Int)≤(k : Int)) = false:=Q9 q0;simp only [Ja,t,Q4,qk];simp [h]
theorem qvl (hq : Kt q lt P) {n : Nat} {d : Array T} (hd : AllP n P d) {a j : Nat} (b : a < n) (m : j < n) (x : Int) (k : Nat) (l : k≤1000002) :
    Up (x,(j : Int),d.toList) (a : Int) q (k : Int) = if (decide (k≤j) && (fun x=>!lt d[a]! x) d[k]!) = true then some (.inl ((k + 1 : Nat) : Int)) else some (.inr (k : Int)):=by
  have g:=hd.1;by_cases h : k≤j
  · obtain ⟨r,f,c⟩:=hq d[a]! d[k]! (hd.2.2 _ b) (hd.2.2 _ q0);have t : decide ((k : Int)≤(j : Int)) = true:=Qb q0;simp only [Up,t,Q0,gx (d:=d) (k:=k) q0,gx (d:=d) (k:=a) q0,qk,f,c,w1p k q0];simp only [Qb h,Bool.true_and,Bool.cond_eq_ite]
  · have t : decide ((k : Int)≤(j : Int)) = false:=Q9 q0;simp only [Up,t,Q4,qk];simp [h]
theorem qvm (hq : Kt q lt P) {n : Nat} {d : Array T} (hd : AllP n P d) {a i : Nat} (c : a < n) (hi : 1≤i) (x y : Int) (k : Nat) (l : k < n) :
    Uq (i : Int) (x,y,d.toList) (a : Int) q (k : Int) = if (decide (i≤k) && (fun x=>lt d[a]! x) d[k]!) = true then some (.inl ((k - 1 : Nat) : Int)) else some (.inr (k : Int)):=by
  have g:=hd.1;have j:=hd.2.1;by_cases h : i≤k
  · obtain ⟨r,f,b⟩:=hq d[a]! d[k]! (hd.2.2 _ c) (hd.2.2 _ q0);have t : decide ((i : Int)≤(k : Int)) = true:=Qb q0;have w : w64 ((k : Int) - 1) = ((k - 1 : Nat) : Int):=by rw [Qa q0];omega
    simp only [Uq,t,Q0,gx (d:=d) (k:=k) q0,gx (d:=d) (k:=a) q0,qk,f,b,w];simp only [Qb h,Bool.true_and,Bool.cond_eq_ite]
  · have t : decide ((i : Int)≤(k : Int)) = false:=Q9 q0;simp only [Uq,t,Q4,qk];simp [h]
theorem qvg (hq : Kt q lt P) (a n : Nat) (s : a < n) : ∀ (m i j : Nat) (d : Array T),j + 1 - i = m→AllP n P d→1≤i→i≤n + 1→j < n→
    loop (q1j (a : Int) q) ((i : Int),(j : Int),d.toList) = some (((Sort.partLoop lt a i j d).1 : Int),(Sort.partLoop lt a i j d).2.toList)∧AllP n P (Sort.partLoop lt a i j d).2∧(Sort.partLoop lt a i j d).1 < n:=by
  intro m
  induction m using Nat.strongRecOn with
  | _ m ih=>
    intro i j d hm hd hi y r;have aa:=hd.1;have hn:=hd.2.1;rw [Sort.partLoop_eq];have p:=qgr (f:=J9 ((i : Int),(j : Int),d.toList) (a : Int) q) (fun x=>lt x d[a]!) d j (fun k l=>qm5 hq hd s r _ k l) q0 _ i rfl q0;have g1:=Sort.scanUp_ge (fun x=>lt x d[a]!) d j i;have z:=(Sort.scanUp_spec (fun x=>lt x d[a]!) d j _ i rfl).2.1;generalize Sort.scanUp (fun x=>lt x d[a]!) d j i = c at p g1 z ⊢;have o:=qd0 (f:=Ja (c : Int) ((i : Int),(j : Int),d.toList) (a : Int) q) (fun x=>!lt x d[a]!) d c n q0 (fun k l=>qm6 hq hd s q0 _ _ k l) j r;have v:=Sort.scanDown_le (fun x=>!lt x d[a]!) d c j;generalize Sort.scanDown (fun x=>!lt x d[a]!) d c j = g at o v ⊢;by_cases u : c > g
    · rw [qr u];have t : decide ((c : Int) > (g : Int)) = true:=Qb q0;refine ⟨Ke ?_,hd,by show g < n;omega⟩;simp only [q1j,p,o,qk,t,Q0]
    · rw [qs u];have t : decide ((c : Int) > (g : Int)) = false:=Q9 q0;have h:=ih ((g - 1) + 1 - (c + 1)) q0 (c + 1) (g - 1) _ rfl (hd.swp (a:=c) (b:=g) q0 q0) q0 q0 q0;refine ⟨?_,h.2⟩;rw [Kq (a':=(((c + 1 : Nat) : Int),((g - 1 : Nat) : Int),(Sort.swp d c g).toList)) ?_]
      · exact h.1
      · have w : w64 ((g : Int) - 1) = ((g - 1 : Nat) : Int):=by rw [Qa q0];omega
        simp only [q1j,p,o,qk,t,Q4,gx (d:=d) (k:=c) q0,gx (d:=d) (k:=g) q0,gxs (d:=d) (k:=g) q0,Int.toNat_natCast,gswp,w,w1p c q0]
theorem qvf (hq : Kt q lt P) (a n : Nat) (r : a < n) : ∀ (m i j : Nat) (d : Array T),j + 1 - i = m→AllP n P d→1≤i→i≤n + 1→j < n→
    loop (q1i (a : Int) q) ((i : Int),(j : Int),d.toList) = some (((Sort.partEqLoop lt a i j d).1 : Int),(Sort.partEqLoop lt a i j d).2.toList):=by
  intro m
  induction m using Nat.strongRecOn with
  | _ m ih=>
    intro i j d hm hd hi v p;have z:=hd.1;have hn:=hd.2.1;rw [Sort.partEqLoop_eq];have o:=qgr (f:=Up ((i : Int),(j : Int),d.toList) (a : Int) q) (fun x=>!lt d[a]! x) d j (fun k h=>qvl hq hd r p _ k h) q0 _ i rfl q0;have g1:=Sort.scanUp_ge (fun x=>!lt d[a]! x) d j i;have y:=(Sort.scanUp_spec (fun x=>!lt d[a]! x) d j _ i rfl).2.1;generalize Sort.scanUp (fun x=>!lt d[a]! x) d j i = c at o g1 y ⊢;have l:=qd0 (f:=Uq (c : Int) ((i : Int),(j : Int),d.toList) (a : Int) q) (fun x=>lt d[a]! x) d c n q0 (fun k h=>qvm hq hd r q0 _ _ k h) j p;have u:=Sort.scanDown_le (fun x=>lt d[a]! x) d c j;generalize Sort.scanDown (fun x=>lt d[a]! x) d c j = g at l u ⊢;by_cases s : c > g
    · rw [qr s];have t : decide ((c : Int) > (g : Int)) = true:=Qb q0;refine Ke ?_;simp only [q1i,o,l,qk,t,Q0]
    · rw [qs s];have t : decide ((c : Int) > (g : Int)) = false:=Q9 q0;rw [Kq (a':=(((c + 1 : Nat) : Int),((g - 1 : Nat) : Int),(Sort.swp d c g).toList)) ?_]
      · exact ih ((g - 1) + 1 - (c + 1)) q0 (c + 1) (g - 1) _ rfl (hd.swp (a:=c) (b:=g) q0 q0) q0 q0 q0
      · have w : w64 ((g : Int) - 1) = ((g - 1 : Nat) : Int):=by rw [Qa q0];omega
        simp only [q1i,o,l,qk,t,Q4,gx (d:=d) (k:=c) q0,gx (d:=d) (k:=g) q0,gxs (d:=d) (k:=g) q0,Int.toNat_natCast,gswp,w,w1p c q0]
theorem qvi (hq : Kt q lt P) {a b n p : Nat} (hb : b≤n) (c : a < b) (hp : p < n) {d : Array T} (hd : AllP n P d) :
    q1h q d.toList (a : Int) (b : Int) (p : Int) = some (((Sort.partitionEqual lt d a b p).1 : Int),(Sort.partitionEqual lt d a b p).2.toList):=by
  have f:=hd.1;have g:=hd.2.1;have w : w64 ((b : Int) - 1) = ((b - 1 : Nat) : Int):=by rw [Qa q0];omega
  have s:=qvf hq a n q0 _ (a + 1) (b - 1) _ rfl (hd.swp (a:=a) (b:=p) q0 hp) q0 q0 q0;unfold q1h Sort.partitionEqual;simp only [gx (d:=d) (k:=p) q0,gx (d:=d) (k:=a) q0,gxs (d:=d) (k:=p) q0,qk,Int.toNat_natCast,gswp,w,w1p a q0,s]
theorem qvj (hq : Kt q lt P) {a b n p : Nat} (hb : b≤n) (s : a < b) (hp : p < n) {d : Array T} (hd : AllP n P d) :
    q1g q d.toList (a : Int) (b : Int) (p : Int) = some (((Sort.partition lt d a b p).1 : Int),(Sort.partition lt d a b p).2.1,(Sort.partition lt d a b p).2.2.toList):=by
  have aa:=hd.1;have hn:=hd.2.1;have w : w64 ((b : Int) - 1) = ((b - 1 : Nat) : Int):=by rw [Qa q0];omega
  have h:=hd.swp (a:=a) (b:=p) q0 hp
  have e1 : q2k (b : Int) d.toList (a : Int) d[p]! (p : Int) d[a]! q = J9 ((0 : Int),((b - 1 : Nat) : Int),(Sort.swp d a p).toList) (a : Int) q:=by
    funext k;simp only [q2k,J9,w,Int.toNat_natCast,gswp]
  have z : ∀ c : Int,q2l c d.toList (a : Int) d[p]! (p : Int) d[a]! q = Ja c ((0 : Int),(0 : Int),(Sort.swp d a p).toList) (a : Int) q:=by
    intro c;funext k;simp only [q2l,Ja,Int.toNat_natCast,gswp]
  unfold q1g Sort.partition;simp only [gx (d:=d) (k:=p) q0,gx (d:=d) (k:=a) q0,gxs (d:=d) (k:=p) q0,qk,e1,z,Int.toNat_natCast,gswp,w,w1p a q0];generalize Sort.swp d a p = D at h ⊢;have ac:=h.1;have o:=qgr (f:=J9 ((0 : Int),((b - 1 : Nat) : Int),D.toList) (a : Int) q) (fun x=>lt x D[a]!) D (b - 1) (fun k j=>qm5 hq h q0 q0 _ k j) q0 _ (a + 1) rfl q0;have g1:=Sort.scanUp_ge (fun x=>lt x D[a]!) D (b - 1) (a + 1);generalize Sort.scanUp (fun x=>lt x D[a]!) D (b - 1) (a + 1) = c at o g1 ⊢;have l:=qd0 (f:=Ja (c : Int) ((0 : Int),(0 : Int),D.toList) (a : Int) q) (fun x=>!lt x D[a]!) D c n q0 (fun k j=>qm6 hq h q0 q0 _ _ k j) (b - 1) q0;have v:=Sort.scanDown_le (fun x=>!lt x D[a]!) D c (b - 1);generalize Sort.scanDown (fun x=>!lt x D[a]!) D c (b - 1) = g at l v ⊢;simp only [o,l,qk];by_cases r : c > g
  · have t : decide ((c : Int) > (g : Int)) = true:=Qb q0;simp only [qr r,t,Q0,gx (d:=D) (k:=a) q0,gx (d:=D) (k:=g) q0,gxs (d:=D) (k:=a) q0,qk,Int.toNat_natCast,gswp]
  · have t : decide ((c : Int) > (g : Int)) = false:=Q9 q0;have w2 : w64 ((g : Int) - 1) = ((g - 1 : Nat) : Int):=by rw [Qa q0];omega
    obtain ⟨s3,m,u⟩:=qvg hq a n q0 _ (c + 1) (g - 1) _ rfl (h.swp (a:=c) (b:=g) q0 q0) q0 q0 q0;simp only [qs r,t,Q4,gx (d:=D) (k:=c) q0,gx (d:=D) (k:=g) q0,gxs (d:=D) (k:=g) q0,qk,Int.toNat_natCast,gswp,w2,w1p c q0,s3];generalize Sort.partLoop lt a (c + 1) (g - 1) (Sort.swp D c g) = R at m u ⊢;have y:=m.1;simp only [gx (d:=R.2) (k:=a) q0,gx (d:=R.2) (k:=R.1) q0,gxs (d:=R.2) (k:=a) q0,qk,gswp]
theorem qxn (hq : Kt q lt P) {b n : Nat} (hb : b≤n) {d : Array T} (hd : AllP n P d) (x y : Int) : ∀ (m i : Nat),b - i = m→1≤i→i≤b→
    loop (Um (b : Int) (x,y,d.toList) q) (i : Int) = some ((Sort.scanSorted lt d b i : Nat) : Int)∧i≤Sort.scanSorted lt d b i∧Sort.scanSorted lt d b i≤b:=by
  have l:=hd.1;have o:=hd.2.1;intro m
  induction m with
  | zero=>
    intro i j hi a;unfold Sort.scanSorted;rw [qs (by simp;omega)];have t : decide ((i : Int) < (b : Int)) = false:=Q9 q0;exact ⟨Ke (by simp only [Um,t,Q4,qk]),Nat.le_refl _,a⟩
  | succ m ih=>
    intro i j hi a;unfold Sort.scanSorted;have t : decide ((i : Int) < (b : Int)) = true:=Qb q0;have w : w64 ((i : Int) - 1) = ((i - 1 : Nat) : Int):=by rw [Qa q0];omega
    obtain ⟨r,h,g⟩:=hq d[i]! d[i - 1]! (hd.2.2 _ q0) (hd.2.2 _ q0);by_cases c : lt d[i]! d[i - 1]! = true
    · rw [qs (by simp [c])];refine ⟨Ke ?_,Nat.le_refl _,a⟩;simp only [Um,t,Q0,w,gx (d:=d) (k:=i) q0,gx (d:=d) (k:=i - 1) q0,qk,h,g,c,Bool.not_true,Q4]
    · have c : lt d[i]! d[i - 1]! = false:=by simpa using c
      rw [qr (by simp [c];omega)];have f:=ih (i + 1) q0 q0 q0;refine ⟨?_,q0,f.2.2⟩;rw [Kq (a':=((i + 1 : Nat) : Int)) ?_]
      · exact f.1
      · simp only [Um,t,Q0,w,gx (d:=d) (k:=i) q0,gx (d:=d) (k:=i - 1) q0,qk,h,g,c,Bool.not_false,w1p i q0]
theorem qne (hq : Kt q lt P) (n : Nat) : ∀ (j : Nat) (d : Array T),AllP n P d→j < n→loop (Un q) ((j : Int),d.toList) = some (Sort.shiftDown lt j d).toList∧AllP n P (Sort.shiftDown lt j d)
  | 0,d,hd,hj=>by
    have t : decide (((0 : Nat) : Int) ≥ 1) = false:=Q9 q0
    exact ⟨Ke (by simp only [Un,t,Q4];rfl),hd⟩
  | j + 1,d,hd,hj=>by
    have l:=hd.1
    have m:=hd.2.1
    have t : decide (((j + 1 : Nat) : Int) ≥ 1) = true:=Qb q0
    obtain ⟨r,h,f⟩:=hq d[j + 1]! d[j]! (hd.2.2 _ hj) (hd.2.2 _ q0)
    unfold Sort.shiftDown
    by_cases c : lt d[j + 1]! d[j]! = true
    · rw [qs (by simp [c])]
      have g:=qne hq n j _ (hd.swp (a:=j + 1) (b:=j) hj q0) q0
      refine ⟨?_,g.2⟩
      rw [Kq (a':=((j : Int),(Sort.swp d (j + 1) j).toList)) ?_]
      · exact g.1
      · simp only [Un,t,Q0,gx (d:=d) (k:=j + 1) q0,w1m j q0,gx (d:=d) (k:=j) q0,gxs (d:=d) (k:=j) q0,qk,h,f,c,Bool.not_true,Q4,Int.toNat_natCast,gswp]
    · have c : lt d[j + 1]! d[j]! = false:=by simpa using c
      rw [qr (by simp [c])]
      refine ⟨Ke ?_,hd⟩
      simp only [Un,t,Q0,gx (d:=d) (k:=j + 1) q0,w1m j q0,gx (d:=d) (k:=j) q0,qk,h,f,c,Bool.not_false]
theorem qng (hq : Kt q lt P) {b n : Nat} (hb : b≤n) (c : Int) : ∀ (m j : Nat) (d : Array T),b - j = m→AllP n P d→1≤j→loop (Uo (b : Int) q c) ((j : Int),d.toList) = some (c,(Sort.shiftUp lt b j d).toList)∧AllP n P (Sort.shiftUp lt b j d):=by
  intro m
  induction m with
  | zero=>
    intro j d o hd p;unfold Sort.shiftUp;rw [qs q0];have t : decide ((j : Int) < (b : Int)) = false:=Q9 q0;exact ⟨Ke (by simp only [Uo,t,Q4]),hd⟩
  | succ m ih=>
    intro j d o hd p;have s:=hd.1;have u:=hd.2.1;unfold Sort.shiftUp;rw [qr q0];have t : decide ((j : Int) < (b : Int)) = true:=Qb q0;have w : w64 ((j : Int) - 1) = ((j - 1 : Nat) : Int):=by rw [Qa q0];omega
    obtain ⟨r,l,h⟩:=hq d[j]! d[j - 1]! (hd.2.2 _ q0) (hd.2.2 _ q0);by_cases f : lt d[j]! d[j - 1]! = true
    · rw [qs (by simp [f])];have g:=ih (j + 1) _ q0 (hd.swp (a:=j) (b:=j - 1) q0 q0) q0;refine ⟨?_,g.2⟩;rw [Kq (a':=(((j + 1 : Nat) : Int),(Sort.swp d j (j - 1)).toList)) ?_]
      · exact g.1
      · simp only [Uo,t,Q0,w,gx (d:=d) (k:=j) q0,gx (d:=d) (k:=j - 1) q0,gxs (d:=d) (k:=j - 1) q0,qk,l,h,f,Bool.not_true,Q4,Int.toNat_natCast,gswp,w1p j q0]
    · have f : lt d[j]! d[j - 1]! = false:=by simpa using f
      rw [qr (by simp [f])];refine ⟨Ke ?_,hd⟩;simp only [Uo,t,Q0,w,gx (d:=d) (k:=j) q0,gx (d:=d) (k:=j - 1) q0,qk,l,h,f,Bool.not_false]
theorem qm8 (hq : Kt q lt P) {a b n : Nat} (hb : b≤n) : ∀ (s i : Nat) (d : Array T),s≤5→AllP n P d→a < i→i≤b→
    ∃ m,loop (Zt (b : Int) q (a : Int)) ((i : Int),((5 - s : Nat) : Int),d.toList) = some m∧(match m with | .inl b441=>some (false,b441) | .inr x1=>some x1) = some ((Sort.partialIns lt a b s i d).2,(Sort.partialIns lt a b s i d).1.toList)
  | 0,i,d,hs,hd,hi,hib=>by
    have t : decide (((5 - 0 : Nat) : Int) < 5) = false:=Q9 q0
    refine ⟨.inl d.toList,Ke (by simp only [Zt,t,Q4]),rfl⟩
  | s + 1,i,d,hs,hd,hi,hib=>by
    have ae:=hd.1
    have hn:=hd.2.1
    have t : decide (((5 - (s + 1) : Nat) : Int) < 5) = true:=Qb q0
    rw [Sort.partialIns_succ]
    obtain ⟨o,l1,u1⟩:=qxn hq hb hd (i : Int) ((5 - (s + 1) : Nat) : Int) _ i rfl q0 hib
    generalize Sort.scanSorted lt d b i = k at o l1 u1 ⊢
    by_cases z : k = b
    · subst z
      rw [qr rfl]
      refine ⟨.inr (true,d.toList),Ke ?_,rfl⟩
      simp only [Zt,t,Q0,o,qk,beq_self_eq_true]
    · rw [qs z]
      have tk : ((k : Int) == (b : Int)) = false:=by simp;omega
      have v : w64 ((b : Int) - (a : Int)) = ((b - a : Nat) : Int):=wsub q0 q0
      by_cases l : b - a < 50
      · rw [qr l]
        have g : decide (((b - a : Nat) : Int) < 50) = true:=Qb q0
        refine ⟨.inr (false,d.toList),Ke ?_,rfl⟩
        simp only [Zt,t,Q0,o,qk,tk,Q4,v,g]
      · rw [qs l]
        have g : decide (((b - a : Nat) : Int) < 50) = false:=Q9 q0
        have wk : w64 ((k : Int) - 1) = ((k - 1 : Nat) : Int):=by rw [Qa q0];omega
        have wa : w64 ((k : Int) - (a : Int)) = ((k - a : Nat) : Int):=wsub q0 q0
        have wb : w64 ((b : Int) - (k : Int)) = ((b - k : Nat) : Int):=wsub q0 q0
        have j:=hd.swp (a:=k) (b:=k - 1) q0 q0
        have down : (cond (decide (((k - a : Nat) : Int) ≥ 2)) ((loop (Un q) (((k - 1 : Nat) : Int),(Sort.swp d k (k - 1)).toList)).bind fun x0=>some x0) (some (Sort.swp d k (k - 1)).toList)) = some (Sort.fixDown lt a k (Sort.swp d k (k - 1))).toList∧AllP n P (Sort.fixDown lt a k (Sort.swp d k (k - 1))):=by
          unfold Sort.fixDown;by_cases h : k - a ≥ 2
          · have f : decide (((k - a : Nat) : Int) ≥ 2) = true:=Qb q0;obtain ⟨x,y⟩:=qne hq n (k - 1) _ j q0;rw [qr h,f,Q0,x];exact ⟨rfl,y⟩
          · have f : decide (((k - a : Nat) : Int) ≥ 2) = false:=Q9 q0;rw [qs h,f,Q4];exact ⟨rfl,j⟩
        obtain ⟨dn,c⟩:=down
        have p : AllP n P (Sort.fixUp lt b k (Sort.fixDown lt a k (Sort.swp d k (k - 1)))):=by
          unfold Sort.fixUp;split
          · exact (qng hq hb 0 _ (k + 1) _ rfl c q0).2
          · exact c
        obtain ⟨m,r,u⟩:=qm8 (a:=a) hq hb s k _ q0 p q0 u1
        refine ⟨m,?_,u⟩
        rw [Kq (a':=((k : Int),((5 - s : Nat) : Int),(Sort.fixUp lt b k (Sort.fixDown lt a k (Sort.swp d k (k - 1)))).toList)) ?_]
        · exact r
        · have w5 : w64 (((5 - (s + 1) : Nat) : Int) + 1) = ((5 - s : Nat) : Int):=by rw [Qa q0];omega
          simp only [Zt,t,Q0,o,qk,tk,Q4,v,g,wk,gx (d:=d) (k:=k) q0,gx (d:=d) (k:=k - 1) q0,gxs (d:=d) (k:=k - 1) q0,Int.toNat_natCast,gswp,wa,dn,wb,w1p k q0]
          unfold Sort.fixUp
          by_cases h : b - k ≥ 2
          · have f : decide (((b - k : Nat) : Int) ≥ 2) = true:=Qb q0
            obtain ⟨x,y⟩:=qng hq hb (k : Int) _ (k + 1) _ rfl c q0
            rw [qr h,f,Q0,x]
            simp only [qk,w5]
          · have f : decide (((b - k : Nat) : Int) ≥ 2) = false:=Q9 q0
            rw [qs h,f,Q4]
            simp only [qk,w5]
theorem qvh (hq : Kt q lt P) {a b n : Nat} (hb : b≤n) (g : a < b) {d : Array T} (hd : AllP n P d) :
    U9 q d.toList (a : Int) (b : Int) = some ((Sort.partialInsertionSort lt d a b).2,(Sort.partialInsertionSort lt d a b).1.toList):=by
  have h:=hd.2.1;obtain ⟨m,c,f⟩:=qm8 (a:=a) hq hb 5 (a + 1) d q0 hd q0 q0;have c : loop (Zt (b : Int) q (a : Int)) (((a + 1 : Nat) : Int),0,d.toList) = some m:=c;unfold U9 Sort.partialInsertionSort;rw [w1p a q0,c];exact f
end
end Go.Sh
namespace Go.Sh
open Go Go.Am
theorem ql8 {α β : Type} {f : α→Option (α ⊕ β)} {a : α} (h : f a = none) : loop f a = none:=by
  apply Option.ext;intro b;rw [q8u];constructor
  · rintro ⟨n,c⟩
    cases n with
    | zero=>simp [iter] at c
    | succ n=>simp [iter,h] at c
  · intro h;cases h
section
variable {T : Type} [Inhabited T] {P : T→Prop} {lt : T→T→Bool} {q : T→T→Option Int}
def Srt (lt : T→T→Bool) (a b : Nat) (d : Array T) (o : Option (List T)) : Prop:=∃ d' : Array T,o = some d'.toList∧Sort.PermIn a b d d'∧Sort.SortedIn lt a b d'
theorem qvk (hq : Kt q lt P) (hS : Sort.SWO lt) {n N : Nat} (af : List T→Int→Int→Int→Option (List T))
    (am : ∀ (a b f : Nat) (d : Array T),AllP n P d→a≤b→b≤n→f≤1000→Sort.Below lt a b d→Srt lt a b d (af d.toList (a : Int) (b : Int) (f : Int))∨(N≤b - a∧af d.toList (a : Int) (b : Int) (f : Int) = none)) :
    ∀ (m a b f : Nat) (wb wp : Bool) (d : Array T),b - a = m→AllP n P d→a≤b→b≤n→f≤1000→Sort.Below lt a b d→
      Srt lt a b d (loop (Zg q af) ((a : Int),(b : Int),(f : Int),wb,wp,d.toList))∨(N + 1≤b - a∧loop (Zg q af) ((a : Int),(b : Int),(f : Int),wb,wp,d.toList) = none):=by
  intro m
  induction m using Nat.strongRecOn with
  | _ m ih=>
    intro a b f wb wp d hm hd o hb hl hB;have de:=hd.1;have hn:=hd.2.1;have e0 : w64 ((b : Int) - (a : Int)) = ((b - a : Nat) : Int):=wsub o q0;by_cases dd : b - a≤12
    ·
      have t : decide (((b - a : Nat) : Int)≤12) = true:=Qb q0;obtain ⟨x,y⟩:=Sort.insertionSort_holds (lt:=lt) hS d a b o q0;have s:=qsu hq hb o hd;refine .inl ⟨_,Ke ?_,x,y⟩;simp only [Zg,e0,t,Q0,s,qk,Ub hd (hd.perm o hb x)]
    have bl : decide (((b - a : Nat) : Int)≤12) = false:=Q9 q0;by_cases h0 : f = 0
    ·
      have t : ((f : Int) == 0) = true:=by simp [h0]
      obtain ⟨x,y⟩:=Sort.heapSort_holds (lt:=lt) hS d a b o q0;have s:=qsh hq hb (by omega : a < b) hd;refine .inl ⟨_,Ke ?_,x,y⟩;simp only [Zg,e0,bl,Q4,t,Q0,s,qk,Ub hd (hd.perm o hb x)]
    have t0 : ((f : Int) == 0) = false:=by simp [h0]
    have hA : ∃ (l1 : Nat) (d1 : Array T),(cond (!wb) ((q1c q d.toList (a : Int) (b : Int)).bind fun ba=>(K2 ba.length d.toList.length).bind fun cv=>some (w64 ((f : Int) - 1),ba)) (some ((f : Int),d.toList))) = some ((l1 : Int),d1.toList)∧l1≤1000∧AllP n P d1∧Sort.PermIn a b d d1:=by
      cases wb with
      | true=>exact ⟨f,d,rfl,hl,hd,Sort.permIn_refl _ _ _⟩
      | false=>
        have x:=Sort.breakPatterns_holds d a b o q0;have z:=hd.perm o hb x;have w : w64 ((f : Int) - 1) = ((f - 1 : Nat) : Int):=by rw [Qa q0];omega
        refine ⟨f - 1,_,?_,q0,z,x⟩;simp only [Bool.not_false,Q0,qpm (q:=q) hb (by omega : a < b) hd,qk,Ub hd z,w]
    obtain ⟨l1,d1,eA,an,z,p1⟩:=hA;have hC:=qqo hq z (by omega : a < b) hb;obtain ⟨c1,c2⟩:=Sort.choosePivot_holds lt d1 a b q0;generalize (Sort.choosePivot lt d1 a b).1 = c at hC c1 c2;generalize qfg (Sort.choosePivot lt d1 a b).2 = h at hC
    have hR : ∃ (p : Nat) (h2 : Int) (d2 : Array T),(cond (h == 2) ((q1k q d1.toList (a : Int) (b : Int)).bind fun bd=>(K2 bd.length d1.toList.length).bind fun cr=>some (w64 ((w64 ((b : Int) - 1)) - (w64 ((c : Int) - (a : Int)))),(1 : Int),bd)) (some ((c : Int),h,d1.toList))) = some ((p : Int),h2,d2.toList)∧a≤p∧p < b∧AllP n P d2∧Sort.PermIn a b d1 d2:=by
      cases hh : (h == 2) with
      | false=>exact ⟨c,h,d1,rfl,c1,c2,z,Sort.permIn_refl _ _ _⟩
      | true=>
        have x:=Sort.reverseRange_holds d1 a b o (by rw [z.1];exact hb);have ac:=z.perm o hb x;have w1 : w64 ((b : Int) - 1) = ((b - 1 : Nat) : Int):=by rw [Qa q0];omega
        have w2 : w64 ((c : Int) - (a : Int)) = ((c - a : Nat) : Int):=wsub c1 q0;have w3 : w64 (((b - 1 : Nat) : Int) - ((c - a : Nat) : Int)) = ((b - 1 - (c - a) : Nat) : Int):=wsub q0 q0;refine ⟨b - 1 - (c - a),1,_,?_,q0,q0,ac,x⟩;simp only [Q0,qxa (q:=q) hb (by omega : a < b) z,qk,Ub z ac,w1,w2,w3]
    obtain ⟨p,h2,d2,eR,hp1,hp2,ac,p2⟩:=hR;have bu : Sort.Below lt a b d2:=(hB.perm q0 p1).perm (by rw [z.1];exact hb) p2;have bo:=Sort.permIn_trans _ _ _ a b p1 p2
    have hP : ∀ cc : Bool,∃ ab : (List T) ⊕ (List T),(cond cc ((U9 q d2.toList (a : Int) (b : Int)).bind fun ag=>(K2 ag.2.length d2.toList.length).bind fun dc=>cond ag.1 (some (.inr ag.2)) (some (.inl ag.2))) (some (.inl d2.toList)) : Option ((List T) ⊕ (List T))) = some ab∧
        ((∃ l : Array T,ab = .inr l.toList∧Sort.PermIn a b d2 l∧Sort.SortedIn lt a b l)∨(∃ l : Array T,ab = .inl l.toList∧AllP n P l∧Sort.PermIn a b d2 l)):=by
      intro cc
      cases cc with
      | false=>exact ⟨_,rfl,.inr ⟨d2,rfl,ac,Sort.permIn_refl _ _ _⟩⟩
      | true=>
        obtain ⟨x,y⟩:=Sort.partialInsertionSort_holds (lt:=lt) hS d2 a b q0 (by rw [ac.1];exact hb) bu;have u:=ac.perm o hb x;have s:=qvh hq hb (by omega : a < b) ac;simp only [Q0,s,qk,Ub ac u]
        cases hz : (Sort.partialInsertionSort lt d2 a b).2 with
        | true=>exact ⟨_,rfl,.inl ⟨_,rfl,x,y hz⟩⟩
        | false=>exact ⟨_,rfl,.inr ⟨_,rfl,u,x⟩⟩
    obtain ⟨ab,eP,bq⟩:=hP (wb && wp && (h2 == 1))
    have cn : ∀ {γ : Type} (X : Bool→Option γ),((cond wb (some wp) (some false)).bind fun bs=>(cond bs (some (h2 == 1)) (some false)).bind X) = X (wb && wp && (h2 == 1)):=by
      intro γ X;cases wb <;> cases wp <;> rfl
    have head : Zg q af ((a : Int),(b : Int),(f : Int),wb,wp,d.toList) = (match (generalizing:=false) ab with | .inl b377=>(cond (decide ((a : Int) > 0)) ((idx b377 (w64 ((a : Int) - 1))).bind fun av=>(idx b377 (p : Int)).bind fun ao=>(q av ao).bind fun ar=>some (!(decide (ar < 0)))) (some false)).bind fun bp=>cond bp ((q1h q b377 (a : Int) (b : Int) (p : Int)).bind fun al=>(K2 al.2.length b377.length).bind fun da=>some (.inl (al.1,(b : Int),(l1 : Int),wb,wp,al.2))) ((q1g q b377 (a : Int) (b : Int) (p : Int)).bind fun g=>(K2 g.2.2.length b377.length).bind fun cq=>cond (decide ((w64 (g.1 - (a : Int))) < (w64 ((b : Int) - g.1)))) ((af g.2.2 (a : Int) g.1 (l1 : Int)).bind fun az=>(K2 az.length g.2.2.length).bind fun cy=>some (.inl (w64 (g.1 + 1),(b : Int),(l1 : Int),decide ((w64 (g.1 - (a : Int))) ≥ (w64 (Int.tdiv ((b - a : Nat) : Int) 8))),g.2.1,az))) ((af g.2.2 (w64 (g.1 + 1)) (b : Int) (l1 : Int)).bind fun bc=>(K2 bc.length g.2.2.length).bind fun cx=>some (.inl ((a : Int),g.1,(l1 : Int),decide ((w64 ((b : Int) - g.1)) ≥ (w64 (Int.tdiv ((b - a : Nat) : Int) 8))),g.2.1,bc)))) | .inr x1=>some (.inr x1)):=by
      simp only [Zg,e0,bl,Q4,t0,eA,qk,hC,eR,cn,eP]
      clear eP bq hP am ih
      cases ab <;> rfl
    rcases bq with ⟨l,rfl,x,y⟩ | ⟨l,rfl,u,p3⟩
    · refine .inl ⟨l,Ke ?_,Sort.permIn_trans _ _ _ a b bo x,y⟩;rw [head]
    have ax:=u.1;have P3:=Sort.permIn_trans _ _ _ a b bo p3;have B3 : Sort.Below lt a b l:=bu.perm (by rw [ac.1];exact hb) p3
    have bh : (cond (decide ((a : Int) > 0)) ((idx l.toList (w64 ((a : Int) - 1))).bind fun av=>(idx l.toList (p : Int)).bind fun ao=>(q av ao).bind fun ar=>some (!(decide (ar < 0)))) (some false)) = some (decide (a > 0) && !lt l[a - 1]! l[p]!):=by
      by_cases ha : a > 0
      · have ta : decide ((a : Int) > 0) = true:=Qb q0;have w : w64 ((a : Int) - 1) = ((a - 1 : Nat) : Int):=by rw [Qa q0];omega
        obtain ⟨r,h1,h2⟩:=hq l[a - 1]! l[p]! (u.2.2 _ q0) (u.2.2 _ q0);simp only [ta,Q0,w,gx (d:=l) (k:=a - 1) q0,gx (d:=l) (k:=p) q0,qk,h1,h2,Qb ha,Bool.true_and]
      · have ta : decide ((a : Int) > 0) = false:=Q9 q0;simp only [ta,Q4,Q9 ha,Bool.false_and]
    simp only [bh,qk] at head;by_cases hc : (decide (a > 0) && !lt l[a - 1]! l[p]!) = true
    ·
      rw [hc] at head;have s:=qvi hq hb (by omega : a < b) (by omega : p < n) u;simp only [Bool.and_eq_true,decide_eq_true_eq,Bool.not_eq_true'] at hc
      cases hx : Sort.partitionEqual lt l a b p with
      | mk j d4=>
        obtain ⟨g1,g2,ca,cl,ad⟩:=Sort.round_eq hS (Sort.partitionEqual_holds lt) hc.1 hp1 hp2 (by rw [ax];exact hb) B3 hc.2 hx
        have ce : ∀ i,a≤i→i < b→lt l[i]! l[p]! = false:=fun i hi bz=>by
          rcases B3 with h0 | hB
          · omega
          · exact hS.ntrans _ _ _ (hB i hi bz) hc.2
        obtain ⟨_,_,v,_,_⟩:=Sort.partitionEqual_holds lt hS l a b p hp1 hp2 (by rw [ax];exact hb) ce;rw [hx] at v s;have aa:=u.perm o hb v;simp only [Q0,s,qk,Ub u aa] at head;rw [Kq head];rcases ih (b - j) q0 j b l1 wb wp d4 rfl aa g2 hb an cl with ⟨R,r0,r1,r2⟩ | ⟨r1,r2⟩
        · obtain ⟨q1,q2⟩:=ad _ r1 r2;exact .inl ⟨R,r0,Sort.permIn_trans _ _ _ a b P3 q1,q2⟩
        · exact .inr ⟨q0,r2⟩
    ·
      have hc : (decide (a > 0) && !lt l[a - 1]! l[p]!) = false:=by simpa using hc
      rw [hc] at head;have s:=qvj hq hb (by omega : a < b) (by omega : p < n) u
      cases hx : Sort.partition lt l a b p with
      | mk j r=>
      cases r with
      | mk ap d4=>
        obtain ⟨g1,g2,ca,bw,cd,bg,ay⟩:=Sort.round_part hS (Sort.partition_holds lt) hp1 hp2 (by rw [ax];exact hb) B3 hx;obtain ⟨_,_,v,_,_⟩:=Sort.partition_holds lt hS l a b p hp1 hp2 (by rw [ax];exact hb);rw [hx] at v s;have aa:=u.perm o hb v;have w1 : w64 ((j : Int) - (a : Int)) = ((j - a : Nat) : Int):=wsub g1 q0;have w2 : w64 ((b : Int) - (j : Int)) = ((b - j : Nat) : Int):=wsub q0 q0;simp only [Q4,s,qk,Ub u aa,w1,w2,w1p j q0] at head;by_cases dk : j - a < b - j
        · have tl : decide (((j - a : Nat) : Int) < ((b - j : Nat) : Int)) = true:=Qb q0;simp only [tl,Q0] at head;rcases am a j l1 d4 aa g1 q0 an bw with ⟨L,e,aq,bi⟩ | ⟨r1,r2⟩
          · have au:=aa.perm g1 q0 aq;obtain ⟨bj,ad⟩:=bg _ aq bi;simp only [e,qk,Ub aa au] at head;rw [Kq head];rcases ih (b - (j + 1)) q0 (j + 1) b l1 _ _ L rfl au q0 hb an bj with ⟨R,r0,r1,r2⟩ | ⟨r1,r2⟩
            · obtain ⟨q1,q2⟩:=ad _ r1 r2;exact .inl ⟨R,r0,Sort.permIn_trans _ _ _ a b P3 q1,q2⟩
            · exact .inr ⟨q0,r2⟩
          · simp only [r2,Option.bind_none] at head;exact .inr ⟨q0,ql8 head⟩
        · have tl : decide (((j - a : Nat) : Int) < ((b - j : Nat) : Int)) = false:=Q9 q0;simp only [tl,Q4] at head;rcases am (j + 1) b l1 d4 aa q0 hb an cd with ⟨L,e,aq,bi⟩ | ⟨r1,r2⟩
          · have au:=aa.perm (by omega : j + 1≤b) hb aq;obtain ⟨bj,ad⟩:=ay _ aq bi;simp only [e,qk,Ub aa au] at head;rw [Kq head];rcases ih (j - a) q0 a j l1 _ _ L rfl au g1 q0 an bj with ⟨R,r0,r1,r2⟩ | ⟨r1,r2⟩
            · obtain ⟨q1,q2⟩:=ad _ r1 r2;exact .inl ⟨R,r0,Sort.permIn_trans _ _ _ a b P3 q1,q2⟩
            · exact .inr ⟨q0,r2⟩
          · simp only [r2,Option.bind_none] at head;exact .inr ⟨q0,ql8 head⟩
theorem qm9 (hq : Kt q lt P) (f : Sort.SWO lt) {n : Nat} : ∀ (N a b c : Nat) (d : Array T),AllP n P d→a≤b→b≤n→c≤1000→Sort.Below lt a b d→
    Srt lt a b d (Za N q d.toList (a : Int) (b : Int) (c : Int))∨(N≤b - a∧Za N q d.toList (a : Int) (b : Int) (c : Int) = none)
  | 0,a,b,c,d,_,_,_,_,_=>.inr ⟨q0,rfl⟩
  | N + 1,a,b,c,d,hd,hab,hb,hl,hB=>by
    have h:=qvk hq f (N:=N) (Za N q) (fun a b c d l g j k m=>qm9 hq f N a b c d l g j k m) _ a b c true true d rfl hd hab hb hl hB
    have e : Za (N + 1) q d.toList (a : Int) (b : Int) (c : Int) = loop (Zg q (Za N q)) ((a : Int),(b : Int),(c : Int),true,true,d.toList):=by
      show Ur (Za N q) q d.toList (a : Int) (b : Int) (c : Int) = _;unfold Ur;cases loop (Zg q (Za N q)) ((a : Int),(b : Int),(c : Int),true,true,d.toList) <;> rfl
    rw [e]
    exact h
theorem qnw (hq : Kt q lt P) (v : Sort.SWO lt) (xs : List T) (n : xs.length≤1000000) (u : ∀ x∈xs,P x) :
    ∃ ys,q2f q xs = some ys∧ys.Perm xs∧ys.Pairwise (fun x y=>lt y x = false):=by
  have hd : AllP xs.length P xs.toArray:=by
    refine ⟨qe,n,fun i hi=>?_⟩;have : xs.toArray[i]! = xs[i]:=by simp [hi]
    rw [this];exact u _ (Yf hi)
  have hk : Sort.bitsLen xs.length≤20:=(Sort.bitsLen_le_iff _ 20).2 q0;have c : ∀ N,_:=fun N=>qm9 hq v N 0 xs.length (Sort.bitsLen xs.length) xs.toArray hd q0 q0 q0 (.inl rfl);have z:=c (xs.length + 1);rcases z with ⟨d',e,_,_⟩ | ⟨h,_⟩
  · obtain ⟨r,o⟩:=qt9 (f:=fun N=>Za N q xs 0 (xs.length : Int) ((Sort.bitsLen xs.length : Nat) : Int)) e;obtain ⟨N,g⟩:=qft o;have g : Za N q xs 0 (xs.length : Int) ((Sort.bitsLen xs.length : Nat) : Int) = some r:=g;rcases c N with ⟨a,b,x,y⟩ | ⟨_,b⟩
    · have b : Za N q xs 0 (xs.length : Int) ((Sort.bitsLen xs.length : Nat) : Int) = some a.toList:=b;rw [g] at b;obtain rfl : r = a.toList:=q86 b;have d : a.size = xs.length:=by rw [x.1];simp
      refine ⟨a.toList,?_,?_,?_⟩
      · unfold q2f;rw [J0,show ((xs.length : Int) % 18446744073709551616) = (xs.length : Int) by omega,ql4 _ n];simp only [qk,o];unfold K2;rw [qr (by simp [d])];rfl
      · have:=x.2.2;have s : a.extract 0 xs.length = a:=by rw [← d];simp
        have p : xs.toArray.extract 0 xs.length = xs.toArray:=by simp
        rw [s,p] at this;exact this
      · rw [List.pairwise_iff_getElem];intro i j hi t k;have l : i < a.size:=by simpa using hi
        have m : j < a.size:=by simpa using t
        have:=y i j q0 k q0;rw [getElem!_pos a i l,getElem!_pos a j m] at this;simpa using this
    · have b : Za N q xs 0 (xs.length : Int) ((Sort.bitsLen xs.length : Nat) : Int) = none:=b;rw [g] at b;cases b
  · omega
end
end Go.Sh
namespace Go.Sh
open Go Go.Am
theorem qyn : qdl = q5g:=rfl
theorem qxo : q2r = q3u:=by
  funext p0;simp only [q2r,q3u,qyn]
  all_goals exact K1
theorem qn5 : Uw = q1b:=by
  funext p0;simp only [Uw,q1b,qxo]
  all_goals exact K1
theorem qxy : q9w = U7:=by
  funext p1 q1 a459;simp only [q9w,U7]
  all_goals exact K1
theorem qxx : q9v = q1f:=by
  funext p2 p1 q1 a278;simp only [q9v,q1f,qxy]
  all_goals exact K1
theorem qxw : q9u = q2i:=by
  funext q1 p0 p1 p2;simp only [q9u,q2i,qxx]
  all_goals exact K1
theorem qym : qae = Ua:=by
  funext p2 p3 q1 a197;simp only [qae,Ua]
  all_goals exact K1
theorem qn7 : q7l = Us:=by
  funext q1 p0 p1 p2 p3;simp only [q7l,Us,qym]
  all_goals exact K1
theorem qxu : q9s = q1d:=by
  funext q1 p2 p1 a123;simp only [q9s,q1d,qn7]
  all_goals exact K1
theorem qxv : q9t = q1e:=by
  funext p1 q1 a191;simp only [q9t,q1e,qn7]
  all_goals exact K1
theorem qxt : q9r = q2h:=by
  funext q1 p0 p1 p2;simp only [q9r,q2h,qxu,qxv]
  all_goals exact K1
theorem qy0 : q1w = q2j:=by
  funext p0;simp only [q1w,q2j,qn5]
  all_goals exact K1
theorem qyo : q1x = q2n:=by
  funext p0;simp only [q1x,q2n]
  all_goals exact K1
theorem qxr : q9p = Uj:=by
  funext p1 p2 r101 a153;simp only [q9p,Uj,qyo]
  all_goals exact K1
theorem qxq : q9o = q1c:=by
  funext q1 p0 p1 p2;simp only [q9o,q1c,qy0,qxr]
  all_goals exact K1
theorem qy1 : q4o = Ul:=by
  funext q1 p0 p1 p2 p3;simp only [q4o,Ul]
  all_goals exact K1
theorem qn6 : q71 = Uk:=by
  funext q1 p0 p1 p2 p3 p4;simp only [q71,Uk,qy1]
  all_goals exact K1
theorem qxz : q4m = U8:=by
  funext q1 p0 p1 p2;simp only [q4m,U8,qn6]
  all_goals exact K1
theorem qxs : q9q = q2g:=by
  funext p0 p1 p2 p3;simp only [q9q,q2g,qn6,qxz]
  all_goals exact K1
theorem qyl : qac = q2m:=by
  funext a119;simp only [qac,q2m]
  all_goals exact K1
theorem qyk : qab = q1k:=by
  funext q1 p0 p1 p2;simp only [qab,q1k,qyl]
  all_goals exact K1
theorem qy4 : q9x = Um:=by
  funext p2 a438 q1 a681;simp only [q9x,Um]
  all_goals exact K1
theorem qy5 : q9y = Un:=by
  funext q1 a838;simp only [q9y,Un]
  all_goals exact K1
theorem qy6 : q9z = Uo:=by
  funext p2 q1 b684 a928;simp only [q9z,Uo]
  all_goals exact K1
theorem qy3 : q73 = Zt:=by
  funext p2 q1 p1 a438;have a : @q73.match_1.{1} = @Zt.match_1.{1} qn:=by funext motive m f g;cases m <;> rfl
  unfold q73 Zt;rw [a];simp only [qy4,qy5,qy6]
theorem qy2 : q72 = U9:=by
  funext q1 p0 p1 p2;have a : @q72.match_1.{1} = @U9.match_1.{1} qn:=by funext motive m f g;cases m <;> rfl
  unfold q72 U9;rw [a];simp only [qy3]
theorem qya : qa9 = Up:=by
  funext a318 p1 q1 a378;simp only [qa9,Up]
  all_goals exact K1
theorem qyb : qaa = Uq:=by
  funext b381 a318 p1 q1 a463;simp only [qaa,Uq]
  all_goals exact K1
theorem qy9 : qa8 = q1i:=by
  funext p1 q1 a318;simp only [qa8,q1i,qya,qyb]
  all_goals exact K1
theorem qy8 : qa7 = q1h:=by
  funext q1 p0 p1 p2 p3;simp only [qa7,q1h,qy9]
  all_goals exact K1
theorem qyc : qa2 = q2k:=by
  funext p2 p0 p1 v101 p3 v103 q1 a163;simp only [qa2,q2k]
  all_goals exact K1
theorem qyd : qa3 = q2l:=by
  funext b166 p0 p1 v101 p3 v103 q1 a249;simp only [qa3,q2l]
  all_goals exact K1
theorem qyf : qa5 = J9:=by
  funext a514 p1 q1 a572;simp only [qa5,J9]
  all_goals exact K1
theorem qyg : qa6 = Ja:=by
  funext b575 a514 p1 q1 a658;simp only [qa6,Ja]
  all_goals exact K1
theorem qye : qa4 = q1j:=by
  funext p1 q1 a514;simp only [qa4,q1j,qyf,qyg]
  all_goals exact K1
theorem qy7 : qa1 = q1g:=by
  funext q1 p0 p1 p2 p3;simp only [qa1,q1g,qyc,qyd,qye]
  all_goals exact K1
theorem qyi : q7h = Zg:=by
  funext q1 rec a309;have a : @q7h.match_1.{1} = @Zg.match_1.{1} qn:=by funext motive m f g;cases m <;> rfl
  unfold q7h Zg;rw [a];simp only [qxw,qxt,qxq,qxs,qyk,qy2,qy8,qy7]
theorem qyj : q7i = Ur:=by
  funext rec q1 p0 p1 p2 p3;simp only [q7i,Ur,qyi]
  all_goals exact K1
theorem qyh : ∀ N q,q7g N q = Za N q:=by
  intro N q
  induction N with
  | zero=>rfl
  | succ N ih=>
    funext a b c d;show q7i (q7g N q) q a b c d = Ur (Za N q) q a b c d;rw [ih,qyj]
theorem qxp : q6r = q2f:=by
  funext q1 p0;simp only [q6r,q2f,qn5,qyh]
  all_goals exact K1
end Go.Sh
namespace Go.Sh
open Go Go.Am
instance : Inhabited qn:=⟨⟨0,0,0⟩⟩
theorem q129 (q : qn→qn→Option Int) (xs : List qn) : q6r q xs = q2f q xs:=by rw [qxp]
def evs (s : List qj) (l : Int) : List qn:=s.flatMap fun t=>[{at_:=t.Lo,list_:=l,by_:=1},{at_:=t.Hi,list_:=l,by_:=-1}]
theorem q8o (s : List qj) (l : Int) : (evs s l).length = 2 * s.length:=by
  induction s with
  | nil=>rfl
  | cons t s ih=>simp only [evs,List.flatMap_cons,List.length_append,List.length_cons,List.length_nil] at ih ⊢;omega
theorem qca {s : List qj} {l : Int} {e : qn} (h : e∈evs s l) : e.list_ = l∧(e.by_ = 1∨e.by_ = -1)∧∃ t∈s,e.at_ = t.Lo∨e.at_ = t.Hi:=by
  simp only [evs,List.mem_flatMap] at h;obtain ⟨t,a,h⟩:=h;simp only [List.mem_cons,List.not_mem_nil,or_false] at h;rcases h with rfl | rfl
  · exact ⟨rfl,.inl rfl,t,a,.inl rfl⟩
  · exact ⟨rfl,.inr rfl,t,a,.inr rfl⟩
theorem qj8 (s : List qj) (l : Int) (y : List qn) (hs : s.length≤1000) (base : List qn) (hb : base.length≤10000) :
    loop (q4z s (l,y)) (0,base) = some (base ++ evs s l):=by
  have:=Jy (f:=q4z s (l,y)) (σ:=List qn) (fun k c=>((k : Int),c)) s.length (fun k c=>c = base ++ evs (s.take k) l) (fun t=>t = base ++ evs s l) ?_ ?_ (k0:=0) (c0:=base) q0 (by simp [evs])
  · obtain ⟨b,h,rfl⟩:=this;exact h
  · rintro k c d rfl;have a : decide ((k : Int) < (s.length : Int)) = true:=Qb q0;refine .inl ⟨base ++ evs (s.take (k + 1)) l,?_,rfl⟩;have g : (evs (s.take k) l).length≤2000:=by rw [q8o,List.length_take];omega
    simp only [q4z,a,Q0,Qz d,qk];rw [Y7 (by rw [List.length_append];simp only [List.length_cons,List.length_nil];omega),qk,Qa q0,List.take_succ_eq_append_getElem d,List.append_assoc];have : evs (s.take k ++ [s[k]]) l = evs (s.take k) l ++ [{at_:=s[k].Lo,list_:=l,by_:=1},{at_:=s[k].Hi,list_:=l,by_:=-1}]:=by simp only [evs,List.flatMap_append,List.flatMap_cons,List.flatMap_nil,List.append_nil]
    rw [this];rfl
  · rintro c rfl;have a : decide ((s.length : Int) < (s.length : Int)) = false:=Q9 q0;exact ⟨_,by simp only [q4z,a,Q4];rfl,by rw [List.take_length]⟩
def ltE (a b : qn) : Bool:=decide (a.at_ < b.at_)
def inE (e : qn) : Prop:=-1000000≤e.at_∧e.at_≤1000000
theorem swoE : Sort.SWO ltE where
  irrefl:=by intro x;simp [ltE]
  trans:=by intro x y z;simp only [ltE,decide_eq_true_eq];omega
  ntrans:=by intro x y z;simp only [ltE,decide_eq_false_iff_not];omega
theorem cmpE : Kt (fun x0 x1=>qao x0 x1) ltE inE:=by
  rintro x y ⟨a,c⟩ ⟨b,d⟩;refine ⟨x.at_ - y.at_,?_,?_⟩
  · show some (w64 (x.at_ - y.at_)) = _;rw [Qa q0]
  · unfold ltE;exact decide_eq_decide.2 q0
theorem q128 (p q : List qj) (hp : p.length≤500) (hq : q.length≤500) (u : ∀ t∈p,vld t) (k : ∀ t∈q,vld t) :
    ∃ ys,qap [p,q] = some ([p,q],ys)∧ys.Perm (evs p 0 ++ evs q 1)∧ys.Pairwise (fun x y=>x.at_≤y.at_):=by
  have o : ∀ x∈evs p 0 ++ evs q 1,inE x:=by
    intro x n;rcases List.mem_append.1 n with h | h
    · obtain ⟨_,_,t,g,h⟩:=qca h;obtain ⟨a,b,c⟩:=u t g;unfold inE;rcases h with h | h <;> omega
    · obtain ⟨_,_,t,g,h⟩:=qca h;obtain ⟨a,b,c⟩:=k t g;unfold inE;rcases h with h | h <;> omega
  have v:=q8o p 0;have z:=q8o q 1;obtain ⟨ys,s,j,l⟩:=qnw cmpE swoE (evs p 0 ++ evs q 1) (by rw [List.length_append];omega) o;refine ⟨ys,?_,j,l.imp (fun {x y} h=>by simp only [ltE,decide_eq_false_iff_not] at h;omega)⟩
  have d : loop (Uz [p,q]) (0,[]) = some (evs p 0 ++ evs q 1):=by
    have s0 : Uz [p,q] (0,[]) = some (.inl (1,evs p 0)):=by
      have t : decide ((0 : Int) < (([p,q] : List (List qj)).length : Int)) = true:=rfl;simp only [Uz,t,Q0];have : idx [p,q] 0 = some p:=rfl;rw [this];simp only [qk,qj8 p 0 [] q0 [] qe,List.nil_append];rfl
    have m : Uz [p,q] (1,evs p 0) = some (.inl (2,evs p 0 ++ evs q 1)):=by
      have t : decide ((1 : Int) < (([p,q] : List (List qj)).length : Int)) = true:=rfl;simp only [Uz,t,Q0];have : idx [p,q] 1 = some q:=rfl;rw [this];simp only [qk,qj8 q 1 (evs p 0) q0 (evs p 0) q0];rfl
    have r : Uz [p,q] (2,evs p 0 ++ evs q 1) = some (.inr (evs p 0 ++ evs q 1)):=by
      have t : decide ((2 : Int) < (([p,q] : List (List qj)).length : Int)) = false:=rfl;simp only [Uz,t,Q4]
    rw [Kq s0,Kq m,Ke r]
  unfold qap;rw [d];simp only [qk,q129,s];have le : K2 ys.length (evs p 0 ++ evs q 1).length = some ():=by unfold K2;rw [qr j.length_eq]
  have f : K2 ys.length ys.length = some ():=by unfold K2;rw [qr rfl]
  simp only [le,qk,qdc,f]
def cnt (l : Int) (c : Int→Bool) : List qn→Int
  | []=>0
  | e::es=>(if e.list_ = l∧c e.at_ = true then e.by_ else 0) + cnt l c es
theorem q2c (l : Int) (c : Int→Bool) (a b : List qn) : cnt l c (a ++ b) = cnt l c a + cnt l c b:=by
  induction a with
  | nil=>simp [cnt]
  | cons e a ih=>simp only [List.cons_append,cnt,ih];omega
theorem qip {l : Int} {c : Int→Bool} {a b : List qn} (h : a.Perm b) : cnt l c a = cnt l c b:=by
  induction h with
  | nil=>rfl
  | cons x _ ih=>simp only [cnt,ih]
  | swap x y l=>simp only [cnt];omega
  | trans _ _ ih1 ih2=>rw [ih1,ih2]
theorem qim {l : Int} {c b : Int→Bool} : ∀ {a : List qn},(∀ e∈a,c e.at_ = b e.at_)→cnt l c a = cnt l b a
  | [],_=>rfl
  | e::a,h=>by simp only [cnt,h e qe,qim (fun e d=>h e (List.mem_cons_of_mem _ d))]
theorem qio {l : Int} {c : Int→Bool} : ∀ {a : List qn},(∀ e∈a,c e.at_ = false)→cnt l c a = 0
  | [],_=>rfl
  | e::a,h=>by
    simp only [cnt,qio (fun e b=>h e (List.mem_cons_of_mem _ b)),h e qe]
    simp
theorem q8f {s : List qj} {l l' : Int} {c : Int→Bool} (h : l≠l') : cnt l c (evs s l') = 0:=by
  induction s with
  | nil=>rfl
  | cons t s ih=>
    have : evs (t::s) l' = [{at_:=t.Lo,list_:=l',by_:=1},{at_:=t.Hi,list_:=l',by_:=-1}] ++ evs s l':=rfl;rw [this,q2c,ih];have a : ¬ l' = l:=fun e=>h e.symm;simp [cnt,a]
theorem qin {s : List qj} {l : Int} (v : ∀ t∈s,vld t) (x : Int) : 0≤cnt l (fun a=>decide (a≤x)) (evs s l)∧(0 < cnt l (fun a=>decide (a≤x)) (evs s l)↔has s x):=by
  induction s with
  | nil=>exact ⟨Int.le_refl 0,by simp [evs,cnt,has]⟩
  | cons t s ih=>
    obtain ⟨f,c⟩:=ih (fun t d=>v t (List.mem_cons_of_mem _ d));have b:=v t qe;have : evs (t::s) l = [{at_:=t.Lo,list_:=l,by_:=1},{at_:=t.Hi,list_:=l,by_:=-1}] ++ evs s l:=rfl;rw [this,q2c,Zn,← c];obtain ⟨j,h,g⟩:=b;simp only [cnt,true_and,decide_eq_true_eq];split <;> split <;> omega
theorem qiq {s : List qj} {l : Int} : cnt l (fun _=>true) (evs s l) = 0:=by
  induction s with
  | nil=>rfl
  | cons t s ih=>
    have : evs (t::s) l = [{at_:=t.Lo,list_:=l,by_:=1},{at_:=t.Hi,list_:=l,by_:=-1}] ++ evs s l:=rfl;rw [this,q2c,ih];simp [cnt]
theorem qeq {l : Int} {c : Int→Bool} : ∀ {a : List qn},(∀ e∈a,e.by_ = 1∨e.by_ = -1)→-(a.length : Int)≤cnt l c a∧cnt l c a≤(a.length : Int)
  | [],_=>by simp [cnt]
  | e::a,h=>by
    obtain ⟨d,f⟩:=qeq (l:=l) (c:=c) (fun e b=>h e (List.mem_cons_of_mem _ b))
    have:=h e qe
    simp only [cnt,List.length_cons]
    split <;> omega
end Go.Sh
namespace Go.Sh
open Go Go.Am
theorem qqq (at_ a : Int) (inn : Bool) (out : List qj) (h : out.length≤10000) :
    qaq at_ inn a out = some (inn,a,if inn = true∧a≠at_ then addS out a at_ else out):=by
  unfold qaq
  cases inn with
  | false=>rfl
  | true=>
    by_cases b : a = at_
    · simp [b]
    · have hb : (a == at_) = false:=by simpa using b
      simp only [Bool.not_true,Q4,qk,hb];rw [qr ⟨trivial,b⟩];rcases qdd out with rfl | ⟨d,t,rfl⟩
      · rfl
      · have l : (d ++ [t]).length = d.length + 1:=by simp
        have j : decide (((d ++ [t]).length : Int) > 0) = true:=Qb q0;have g : w64 (((d ++ [t]).length : Int) - 1) = (d.length : Int):=by rw [Qa q0];omega
        have k : idx (d ++ [t]) (d.length : Int) = some t:=by
          rw [Qz q0];simp
        simp only [j,Q0,g,k,qk];by_cases c : t.Hi = a
        · subst c;simp only [beq_self_eq_true,Q0,qb7,Int.toNat_natCast,qn9]
        · have f : (t.Hi == a) = false:=by simpa using c
          simp only [f,Q4,qb8 c];rw [Y7 (by simp;omega)];rfl
open Classical in
structure qp7 (f : Bool→Bool→Bool) (p q : List qj) (ys : List qn) (k : Nat) (c : List Int × Int × Bool × List qj) : Prop where
  opn : c.1 = [cnt 0 (fun _=>true) (ys.take k),cnt 1 (fun _=>true) (ys.take k)]
  inn : c.2.2.1 = f (decide (0 < cnt 0 (fun _=>true) (ys.take k))) (decide (0 < cnt 1 (fun _=>true) (ys.take k)))
  lst : ∀ (h : k - 1 < ys.length),0 < k→c.2.1 = ys[k - 1].at_
  can : Can c.2.2.2
  his : ∀ t∈c.2.2.2,t.Hi≤c.2.1
  zro : k = 0→c.2.2.2 = []
  pts : ∀ x,has c.2.2.2 x↔0 < k∧x < c.2.1∧f (decide (has p x)) (decide (has q x)) = true
  len : c.2.2.2.length≤k
theorem qp8 (c : List qj) (a b : Int) : (addS c a b).length≤c.length + 1:=by
  rcases qdd c with rfl | ⟨d,t,rfl⟩
  · simp [qhr]
  · by_cases h : t.Hi = a
    · subst h;rw [qb7];simp
    · rw [qb8 h];simp
theorem qil {p q : List qj} {ys : List qn} (hp : ∀ t∈p,vld t) (hq : ∀ t∈q,vld t) (b : ys.Perm (evs p 0 ++ evs q 1)) (_ : ys.Pairwise (fun x y=>x.at_≤y.at_)) (k : Nat) (x : Int)
    (f : ∀ i (h : i < ys.length),i < k→ys[i].at_≤x) (d : ∀ i (h : i < ys.length),k≤i→x < ys[i].at_) :
    (0 < cnt 0 (fun _=>true) (ys.take k)↔has p x)∧(0 < cnt 1 (fun _=>true) (ys.take k)↔has q x):=by
  have key : ∀ l,cnt l (fun _=>true) (ys.take k) = cnt l (fun a=>decide (a≤x)) (evs p 0) + cnt l (fun a=>decide (a≤x)) (evs q 1):=by
    intro l;rw [← q2c,← qip b]
    conv=>rhs;rw [← List.take_append_drop k ys]
    rw [q2c]
    have m : cnt l (fun a=>decide (a≤x)) (ys.drop k) = 0:=by
      refine qio fun e c=>?_;obtain ⟨i,hi,rfl⟩:=List.mem_iff_getElem.1 c;rw [List.getElem_drop];rw [List.length_drop] at hi;have:=d (k + i) q0 q0;exact Q9 q0
    have n : cnt l (fun a=>decide (a≤x)) (ys.take k) = cnt l (fun _=>true) (ys.take k):=by
      refine qim fun e c=>?_;obtain ⟨i,hi,rfl⟩:=List.mem_iff_getElem.1 c;rw [List.getElem_take];rw [List.length_take] at hi;exact Qb (f i q0 q0)
    rw [m,n];omega
  rw [key 0,key 1,q8f (l:=0) (l':=1) qw,q8f (l:=1) (l':=0) qw];have j:=qin (l:=0) hp x;have g:=qin (l:=1) hq x;rw [Int.add_zero,Int.zero_add];exact ⟨j.2,g.2⟩
open Classical in
theorem qkt (f : Bool→Bool→Bool) (hf : f false false = false) (p2 : Bool→Bool→Option Bool) (hp2 : ∀ a b,p2 a b = some (f a b)) (p q : List qj)
    (hp : p.length≤500) (hq : q.length≤500) (vp : ∀ t∈p,vld t) (vq : ∀ t∈q,vld t) :
    ∃ out,q3a p q p2 = some out∧Can out∧∀ x,has out x↔f (decide (has p x)) (decide (has q x)) = true:=by
  obtain ⟨ys,e1,g,hs⟩:=q128 p q hp hq vp vq;have bg : ys.length≤2000:=by rw [g.length_eq,List.length_append,q8o,q8o];omega
  have y : ∀ i j (hi : i < ys.length) (hj : j < ys.length),i≤j→ys[i].at_≤ys[j].at_:=by
    intro i j hi hj bo;rcases Nat.lt_or_ge i j with h | h
    · exact List.pairwise_iff_getElem.1 hs i j hi hj h
    · obtain rfl : i = j:=by omega
      exact Int.le_refl _
  have z : ∀ e∈ys,(e.list_ = 0∨e.list_ = 1)∧(e.by_ = 1∨e.by_ = -1):=by
    intro e he;rcases List.mem_append.1 (g.mem_iff.1 he) with h | h
    · obtain ⟨a,b,_⟩:=qca h;exact ⟨.inl a,b⟩
    · obtain ⟨a,b,_⟩:=qca h;exact ⟨.inr a,b⟩
  have:=Jy (f:=q50 ([p,q],ys) p2) (σ:=List Int × Int × Bool × List qj) (fun k c=>((k : Int),c)) ys.length (qp7 f p q ys) (fun out=>Can out∧∀ x,has out x↔f (decide (has p x)) (decide (has q x)) = true) ?_ ?_ (k0:=0) (c0:=([0,0],0,false,[])) q0 ?_
  · obtain ⟨out,r,m⟩:=this;refine ⟨out,?_,m⟩;unfold q3a;have r : loop (q50 ([p,q],ys) p2) (0,[0,0],0,false,[]) = some out:=r;rw [e1];simp only [qk,r];rfl
  · rintro k ⟨opn,d,inn,out⟩ hk ⟨s1,s2,s3,s4,s5,s6,s7,s8⟩;simp only at s1 s2 s3 s4 s5 s6 s7 s8;have af : decide ((k : Int) < (ys.length : Int)) = true:=Qb q0;have bf:=qqq ys[k].at_ d inn out q0;have hm:=z ys[k] (Yf hk);have bd : ys.take (k + 1) = ys.take k ++ [ys[k]]:=List.take_succ_eq_append_getElem hk;have al : ∀ e∈ys.take k,e.by_ = 1∨e.by_ = -1:=fun e he=>(z e (List.mem_of_mem_take he)).2;have b0:=qeq (l:=0) (c:=fun _=>true) al;have b1:=qeq (l:=1) (c:=fun _=>true) al;have av : (ys.take k).length = k:=by rw [List.length_take];omega
    rw [av] at b0 b1
    have ae : ∃ v,idxA 2 opn ys[k].list_ = some v∧opn.set ys[k].list_.toNat (w64 (v + ys[k].by_)) = [cnt 0 (fun _=>true) (ys.take (k + 1)),cnt 1 (fun _=>true) (ys.take (k + 1))]:=by
      subst s1;rw [bd,q2c,q2c];rcases hm.1 with h | h
      · refine ⟨cnt 0 (fun _=>true) (ys.take k),by rw [h];rfl,?_⟩;rw [h,Qa q0];simp [cnt,h]
      · refine ⟨cnt 1 (fun _=>true) (ys.take k),by rw [h];rfl,?_⟩;rw [h,Qa q0];simp [cnt,h]
    obtain ⟨v,o1,o2⟩:=ae;refine .inl ⟨([cnt 0 (fun _=>true) (ys.take (k + 1)),cnt 1 (fun _=>true) (ys.take (k + 1))],ys[k].at_,f (decide (0 < cnt 0 (fun _=>true) (ys.take (k + 1)))) (decide (0 < cnt 1 (fun _=>true) (ys.take (k + 1)))),if inn = true∧d≠ys[k].at_ then addS out d ys[k].at_ else out),?_,?_⟩
    · have x0 : ∀ a b : Int,idxA 2 [a,b] 0 = some a:=fun a b=>rfl;have x1 : ∀ a b : Int,idxA 2 [a,b] 1 = some b:=fun a b=>rfl;simp only [q50,af,Q0,Qz hk,qk,bf,o1,o2,x0,x1,hp2];rw [Qa q0];rfl
    · have ad : ∀ x,(0 < k→d≤x)→∀ i (h : i < ys.length),i < k→ys[i].at_≤x:=by
        intro x o i hi ap;have:=s3 q0 q0;have:=y i (k - 1) hi q0 q0;have:=o q0;omega
      have ac : ∀ x,x < ys[k].at_→∀ i (h : i < ys.length),k≤i→x < ys[i].at_:=by
        intro x o i hi ap;have:=y k i hk hi ap;omega
      have hF : ∀ x,(0 < k→d≤x)→x < ys[k].at_→f (decide (has p x)) (decide (has q x)) = inn:=by
        intro x o au;obtain ⟨c1,c2⟩:=qil vp vq g hs k x (ad x o) (ac x au);rw [s2,decide_eq_decide.2 c1,decide_eq_decide.2 c2]
      have n : 0 < k→d≤ys[k].at_:=by
        intro u;rw [s3 q0 u];exact y (k - 1) k q0 hk q0
      have aa : k = 0→inn = false:=by
        intro u;subst u;rw [s2];exact hf
      by_cases s : inn = true∧d≠ys[k].at_
      · have ak : 0 < k:=by
          rcases Nat.eq_zero_or_pos k with h | h
          · rw [aa h] at s;cases s.1
          · exact h
        have hl:=n ak;have bc : d < ys[k].at_:=by have:=s.2;omega
        obtain ⟨d1,d2,d3,d4⟩:=qhs s4 s5 bc;constructor
        · rfl
        · rfl
        · intro h _;rfl
        · simp only [qr s];exact d1
        · simp only [qr s];exact d3
        · omega
        · intro x;simp only [qr s];rw [d2,s7];constructor
          · rintro (⟨u,r,m⟩ | ⟨r,m⟩)
            · exact ⟨q0,q0,m⟩
            · exact ⟨q0,m,by rw [hF x (fun _=>r) m];exact s.1⟩
          · rintro ⟨u,r,m⟩;by_cases o : x < d
            · exact .inl ⟨ak,o,m⟩
            · exact .inr ⟨q0,r⟩
        · simp only [qr s];have:=qp8 out d ys[k].at_;omega
      · constructor
        · rfl
        · rfl
        · intro h _;rfl
        · simp only [qs s];exact s4
        · simp only [qs s];intro t ht;rcases Nat.eq_zero_or_pos k with h | h
          · rw [s6 h] at ht;cases ht
          · have:=s5 t ht;have:=n h;omega
        · omega
        · intro x;simp only [qs s];rw [s7];constructor
          · rintro ⟨u,r,m⟩;exact ⟨q0,by have:=n u;omega,m⟩
          · rintro ⟨u,r,m⟩;by_cases o : 0 < k∧x < d
            · exact ⟨o.1,o.2,m⟩
            · have am : 0 < k→d≤x:=fun h=>by
                refine Int.not_lt.1 fun h'=>o ⟨h,h'⟩
              have:=hF x am r;rw [this] at m;refine absurd ⟨m,?_⟩ s;intro e;rcases Nat.eq_zero_or_pos k with h | h
              · rw [aa h] at m;cases m
              · have:=am h;omega
        · simp only [qs s];omega
  · rintro ⟨opn,d,inn,out⟩ ⟨s1,s2,s3,s4,s5,s6,s7,s8⟩;simp only at s1 s2 s3 s4 s5 s6 s7 s8;have af : decide ((ys.length : Int) < (ys.length : Int)) = false:=Q9 q0;refine ⟨out,by simp only [q50,af,Q4],s4,fun x=>?_⟩;rw [s7];constructor
    · rintro ⟨_,_,h⟩;exact h
    · intro h;by_cases o : 0 < ys.length∧x < d
      · exact ⟨o.1,o.2,h⟩
      · obtain ⟨c1, c2⟩ := qil vp vq g hs ys.length x (fun i hi _ => by
            have:=s3 q0 q0;have:=y i (ys.length - 1) hi q0 q0;have : d≤x:=Int.not_lt.1 fun h'=>o ⟨q0,h'⟩
            omega) (fun i hi bl=>q0)
        have az : ∀ l,cnt l (fun _=>true) (ys.take ys.length) = 0:=by
          intro l;rw [List.take_length,qip g,q2c];by_cases u : l = 0
          · subst u;rw [qiq,q8f qw];rfl
          · rw [q8f u];by_cases r : l = 1
            · subst r;rw [qiq];rfl
            · rw [q8f r];rfl
        rw [az] at c1 c2;have n1 : ¬ has p x:=fun h=>absurd (c1.2 h) qw;have n2 : ¬ has q x:=fun h=>absurd (c2.2 h) qw;rw [Q9 n1,Q9 n2,hf] at h;cases h
  · constructor
    · simp [cnt]
    · simp [cnt,hf]
    · intro h u;omega
    · exact ⟨fun t ht=>(by cases ht),.nil⟩
    · intro t ht;cases ht
    · intro _;rfl
    · intro x;simp [has]
    · simp
end Go.Sh
namespace Go.Sh
open Go Go.Am
theorem qen {s : List qj} (h : Yq s = 0) : s.length≤400∧Good s:=by
  unfold Yq at h;split at h
  · cases h
  · split at h
    · rename_i b a;exact ⟨q0,a⟩
    · cases h
def dst (x : Int) (t : qj) : Int:=max (max (t.Lo - x) (x - t.Hi + 1)) 0
def qe3 (s : List qj) (x m : Int) : Prop:=(∃ t∈s,m = dst x t)∧∀ t∈s,m≤dst x t
theorem qe3.unique {s : List qj} {x m n : Int} (h : qe3 s x m) (b : qe3 s x n) : m = n:=by
  obtain ⟨⟨t,f,e⟩,c⟩:=h;obtain ⟨⟨u,d,g⟩,a⟩:=b;have:=c u d;have:=a t f;omega
end Go.Sh
namespace Go.Sh
open Go Go.Am
noncomputable def Jc (kind : Int) (p q : List qj) : List qj:=(qck kind p q).getD []
theorem q5k (kind : Int) (p q : List qj) (hp : p.length≤100000) (hq : q.length≤100000) : qck kind p q = some (Jc kind p q)∧qe2 kind p q (Jc kind p q):=by
  obtain ⟨out,a,b⟩:=qt5 kind p q hp hq;unfold Jc;rw [a];exact ⟨rfl,b⟩
noncomputable def opS (kind : Int) (p q : List qj) : List qj × Int:=
  if Yq p≠0 then ([],Yq p) else if Yq q≠0 then ([],Yq q) else if 400 < (Jc kind p q).length then ([],4) else (Jc kind p q,0)
open Classical in
theorem qsz (kind : Int) (f : Bool→Bool→Bool) (c : f false false = false) (d : ∀ a b : Prop,(f (decide a) (decide b) = true↔Kw kind a b)) (p2 : Bool→Bool→Option Bool) (hp2 : ∀ a b,p2 a b = some (f a b))
    (p q : List qj) (hp : p.length≤500) (hq : q.length≤500) (l : ∀ t∈p,vld t) (h : ∀ t∈q,vld t) : q3a p q p2 = some (Jc kind p q):=by
  obtain ⟨out,m,g,k⟩:=qkt f c p2 hp2 p q hp hq l h;obtain ⟨_,j⟩:=q5k kind p q q0 q0;rw [m];congr 1;refine q58 g j.can fun x=>?_;rw [k,j.pts,d]
open Classical in
theorem qqn (kind : Int) (f : Bool→Bool→Bool) (j : f false false = false) (m : ∀ a b : Prop,(f (decide a) (decide b) = true↔Kw kind a b)) (p2 : Bool→Bool→Option Bool) (hp2 : ∀ a b,p2 a b = some (f a b))
    (p q : List qj) : qan p q p2 = some (opS kind p q):=by
  unfold qan opS;simp only [qeo,qk];by_cases d : Yq p = 0
  · have g : (Yq p != 0) = false:=by simpa using d
    simp only [g,Q4];simp only [d,ne_eq,not_true_eq_false,if_false];by_cases c : Yq q = 0
    · have l : (Yq q != 0) = false:=by simpa using c
      obtain ⟨r,n⟩:=qen d;obtain ⟨s,o⟩:=qen c;simp only [c,not_true_eq_false,if_false,qsz kind f j m p2 hp2 p q q0 q0 n.1 o.1,qk];by_cases k : 400 < (Jc kind p q).length
      · have h : decide (((Jc kind p q).length : Int) > 400) = true:=Qb q0;rw [h,qr k];rfl
      · have h : decide (((Jc kind p q).length : Int) > 400) = false:=Q9 q0;rw [h,qs k];rfl
    · have l : (Yq q != 0) = true:=by simpa using c
      simp only [l,Q0,c,not_false_eq_true,if_true]
  · have g : (Yq p != 0) = true:=by simpa using d
    simp only [g,Q0,d,ne_eq,not_false_eq_true,if_true]
theorem q139 (p q : List qj) : q7s p q = some (opS 2 p q):=by
  classical
  unfold q7s;rw [qqn 2 (fun a b=>a || b) rfl (by intro a b;by_cases c : a <;> by_cases hb : b <;> simp [Kw,c,hb]) _ (by intro a b;cases a <;> rfl)];rfl
theorem qsr (s : List qj) (b : qj→Option Bool) (c : qj→Bool) (h : ∀ t,b t = some (c t)) (q : s.length≤1000000) :
    ∃ r,q9n s b = some r∧decide (r ≥ 0) = s.any c:=by
  have:=Jy (f:=q34 s b) (σ:=Unit) (fun k _=>(k : Int)) s.length (fun k _=>∀ i (h : i < s.length),i < k→c s[i] = false)
    (fun m=>∃ r : Int,(match m with | .inl b22=>some (-1) | .inr x1=>some x1) = some r∧decide (r ≥ 0) = s.any c) ?_ ?_ (k0:=0) (c0:=()) q0 (fun i _ hi=>q0)
  · obtain ⟨m,j,r,l,o⟩:=this;have j : loop (q34 s b) 0 = some m:=j;exact ⟨r,by unfold q9n;rw [j];exact l,o⟩
  · rintro k _ g hi;have hb : decide ((k : Int) < (s.length : Int)) = true:=Qb q0
    cases d : c s[k] with
    | true=>
      refine .inr ⟨.inr (k : Int),?_,(k : Int),rfl,?_⟩
      · simp only [q34,hb,Q0,Qz g,qk,h,d]
      · have : s.any c = true:=List.any_eq_true.2 ⟨s[k],Yf g,d⟩;rw [this];exact Qb q0
    | false=>
      refine .inl ⟨(),?_,?_⟩
      · simp only [q34,hb,Q0,Qz g,qk,h,d,Q4];rw [Qa q0];rfl
      · intro i a p;by_cases e : i = k
        · subst e;exact d
        · exact hi i a q0
  · rintro _ hi;have hb : decide ((s.length : Int) < (s.length : Int)) = false:=Q9 q0;refine ⟨.inl (),by simp only [q34,hb,Q4],-1,rfl,?_⟩
    have : s.any c = false:=by
      rw [List.any_eq_false];intro t n;obtain ⟨i,a,rfl⟩:=List.mem_iff_getElem.1 n;simp [hi i a a]
    rw [this];rfl
theorem qqy (s : List qj) (a : qj→Option Bool) (c : qj→Bool) (h : ∀ t,a t = some (c t)) (b : s.length≤1000000) : q9m s a = some (s.any c):=by
  obtain ⟨r,f,d⟩:=qsr s a c h b;unfold q9m;rw [f,qk,d]
open Classical in
noncomputable def qfx (s : List qj) : List qj × Int:=if 400 < s.length then ([],4) else if ∀ t∈s,vld t then (Jc 2 s [],0) else ([],8)
theorem qtl (s : List qj) (k : s.length≤400) (c : ∀ t∈s,vld t) (p2 : Bool→Bool→Option Bool) (hp2 : ∀ a b,p2 a b = some a) : q3a s [] p2 = some (Jc 2 s []):=by
  classical
  obtain ⟨out,f,d,h⟩:=qkt (fun a _=>a) rfl p2 hp2 s [] q0 qe c (fun t g=>by cases g);obtain ⟨_,j⟩:=q5k 2 s [] q0 qe;rw [f];congr 1;refine q58 d j.can fun x=>?_;rw [h,j.pts];simp [Kw,q1l]
theorem qtk (s : List qj) : q7r s = some (qfx s):=by
  classical
  unfold q7r qfx;by_cases f : 400 < s.length
  · have e : decide ((s.length : Int) > 400) = true:=Qb q0;rw [e,qr f];rfl
  · have e : decide ((s.length : Int) > 400) = false:=Q9 q0;rw [e,qs f,Q4,qqy s _ (fun t=>!decide (vld t)) (fun t=>by show (q3b t).bind _ = _;rw [qow];rfl) q0,qk];by_cases c : ∀ t∈s,vld t
    · have : (s.any fun t=>!decide (vld t)) = false:=by
        rw [List.any_eq_false];intro t d;simp [c t d]
      rw [this,Q4,qr c,qtl s q0 c (fun x0 x1=>qam x0 x1) (fun a b=>rfl)];rfl
    · have : (s.any fun t=>!decide (vld t)) = true:=by
        rw [List.any_eq_true];obtain ⟨t,c⟩:=Classical.not_forall.1 c;obtain ⟨d,h⟩:=Classical.not_imp.1 c;exact ⟨t,d,by simp [h]⟩
      rw [this,Q0,qs c]
def lenL : List qj→Int
  | []=>0
  | t::s=>(t.Hi - t.Lo) + lenL s
theorem ql2 (a b : List qj) : lenL (a ++ b) = lenL a + lenL b:=by
  induction a with
  | nil=>simp [lenL]
  | cons t a ih=>simp only [List.cons_append,lenL,ih];omega
theorem ql3 : ∀ {s : List qj},(∀ t∈s,vld t)→0≤lenL s∧lenL s≤2000000 * (s.length : Int)
  | [],_=>by simp [lenL]
  | t::s,h=>by
    obtain ⟨d,b⟩:=ql3 (fun t a=>h t (List.mem_cons_of_mem _ a))
    obtain ⟨g,f,c⟩:=h t qe
    simp only [lenL,List.length_cons]
    omega
noncomputable def qfs (s : List qj) : Int × Int:=if Yq s = 0 then (lenL s,0) else (0,Yq s)
theorem qt7 (s : List qj) (o : s.length≤400) (g : ∀ t∈s,vld t) : loop (qal s) (0,0) = some (lenL s)∧loop (q93 s) (0,0) = some (lenL s):=by
  have d : ∀ k,0≤lenL (s.take k)∧lenL (s.take k)≤800000000:=by
    intro k;have:=ql3 (s:=s.take k) (fun t n=>g t (List.mem_of_mem_take n));have : (s.take k).length≤400:=by rw [List.length_take];omega
    omega
  constructor
  · have:=Jy (f:=qal s) (σ:=Int) (fun k c=>(c,(k : Int))) s.length (fun k c=>c = lenL (s.take k)) (fun r=>r = lenL s) ?_ ?_ (k0:=0) (c0:=0) q0 (by simp [lenL])
    · obtain ⟨b,h,rfl⟩:=this;exact h
    · rintro k c a rfl;have hb : decide ((k : Int) < (s.length : Int)) = true:=Qb q0;obtain ⟨m,l,j⟩:=g _ (Yf a);have:=d k;refine .inl ⟨lenL (s.take (k + 1)),?_,rfl⟩;simp only [qal,hb,Q0,Qz a,qk];rw [Qa (x:=s[k].Hi - s[k].Lo) q0,Qa (x:=lenL (s.take k) + _) q0,Qa q0,List.take_succ_eq_append_getElem a,ql2];simp only [lenL,Int.add_zero];rfl
    · rintro c rfl;have hb : decide ((s.length : Int) < (s.length : Int)) = false:=Q9 q0;exact ⟨_,by simp only [qal,hb,Q4];rfl,by rw [List.take_length]⟩
  · have:=Jy (f:=q93 s) (σ:=Int) (fun k c=>(c,(k : Int))) s.length (fun k c=>c = lenL (s.take k)) (fun r=>r = lenL s) ?_ ?_ (k0:=0) (c0:=0) q0 (by simp [lenL])
    · obtain ⟨b,h,rfl⟩:=this;exact h
    · rintro k c a rfl;have hb : decide ((k : Int) < (s.length : Int)) = true:=Qb q0;obtain ⟨m,l,j⟩:=g _ (Yf a);have:=d k;refine .inl ⟨lenL (s.take (k + 1)),?_,rfl⟩;simp only [q93,hb,Q0,Qz a,qk];rw [Qa (x:=lenL (s.take k) + s[k].Hi) q0,Qa (x:=lenL (s.take k) + s[k].Hi - _) q0,Qa q0,List.take_succ_eq_append_getElem a,ql2];have : lenL (s.take k) + s[k].Hi - s[k].Lo = lenL (s.take k) + lenL [s[k]]:=by simp only [lenL];omega
      rw [this];rfl
    · rintro c rfl;have hb : decide ((s.length : Int) < (s.length : Int)) = false:=Q9 q0;exact ⟨_,by simp only [q93,hb,Q4];rfl,by rw [List.take_length]⟩
theorem q13x (s : List qj) : qo1 s = some (qfs s)∧qmf s = some (qfs s):=by
  unfold qo1 qmf qfs;simp only [qeo,qvv,qk];by_cases h : Yq s = 0
  · obtain ⟨c,d⟩:=qen h;obtain ⟨a,b⟩:=qt7 s c d.1;have e : (Yq s != 0) = false:=by simpa using h
    simp only [e,Q4,a,b,qk];simp only [h,if_true];exact ⟨trivial,trivial⟩
  · have e : (Yq s != 0) = true:=by simpa using h
    simp only [e,Q0,qs h];exact ⟨trivial,trivial⟩
end Go.Sh
set_option maxHeartbeats 4000000
namespace Go.Sh
open Go Go.Am
def sg (a b : Int) : Int:=if a < b then -1 else 0
theorem Zz {a b : Int} : decide (sg a b < 0) = decide (a < b):=by
  unfold sg;by_cases h : a < b <;> simp [h]
def qO (a b : Int) : Option Int:=some (sg a b)
theorem Je (a b : Int) : qO a b = some (sg a b):=rfl
theorem Jd (a b : Int) : Z5 a b = some (decide (a < b)):=by
  unfold Z5 q8e;have : (a != a) = false:=by simp
  simp []
theorem q11q : qdl = q5g:=rfl
theorem qzt : (fun a=>q2r a) = (fun a=>q3u a):=by
  funext a;simp only [q2r,q3u,q11q]
  all_goals exact K1
theorem qzu  : ∀ a,q2r a = q3u a:=fun a=>(congrFun qzt a)
theorem qzs : (fun a=>Uw a) = (fun a=>q1b a):=by
  funext a;simp only [Uw,q1b,qzu]
  all_goals exact K1
theorem qnq  : ∀ a,Uw a = q1b a:=fun a=>(congrFun qzs a)
theorem q10d : (fun a=>q70 a) = (fun a=>U7 a qO):=by
  funext a a443;simp only [q70,U7,Jd,Je,qk,Zz]
  all_goals exact K1
theorem q10e  : ∀ a,q70 a = U7 a qO:=fun a=>(congrFun q10d a)
theorem q10b : (fun p2 a=>q6z p2 a) = (fun p2 a=>q1f p2 a qO):=by
  funext p2 a a270;simp only [q6z,q1f,q10e]
  all_goals exact K1
theorem q10c  : ∀ p2 a,q6z p2 a = q1f p2 a qO:=fun p2 a=>(congrFun (congrFun q10b p2) a)
theorem q109 : (fun b a p2=>q6y b a p2) = (fun b a p2=>q2i qO b a p2):=by
  funext b a p2;simp only [q6y,q2i,q10c]
  all_goals exact K1
theorem q10a  : ∀ b a p2,q6y b a p2 = q2i qO b a p2:=fun b a p2=>(congrFun (congrFun (congrFun q109 b) a) p2)
theorem q11o : (fun p2 p3=>q7m p2 p3) = (fun p2 p3=>Ua p2 p3 qO):=by
  funext p2 p3 a193;simp only [q7m,Ua,Jd,Je,qk,Zz]
  all_goals exact K1
theorem q11p  : ∀ p2 p3,q7m p2 p3 = Ua p2 p3 qO:=fun p2 p3=>(congrFun (congrFun q11o p2) p3)
theorem q11n : (fun b a p2 p3=>q4t b a p2 p3) = (fun b a p2 p3=>Us qO b a p2 p3):=by
  funext b a p2 p3;simp only [q4t,Us,q11p]
  all_goals exact K1
theorem qns  : ∀ b a p2 p3,q4t b a p2 p3 = Us qO b a p2 p3:=fun b a p2 p3=>(congrFun (congrFun (congrFun (congrFun q11n b) a) p2) p3)
theorem q105 : (fun p2 a=>q6w p2 a) = (fun p2 a=>q1d qO p2 a):=by
  funext p2 a a123;simp only [q6w,q1d,qns]
  all_goals exact K1
theorem q106  : ∀ p2 a,q6w p2 a = q1d qO p2 a:=fun p2 a=>(congrFun (congrFun q105 p2) a)
theorem q107 : (fun a=>q6x a) = (fun a=>q1e a qO):=by
  funext a a191;simp only [q6x,q1e,qns]
  all_goals exact K1
theorem q108  : ∀ a,q6x a = q1e a qO:=fun a=>(congrFun q107 a)
theorem q103 : (fun b a p2=>q6v b a p2) = (fun b a p2=>q2h qO b a p2):=by
  funext b a p2;simp only [q6v,q2h,q106,q108]
  all_goals exact K1
theorem q104  : ∀ b a p2,q6v b a p2 = q2h qO b a p2:=fun b a p2=>(congrFun (congrFun (congrFun q103 b) a) p2)
theorem q10i : (fun a=>q1w a) = (fun a=>q2j a):=by
  funext a;simp only [q1w,q2j,qnq]
  all_goals exact K1
theorem q10j  : ∀ a,q1w a = q2j a:=fun a=>(congrFun q10i a)
theorem q11r : (fun a=>q1x a) = (fun a=>q2n a):=by
  funext a;simp only [q1x,q2n]
  all_goals exact K1
theorem q11s  : ∀ a,q1x a = q2n a:=fun a=>(congrFun q11r a)
theorem qzz : (fun b p2 a=>q6t b p2 a) = (fun b p2 a=>Uj b p2 a):=by
  funext b p2 a a153;simp only [q6t,Uj,q11s]
  all_goals exact K1
theorem q100  : ∀ b p2 a,q6t b p2 a = Uj b p2 a:=fun b p2 a=>(congrFun (congrFun (congrFun qzz b) p2) a)
theorem qzx : (fun b a p2=>q6s b a p2) = (fun b a p2=>q1c qO b a p2):=by
  funext b a p2;simp only [q6s,q1c,q10j,q100]
  all_goals exact K1
theorem qzy  : ∀ b a p2,q6s b a p2 = q1c qO b a p2:=fun b a p2=>(congrFun (congrFun (congrFun qzx b) a) p2)
theorem q10k : (fun b a p2 p3=>q36 b a p2 p3) = (fun b a p2 p3=>Ul qO b a p2 p3):=by
  funext b a p2 p3;simp only [q36,Ul,Jd,Je,qk,Zz]
  all_goals exact K1
theorem q10l  : ∀ b a p2 p3,q36 b a p2 p3 = Ul qO b a p2 p3:=fun b a p2 p3=>(congrFun (congrFun (congrFun (congrFun q10k b) a) p2) p3)
theorem q10f : (fun b a p2 p3 p4=>q4n b a p2 p3 p4) = (fun b a p2 p3 p4=>Uk qO b a p2 p3 p4):=by
  funext b a p2 p3 p4;simp only [q4n,Uk,q10l]
  all_goals exact K1
theorem qnr  : ∀ b a p2 p3 p4,q4n b a p2 p3 p4 = Uk qO b a p2 p3 p4:=fun b a p2 p3 p4=>(congrFun (congrFun (congrFun (congrFun (congrFun q10f b) a) p2) p3) p4)
theorem q10g : (fun b a p2=>q35 b a p2) = (fun b a p2=>U8 qO b a p2):=by
  funext b a p2;simp only [q35,U8,qnr]
  all_goals exact K1
theorem q10h  : ∀ b a p2,q35 b a p2 = U8 qO b a p2:=fun b a p2=>(congrFun (congrFun (congrFun q10g b) a) p2)
theorem q101 : (fun b a p2=>q6u b a p2) = (fun b a p2=>q2g b a p2 qO):=by
  funext b a p2;simp only [q6u,q2g,qnr,q10h]
  all_goals exact K1
theorem q102  : ∀ b a p2,q6u b a p2 = q2g b a p2 qO:=fun b a p2=>(congrFun (congrFun (congrFun q101 b) a) p2)
theorem q11m : qad = q2m:=by
  funext a119;simp only [qad,q2m]
  all_goals exact K1
theorem q11k : (fun b a p2=>q7k b a p2) = (fun b a p2=>q1k qO b a p2):=by
  funext b a p2;simp only [q7k,q1k,q11m]
  all_goals exact K1
theorem q11l  : ∀ b a p2,q7k b a p2 = q1k qO b a p2:=fun b a p2=>(congrFun (congrFun (congrFun q11k b) a) p2)
theorem q10q : (fun p2 a=>q74 p2 a) = (fun p2 a=>Um p2 a qO):=by
  funext p2 a a667;simp only [q74,Um,Jd,Je,qk,Zz]
  all_goals exact K1
theorem q10r  : ∀ p2 a,q74 p2 a = Um p2 a qO:=fun p2 a=>(congrFun (congrFun q10q p2) a)
theorem q10s : qa0 = Un qO:=by
  funext a822;simp only [qa0,Un,Jd,Je,qk,Zz]
  all_goals exact K1
theorem q10t : (fun p2 a=>q75 p2 a) = (fun p2 a=>Uo p2 qO a):=by
  funext p2 a a912;simp only [q75,Uo,Jd,Je,qk,Zz]
  all_goals exact K1
theorem q10u  : ∀ p2 a,q75 p2 a = Uo p2 qO a:=fun p2 a=>(congrFun (congrFun q10t p2) a)
theorem q10o : (fun p2 a=>q4q p2 a) = (fun p2 a=>Zt p2 qO a):=by
  funext p2 a a432;have b : @q4q.match_1.{1} = @Zt.match_1.{1} Int:=by funext motive m f g;cases m <;> rfl
  unfold q4q Zt;rw [b];simp only [q10r,q10s,q10u]
  all_goals repeat' first | with_reducible rfl | (congr 1) | funext _
  done
theorem q10p  : ∀ p2 a,q4q p2 a = Zt p2 qO a:=fun p2 a=>(congrFun (congrFun q10o p2) a)
theorem q10m : (fun b a p2=>q4p b a p2) = (fun b a p2=>U9 qO b a p2):=by
  funext b a p2;have c : @q4p.match_1.{1} = @U9.match_1.{1} Int:=by funext motive m f g;cases m <;> rfl
  unfold q4p U9;rw [c];simp only [q10p]
  all_goals repeat' first | with_reducible rfl | (congr 1) | funext _
  done
theorem q10n  : ∀ b a p2,q4p b a p2 = U9 qO b a p2:=fun b a p2=>(congrFun (congrFun (congrFun q10m b) a) p2)
theorem q110 : (fun a b=>q78 a b) = (fun a b=>Up a b qO):=by
  funext a b a360;simp only [q78,Up,Jd,Je,qk,Zz]
  all_goals exact K1
theorem q111  : ∀ a b,q78 a b = Up a b qO:=fun a b=>(congrFun (congrFun q110 a) b)
theorem q112 : (fun a b c=>q79 a b c) = (fun a b c=>Uq a b c qO):=by
  funext a b c a439;simp only [q79,Uq,Jd,Je,qk,Zz]
  all_goals exact K1
theorem q113  : ∀ a b c,q79 a b c = Uq a b c qO:=fun a b c=>(congrFun (congrFun (congrFun q112 a) b) c)
theorem q10y : (fun a=>q77 a) = (fun a=>q1i a qO):=by
  funext a a304;simp only [q77,q1i,q111,q113]
  all_goals exact K1
theorem q10z  : ∀ a,q77 a = q1i a qO:=fun a=>(congrFun q10y a)
theorem q10w : (fun b a p2 p3=>q76 b a p2 p3) = (fun b a p2 p3=>q1h qO b a p2 p3):=by
  funext b a p2 p3;simp only [q76,q1h,q10z]
  all_goals exact K1
theorem q10x  : ∀ b a p2 p3,q76 b a p2 p3 = q1h qO b a p2 p3:=fun b a p2 p3=>(congrFun (congrFun (congrFun (congrFun q10w b) a) p2) p3)
theorem q115 : (fun p2 d c b p3 a=>q7b p2 d c b p3 a) = (fun p2 d c b p3 a=>q2k p2 d c b p3 a qO):=by
  funext p2 d c b p3 a a159;simp only [q7b,q2k,Jd,Je,qk,Zz]
  all_goals exact K1
theorem q116  : ∀ p2 d c b p3 a,q7b p2 d c b p3 a = q2k p2 d c b p3 a qO:=fun p2 d c b p3 a=>(congrFun (congrFun (congrFun (congrFun (congrFun (congrFun q115 p2) d) c) b) p3) a)
theorem q117 : (fun a f d c p3 b=>q7c a f d c p3 b) = (fun a f d c p3 b=>q2l a f d c p3 b qO):=by
  funext a f d c p3 b a239;simp only [q7c,q2l,Jd,Je,qk,Zz]
  all_goals exact K1
theorem q118  : ∀ a f d c p3 b,q7c a f d c p3 b = q2l a f d c p3 b qO:=fun a f d c p3 b=>(congrFun (congrFun (congrFun (congrFun (congrFun (congrFun q117 a) f) d) c) p3) b)
theorem q11b : (fun a b=>q7e a b) = (fun a b=>J9 a b qO):=by
  funext a b a542;simp only [q7e,J9,Jd,Je,qk,Zz]
  all_goals exact K1
theorem q11c  : ∀ a b,q7e a b = J9 a b qO:=fun a b=>(congrFun (congrFun q11b a) b)
theorem q11d : (fun a b c=>q7f a b c) = (fun a b c=>Ja a b c qO):=by
  funext a b c a622;simp only [q7f,Ja,Jd,Je,qk,Zz]
  all_goals exact K1
theorem q11e  : ∀ a b c,q7f a b c = Ja a b c qO:=fun a b c=>(congrFun (congrFun (congrFun q11d a) b) c)
theorem q119 : (fun a=>q7d a) = (fun a=>q1j a qO):=by
  funext a a488;simp only [q7d,q1j,q11c,q11e]
  all_goals exact K1
theorem q11a  : ∀ a,q7d a = q1j a qO:=fun a=>(congrFun q119 a)
theorem q10v : (fun b a p2 p3=>q7a b a p2 p3) = (fun b a p2 p3=>q1g qO b a p2 p3):=by
  funext b a p2 p3;simp only [q7a,q1g,q116,q118,q11a]
  all_goals exact K1
theorem q114  : ∀ b a p2 p3,q7a b a p2 p3 = q1g qO b a p2 p3:=fun b a p2 p3=>(congrFun (congrFun (congrFun (congrFun q10v b) a) p2) p3)
theorem q11g : (fun a=>q4r a) = (fun a=>Zg qO a):=by
  funext a a305;have b : @q4r.match_1.{1} = @Zg.match_1.{1} Int:=by funext motive m f g;cases m <;> rfl
  unfold q4r Zg;rw [b];simp only [q10a,q104,qzy,q102,q11l,q10n,q10x,q114,Jd,Je,qk,Zz]
  all_goals repeat' first | with_reducible rfl | (congr 1) | funext _
  done
theorem q11h  : ∀ a,q4r a = Zg qO a:=fun a=>(congrFun q11g a)
theorem q11i : (fun a c b p2 p3=>q4s a c b p2 p3) = (fun a c b p2 p3=>Ur a qO c b p2 p3):=by
  funext a c b p2 p3;simp only [q4s,Ur,q11h]
  all_goals exact K1
theorem q11j  : ∀ a c b p2 p3,q4s a c b p2 p3 = Ur a qO c b p2 p3:=fun a c b p2 p3=>(congrFun (congrFun (congrFun (congrFun (congrFun q11i a) c) b) p2) p3)
theorem q11f : ∀ N,q7j N = Za N qO:=by
  intro N
  induction N with
  | zero=>rfl
  | succ N ih=>
    funext a b c d;show q4s (q7j N) a b c d = Ur (Za N qO) qO a b c d;rw [ih,q11j]
theorem qzv : (fun a=>U2 a) = (fun a=>q2f qO a):=by
  funext a;simp only [U2,q2f,qnq,q11f]
  all_goals exact K1
theorem qzw  : ∀ a,U2 a = q2f qO a:=fun a=>(congrFun qzv a)
end Go.Sh
