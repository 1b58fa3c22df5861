/- Pg4 Pg5 Pg6 Pj1 Pj2 Pl4 Pj3 St1 -/
import Derived.Test.YtgkialgkmjnfbaaK11
namespace Go.Sh
open Go Go.Am
section
variable {T : Type} [Inhabited T] {P : T→Prop} {lt : T→T→Bool} {q : T→T→Option Int}
theorem qet {f : Int→Option (Int ⊕ Int)} (p : T→Bool) (d : Array T) (j : Nat)
    (b : ∀ k : Nat,k≤1000002→f (k : Int) = if (decide (k≤j) && p d[k]!) = true then some (.inl ((k + 1 : Nat) : Int)) else some (.inr (k : Int))) (g : j≤1000000) :
    ∀ (m i : Nat),j + 1 - i = m→i≤1000002→loop f (i : Int) = some ((Sort.scanUp p d j i : Nat) : Int):=by
  intro m
  induction m with
  | zero=>
    intro i c hi;unfold Sort.scanUp;have a : ¬ (decide (i≤j) && p d[i]!) = true:=by simp;omega
    rw [qy a];exact Y3 (by rw [b i hi,qy a])
  | succ m ih=>
    intro i c hi;unfold Sort.scanUp;by_cases a : (decide (i≤j) && p d[i]!) = true
    · rw [qz a,Yi (by rw [b i hi,qz a])];exact ih (i + 1) q9 q9
    · rw [qy a];exact Y3 (by rw [b i hi,qy a])
theorem qbv {f : Int→Option (Int ⊕ Int)} (p : T→Bool) (d : Array T) (i n : Nat) (hi : 1≤i)
    (b : ∀ k : Nat,k < n→f (k : Int) = if (decide (i≤k) && p d[k]!) = true then some (.inl ((k - 1 : Nat) : Int)) else some (.inr (k : Int))) :
    ∀ (j : Nat),j < n→loop f (j : Int) = some ((Sort.scanDown p d i j : Nat) : Int)
  | 0,hj=>by
    have a : ¬ (decide (i≤0) && p d[0]!) = true:=by simp;omega
    exact Y3 (by rw [b 0 hj,qy a];rfl)
  | j + 1,hj=>by
    unfold Sort.scanDown
    by_cases a : (decide (i≤j + 1) && p d[j + 1]!) = true
    · rw [qz a,Yi (by rw [b (j + 1) hj,qz a])]
      exact qbv p d i n hi b j q9
    · rw [qy a]
      exact Y3 (by rw [b (j + 1) hj,qy a])
theorem qjb (b : Y4 q lt P) {n : Nat} {d : Array T} (hd : AllP n P d) {a j : Nat} (c : a < n) (m : j < n) (x : Int) (k : Nat) (hk : k≤1000002) :
    Zu (x,(j : Int),d.toList) (a : Int) q (k : Int) = if (decide (k≤j) && (fun x=>lt x d[a]!) d[k]!) = true then some (.inl ((k + 1 : Nat) : Int)) else some (.inr (k : Int)):=by
  have l:=hd.1;by_cases h : k≤j
  · obtain ⟨r,g,f⟩:=b d[k]! d[a]! (hd.2.2 _ q9) (hd.2.2 _ c);have t : decide ((k : Int)≤(j : Int)) = true:=Q8 q9;simp only [Zu,t,Q6,gx (d:=d) (k:=k) q9,gx (d:=d) (k:=a) q9,qr,g,f,w1p k q9];simp only [Q8 h,Bool.true_and,Bool.cond_eq_ite]
  · have t : decide ((k : Int)≤(j : Int)) = false:=Q9 q9;simp only [Zu,t,Q7,qr];simp [h]
theorem qjc (c : Y4 q lt P) {n : Nat} {d : Array T} (hd : AllP n P d) {a i : Nat} (f : a < n) (hi : 1≤i) (x y : Int) (k : Nat) (hk : k < n) :
    Zv (i : Int) (x,y,d.toList) (a : Int) q (k : Int) = if (decide (i≤k) && (fun x=>!lt x d[a]!) d[k]!) = true then some (.inl ((k - 1 : Nat) : Int)) else some (.inr (k : Int)):=by
  have j:=hd.1;have l:=hd.2.1;by_cases h : i≤k
  · obtain ⟨r,g,b⟩:=c d[k]! d[a]! (hd.2.2 _ q9) (hd.2.2 _ f);have t : decide ((i : Int)≤(k : Int)) = true:=Q8 q9;have w : w64 ((k : Int) - 1) = ((k - 1 : Nat) : Int):=by rw [Qd q9];omega
    simp only [Zv,t,Q6,gx (d:=d) (k:=k) q9,gx (d:=d) (k:=a) q9,qr,g,b,w];simp only [Q8 h,Bool.true_and,Bool.cond_eq_ite]
  · have t : decide ((i : Int)≤(k : Int)) = false:=Q9 q9;simp only [Zv,t,Q7,qr];simp [h]
theorem qsr (b : Y4 q lt P) {n : Nat} {d : Array T} (hd : AllP n P d) {a j : Nat} (c : a < n) (m : j < n) (x : Int) (k : Nat) (hk : k≤1000002) :
    U0 (x,(j : Int),d.toList) (a : Int) q (k : Int) = if (decide (k≤j) && (fun x=>!lt d[a]! x) d[k]!) = true then some (.inl ((k + 1 : Nat) : Int)) else some (.inr (k : Int)):=by
  have l:=hd.1;by_cases h : k≤j
  · obtain ⟨r,g,f⟩:=b d[a]! d[k]! (hd.2.2 _ c) (hd.2.2 _ q9);have t : decide ((k : Int)≤(j : Int)) = true:=Q8 q9;simp only [U0,t,Q6,gx (d:=d) (k:=k) q9,gx (d:=d) (k:=a) q9,qr,g,f,w1p k q9];simp only [Q8 h,Bool.true_and,Bool.cond_eq_ite]
  · have t : decide ((k : Int)≤(j : Int)) = false:=Q9 q9;simp only [U0,t,Q7,qr];simp [h]
theorem qss (c : Y4 q lt P) {n : Nat} {d : Array T} (hd : AllP n P d) {a i : Nat} (f : a < n) (hi : 1≤i) (x y : Int) (k : Nat) (hk : k < n) :
    U1 (i : Int) (x,y,d.toList) (a : Int) q (k : Int) = if (decide (i≤k) && (fun x=>lt d[a]! x) d[k]!) = true then some (.inl ((k - 1 : Nat) : Int)) else some (.inr (k : Int)):=by
  have j:=hd.1;have l:=hd.2.1;by_cases h : i≤k
  · obtain ⟨r,g,b⟩:=c d[a]! d[k]! (hd.2.2 _ f) (hd.2.2 _ q9);have t : decide ((i : Int)≤(k : Int)) = true:=Q8 q9;have w : w64 ((k : Int) - 1) = ((k - 1 : Nat) : Int):=by rw [Qd q9];omega
    simp only [U1,t,Q6,gx (d:=d) (k:=k) q9,gx (d:=d) (k:=a) q9,qr,g,b,w];simp only [Q8 h,Bool.true_and,Bool.cond_eq_ite]
  · have t : decide ((i : Int)≤(k : Int)) = false:=Q9 q9;simp only [U1,t,Q7,qr];simp [h]
theorem qsm (o : Y4 q lt P) (a n : Nat) (r : a < n) : ∀ (m i j : Nat) (d : Array T),j + 1 - i = m→AllP n P d→1≤i→i≤n + 1→j < n→
    loop (Uv (a : Int) q) ((i : Int),(j : Int),d.toList) = some (((Sort.partLoop lt a i j d).1 : Int),(Sort.partLoop lt a i j d).2.toList)∧AllP n P (Sort.partLoop lt a i j d).2∧(Sort.partLoop lt a i j d).1 < n:=by
  intro m
  induction m using Nat.strongRecOn with
  | _ m ih=>
    intro i j d hm hd hi v p;have z:=hd.1;have hn:=hd.2.1;rw [Sort.partLoop_eq];have s1:=qet (f:=Zu ((i : Int),(j : Int),d.toList) (a : Int) q) (fun x=>lt x d[a]!) d j (fun k hk=>qjb o hd r p _ k hk) q9 _ i rfl q9;have g1:=Sort.scanUp_ge (fun x=>lt x d[a]!) d j i;have y:=(Sort.scanUp_spec (fun x=>lt x d[a]!) d j _ i rfl).2.1;generalize Sort.scanUp (fun x=>lt x d[a]!) d j i = c at s1 g1 y ⊢;have l:=qbv (f:=Zv (c : Int) ((i : Int),(j : Int),d.toList) (a : Int) q) (fun x=>!lt x d[a]!) d c n q9 (fun k hk=>qjc o hd r q9 _ _ k hk) j p;have u:=Sort.scanDown_le (fun x=>!lt x d[a]!) d c j;generalize Sort.scanDown (fun x=>!lt x d[a]!) d c j = g at l u ⊢;by_cases s : c > g
    · rw [qz s];have t : decide ((c : Int) > (g : Int)) = true:=Q8 q9;refine ⟨Y3 ?_,hd,by show g < n;omega⟩;simp only [Uv,s1,l,qr,t,Q6]
    · rw [qy s];have t : decide ((c : Int) > (g : Int)) = false:=Q9 q9;have h:=ih ((g - 1) + 1 - (c + 1)) q9 (c + 1) (g - 1) _ rfl (hd.swp (a:=c) (b:=g) q9 q9) q9 q9 q9;refine ⟨?_,h.2⟩;rw [Yi (a':=(((c + 1 : Nat) : Int),((g - 1 : Nat) : Int),(Sort.swp d c g).toList)) ?_]
      · exact h.1
      · have w : w64 ((g : Int) - 1) = ((g - 1 : Nat) : Int):=by rw [Qd q9];omega
        simp only [Uv,s1,l,qr,t,Q7,gx (d:=d) (k:=c) q9,gx (d:=d) (k:=g) q9,gxs (d:=d) (k:=g) q9,Int.toNat_natCast,gswp,w,w1p c q9]
theorem qsl (l : Y4 q lt P) (a n : Nat) (p : a < n) : ∀ (m i j : Nat) (d : Array T),j + 1 - i = m→AllP n P d→1≤i→i≤n + 1→j < n→
    loop (Uu (a : Int) q) ((i : Int),(j : Int),d.toList) = some (((Sort.partEqLoop lt a i j d).1 : Int),(Sort.partEqLoop lt a i j d).2.toList):=by
  intro m
  induction m using Nat.strongRecOn with
  | _ m ih=>
    intro i j d hm hd hi u o;have y:=hd.1;have hn:=hd.2.1;rw [Sort.partEqLoop_eq];have s1:=qet (f:=U0 ((i : Int),(j : Int),d.toList) (a : Int) q) (fun x=>!lt d[a]! x) d j (fun k hk=>qsr l hd p o _ k hk) q9 _ i rfl q9;have z:=Sort.scanUp_ge (fun x=>!lt d[a]! x) d j i;have v:=(Sort.scanUp_spec (fun x=>!lt d[a]! x) d j _ i rfl).2.1;generalize Sort.scanUp (fun x=>!lt d[a]! x) d j i = c at s1 z v ⊢;have h:=qbv (f:=U1 (c : Int) ((i : Int),(j : Int),d.toList) (a : Int) q) (fun x=>lt d[a]! x) d c n q9 (fun k hk=>qss l hd p q9 _ _ k hk) j o;have s:=Sort.scanDown_le (fun x=>lt d[a]! x) d c j;generalize Sort.scanDown (fun x=>lt d[a]! x) d c j = g at h s ⊢;by_cases r : c > g
    · rw [qz r];have t : decide ((c : Int) > (g : Int)) = true:=Q8 q9;refine Y3 ?_;simp only [Uu,s1,h,qr,t,Q6]
    · rw [qy r];have t : decide ((c : Int) > (g : Int)) = false:=Q9 q9;rw [Yi (a':=(((c + 1 : Nat) : Int),((g - 1 : Nat) : Int),(Sort.swp d c g).toList)) ?_]
      · exact ih ((g - 1) + 1 - (c + 1)) q9 (c + 1) (g - 1) _ rfl (hd.swp (a:=c) (b:=g) q9 q9) q9 q9 q9
      · have w : w64 ((g : Int) - 1) = ((g - 1 : Nat) : Int):=by rw [Qd q9];omega
        simp only [Uu,s1,h,qr,t,Q7,gx (d:=d) (k:=c) q9,gx (d:=d) (k:=g) q9,gxs (d:=d) (k:=g) q9,Int.toNat_natCast,gswp,w,w1p c q9]
theorem qso (c : Y4 q lt P) {a b n p : Nat} (hb : b≤n) (f : a < b) (hp : p < n) {d : Array T} (hd : AllP n P d) :
    Ut q d.toList (a : Int) (b : Int) (p : Int) = some (((Sort.partitionEqual lt d a b p).1 : Int),(Sort.partitionEqual lt d a b p).2.toList):=by
  have g:=hd.1;have h:=hd.2.1;have w : w64 ((b : Int) - 1) = ((b - 1 : Nat) : Int):=by rw [Qd q9];omega
  have s:=qsl c a n q9 _ (a + 1) (b - 1) _ rfl (hd.swp (a:=a) (b:=p) q9 hp) q9 q9 q9;unfold Ut Sort.partitionEqual;simp only [gx (d:=d) (k:=p) q9,gx (d:=d) (k:=a) q9,gxs (d:=d) (k:=p) q9,qr,Int.toNat_natCast,gswp,w,w1p a q9,s]
theorem qsp (j : Y4 q lt P) {a b n p : Nat} (hb : b≤n) (r : a < b) (hp : p < n) {d : Array T} (hd : AllP n P d) :
    Us q d.toList (a : Int) (b : Int) (p : Int) = some (((Sort.partition lt d a b p).1 : Int),(Sort.partition lt d a b p).2.1,(Sort.partition lt d a b p).2.2.toList):=by
  have z:=hd.1;have hn:=hd.2.1;have w : w64 ((b : Int) - 1) = ((b - 1 : Nat) : Int):=by rw [Qd q9];omega
  have h:=hd.swp (a:=a) (b:=p) q9 hp
  have e1 : q1h (b : Int) d.toList (a : Int) d[p]! (p : Int) d[a]! q = Zu ((0 : Int),((b - 1 : Nat) : Int),(Sort.swp d a p).toList) (a : Int) q:=by
    funext k;simp only [q1h,Zu,w,Int.toNat_natCast,gswp]
  have y : ∀ c : Int,q1i c d.toList (a : Int) d[p]! (p : Int) d[a]! q = Zv c ((0 : Int),(0 : Int),(Sort.swp d a p).toList) (a : Int) q:=by
    intro c;funext k;simp only [q1i,Zv,Int.toNat_natCast,gswp]
  unfold Us Sort.partition;simp only [gx (d:=d) (k:=p) q9,gx (d:=d) (k:=a) q9,gxs (d:=d) (k:=p) q9,qr,e1,y,Int.toNat_natCast,gswp,w,w1p a q9];generalize Sort.swp d a p = D at h ⊢;have ab:=h.1;have s1:=qet (f:=Zu ((0 : Int),((b - 1 : Nat) : Int),D.toList) (a : Int) q) (fun x=>lt x D[a]!) D (b - 1) (fun k hk=>qjb j h q9 q9 _ k hk) q9 _ (a + 1) rfl q9;have g1:=Sort.scanUp_ge (fun x=>lt x D[a]!) D (b - 1) (a + 1);generalize Sort.scanUp (fun x=>lt x D[a]!) D (b - 1) (a + 1) = c at s1 g1 ⊢;have l:=qbv (f:=Zv (c : Int) ((0 : Int),(0 : Int),D.toList) (a : Int) q) (fun x=>!lt x D[a]!) D c n q9 (fun k hk=>qjc j h q9 q9 _ _ k hk) (b - 1) q9;have u:=Sort.scanDown_le (fun x=>!lt x D[a]!) D c (b - 1);generalize Sort.scanDown (fun x=>!lt x D[a]!) D c (b - 1) = g at l u ⊢;simp only [s1,l,qr];by_cases o : c > g
  · have t : decide ((c : Int) > (g : Int)) = true:=Q8 q9;simp only [qz o,t,Q6,gx (d:=D) (k:=a) q9,gx (d:=D) (k:=g) q9,gxs (d:=D) (k:=a) q9,qr,Int.toNat_natCast,gswp]
  · have t : decide ((c : Int) > (g : Int)) = false:=Q9 q9;have w2 : w64 ((g : Int) - 1) = ((g - 1 : Nat) : Int):=by rw [Qd q9];omega
    obtain ⟨s3,m,s⟩:=qsm j a n q9 _ (c + 1) (g - 1) _ rfl (h.swp (a:=c) (b:=g) q9 q9) q9 q9 q9;simp only [qy o,t,Q7,gx (d:=D) (k:=c) q9,gx (d:=D) (k:=g) q9,gxs (d:=D) (k:=g) q9,qr,Int.toNat_natCast,gswp,w2,w1p c q9,s3];generalize Sort.partLoop lt a (c + 1) (g - 1) (Sort.swp D c g) = R at m s ⊢;have v:=m.1;simp only [gx (d:=R.2) (k:=a) q9,gx (d:=R.2) (k:=R.1) q9,gxs (d:=R.2) (k:=a) q9,qr,gswp]
theorem qve (l : Y4 q lt P) {b n : Nat} (hb : b≤n) {d : Array T} (hd : AllP n P d) (x y : Int) : ∀ (m i : Nat),b - i = m→1≤i→i≤b→
    loop (Jy (b : Int) (x,y,d.toList) q) (i : Int) = some ((Sort.scanSorted lt d b i : Nat) : Int)∧i≤Sort.scanSorted lt d b i∧Sort.scanSorted lt d b i≤b:=by
  have o:=hd.1;have p:=hd.2.1;intro m
  induction m with
  | zero=>
    intro i j hi a;unfold Sort.scanSorted;rw [qy (by simp;omega)];have t : decide ((i : Int) < (b : Int)) = false:=Q9 q9;exact ⟨Y3 (by simp only [Jy,t,Q7,qr]),Nat.le_refl _,a⟩
  | succ m ih=>
    intro i j hi a;unfold Sort.scanSorted;have t : decide ((i : Int) < (b : Int)) = true:=Q8 q9;have w : w64 ((i : Int) - 1) = ((i - 1 : Nat) : Int):=by rw [Qd q9];omega
    obtain ⟨r,h,g⟩:=l d[i]! d[i - 1]! (hd.2.2 _ q9) (hd.2.2 _ q9);by_cases c : lt d[i]! d[i - 1]! = true
    · rw [qy (by simp [c])];refine ⟨Y3 ?_,Nat.le_refl _,a⟩;simp only [Jy,t,Q6,w,gx (d:=d) (k:=i) q9,gx (d:=d) (k:=i - 1) q9,qr,h,g,c,Bool.not_true,Q7]
    · have c : lt d[i]! d[i - 1]! = false:=by simpa using c
      rw [qz (by simp [c];omega)];have f:=ih (i + 1) q9 q9 q9;refine ⟨?_,q9,f.2.2⟩;rw [Yi (a':=((i + 1 : Nat) : Int)) ?_]
      · exact f.1
      · simp only [Jy,t,Q6,w,gx (d:=d) (k:=i) q9,gx (d:=d) (k:=i - 1) q9,qr,h,g,c,Bool.not_false,w1p i q9]
theorem qke (g : Y4 q lt P) (n : Nat) : ∀ (j : Nat) (d : Array T),AllP n P d→j < n→loop (Jf q) ((j : Int),d.toList) = some (Sort.shiftDown lt j d).toList∧AllP n P (Sort.shiftDown lt j d)
  | 0,d,hd,hj=>by
    have t : decide (((0 : Nat) : Int) ≥ 1) = false:=Q9 q9
    exact ⟨Y3 (by simp only [Jf,t,Q7];rfl),hd⟩
  | j + 1,d,hd,hj=>by
    have m:=hd.1
    have o:=hd.2.1
    have t : decide (((j + 1 : Nat) : Int) ≥ 1) = true:=Q8 q9
    obtain ⟨r,l,f⟩:=g d[j + 1]! d[j]! (hd.2.2 _ hj) (hd.2.2 _ q9)
    unfold Sort.shiftDown
    by_cases c : lt d[j + 1]! d[j]! = true
    · rw [qy (by simp [c])]
      have h:=qke g n j _ (hd.swp (a:=j + 1) (b:=j) hj q9) q9
      refine ⟨?_,h.2⟩
      rw [Yi (a':=((j : Int),(Sort.swp d (j + 1) j).toList)) ?_]
      · exact h.1
      · simp only [Jf,t,Q6,gx (d:=d) (k:=j + 1) q9,w1m j q9,gx (d:=d) (k:=j) q9,gxs (d:=d) (k:=j) q9,qr,l,f,c,Bool.not_true,Q7,Int.toNat_natCast,gswp]
    · have c : lt d[j + 1]! d[j]! = false:=by simpa using c
      rw [qz (by simp [c])]
      refine ⟨Y3 ?_,hd⟩
      simp only [Jf,t,Q6,gx (d:=d) (k:=j + 1) q9,w1m j q9,gx (d:=d) (k:=j) q9,qr,l,f,c,Bool.not_false]
theorem qkg (p : Y4 q lt P) {b n : Nat} (hb : b≤n) (c : Int) : ∀ (m j : Nat) (d : Array T),b - j = m→AllP n P d→1≤j→loop (Jz (b : Int) q c) ((j : Int),d.toList) = some (c,(Sort.shiftUp lt b j d).toList)∧AllP n P (Sort.shiftUp lt b j d):=by
  intro m
  induction m with
  | zero=>
    intro j d o hd s;unfold Sort.shiftUp;rw [qy q9];have t : decide ((j : Int) < (b : Int)) = false:=Q9 q9;exact ⟨Y3 (by simp only [Jz,t,Q7]),hd⟩
  | succ m ih=>
    intro j d o hd s;have u:=hd.1;have v:=hd.2.1;unfold Sort.shiftUp;rw [qz q9];have t : decide ((j : Int) < (b : Int)) = true:=Q8 q9;have w : w64 ((j : Int) - 1) = ((j - 1 : Nat) : Int):=by rw [Qd q9];omega
    obtain ⟨r,l,h⟩:=p d[j]! d[j - 1]! (hd.2.2 _ q9) (hd.2.2 _ q9);by_cases f : lt d[j]! d[j - 1]! = true
    · rw [qy (by simp [f])];have g:=ih (j + 1) _ q9 (hd.swp (a:=j) (b:=j - 1) q9 q9) q9;refine ⟨?_,g.2⟩;rw [Yi (a':=(((j + 1 : Nat) : Int),(Sort.swp d j (j - 1)).toList)) ?_]
      · exact g.1
      · simp only [Jz,t,Q6,w,gx (d:=d) (k:=j) q9,gx (d:=d) (k:=j - 1) q9,gxs (d:=d) (k:=j - 1) q9,qr,l,h,f,Bool.not_true,Q7,Int.toNat_natCast,gswp,w1p j q9]
    · have f : lt d[j]! d[j - 1]! = false:=by simpa using f
      rw [qz (by simp [f])];refine ⟨Y3 ?_,hd⟩;simp only [Jz,t,Q6,w,gx (d:=d) (k:=j) q9,gx (d:=d) (k:=j - 1) q9,qr,l,h,f,Bool.not_false]
theorem qje (j : Y4 q lt P) {a b n : Nat} (hb : b≤n) : ∀ (s i : Nat) (d : Array T),s≤5→AllP n P d→a < i→i≤b→
    ∃ m,loop (Zg (b : Int) q (a : Int)) ((i : Int),((5 - s : Nat) : Int),d.toList) = some m∧(match m with | .inl b441=>some (false,b441) | .inr x1=>some x1) = some ((Sort.partialIns lt a b s i d).2,(Sort.partialIns lt a b s i d).1.toList)
  | 0,i,d,hs,hd,hi,hib=>by
    have t : decide (((5 - 0 : Nat) : Int) < 5) = false:=Q9 q9
    refine ⟨.inl d.toList,Y3 (by simp only [Zg,t,Q7]),rfl⟩
  | s + 1,i,d,hs,hd,hi,hib=>by
    have ac:=hd.1
    have hn:=hd.2.1
    have t : decide (((5 - (s + 1) : Nat) : Int) < 5) = true:=Q8 q9
    rw [Sort.partialIns_succ]
    obtain ⟨s1,l1,w⟩:=qve j hb hd (i : Int) ((5 - (s + 1) : Nat) : Int) _ i rfl q9 hib
    generalize Sort.scanSorted lt d b i = k at s1 l1 w ⊢
    by_cases hk : k = b
    · subst hk
      rw [qz rfl]
      refine ⟨.inr (true,d.toList),Y3 ?_,rfl⟩
      simp only [Zg,t,Q6,s1,qr,beq_self_eq_true]
    · rw [qy hk]
      have v : ((k : Int) == (b : Int)) = false:=by simp;omega
      have e0 : w64 ((b : Int) - (a : Int)) = ((b - a : Nat) : Int):=wsub q9 q9
      by_cases o : b - a < 50
      · rw [qz o]
        have g : decide (((b - a : Nat) : Int) < 50) = true:=Q8 q9
        refine ⟨.inr (false,d.toList),Y3 ?_,rfl⟩
        simp only [Zg,t,Q6,s1,qr,v,Q7,e0,g]
      · rw [qy o]
        have g : decide (((b - a : Nat) : Int) < 50) = false:=Q9 q9
        have wk : w64 ((k : Int) - 1) = ((k - 1 : Nat) : Int):=by rw [Qd q9];omega
        have wa : w64 ((k : Int) - (a : Int)) = ((k - a : Nat) : Int):=wsub q9 q9
        have wb : w64 ((b : Int) - (k : Int)) = ((b - k : Nat) : Int):=wsub q9 q9
        have l:=hd.swp (a:=k) (b:=k - 1) q9 q9
        have down : (cond (decide (((k - a : Nat) : Int) ≥ 2)) ((loop (Jf q) (((k - 1 : Nat) : Int),(Sort.swp d k (k - 1)).toList)).bind fun x0=>some x0) (some (Sort.swp d k (k - 1)).toList)) = some (Sort.fixDown lt a k (Sort.swp d k (k - 1))).toList∧AllP n P (Sort.fixDown lt a k (Sort.swp d k (k - 1))):=by
          unfold Sort.fixDown;by_cases h : k - a ≥ 2
          · have f : decide (((k - a : Nat) : Int) ≥ 2) = true:=Q8 q9;obtain ⟨x,y⟩:=qke j n (k - 1) _ l q9;rw [qz h,f,Q6,x];exact ⟨rfl,y⟩
          · have f : decide (((k - a : Nat) : Int) ≥ 2) = false:=Q9 q9;rw [qy h,f,Q7];exact ⟨rfl,l⟩
        obtain ⟨dn,c⟩:=down
        have p : AllP n P (Sort.fixUp lt b k (Sort.fixDown lt a k (Sort.swp d k (k - 1)))):=by
          unfold Sort.fixUp;split
          · exact (qkg j hb 0 _ (k + 1) _ rfl c q9).2
          · exact c
        obtain ⟨m,r,u⟩:=qje (a:=a) j hb s k _ q9 p q9 w
        refine ⟨m,?_,u⟩
        rw [Yi (a':=((k : Int),((5 - s : Nat) : Int),(Sort.fixUp lt b k (Sort.fixDown lt a k (Sort.swp d k (k - 1)))).toList)) ?_]
        · exact r
        · have z : w64 (((5 - (s + 1) : Nat) : Int) + 1) = ((5 - s : Nat) : Int):=by rw [Qd q9];omega
          simp only [Zg,t,Q6,s1,qr,v,Q7,e0,g,wk,gx (d:=d) (k:=k) q9,gx (d:=d) (k:=k - 1) q9,gxs (d:=d) (k:=k - 1) q9,Int.toNat_natCast,gswp,wa,dn,wb,w1p k q9]
          unfold Sort.fixUp
          by_cases h : b - k ≥ 2
          · have f : decide (((b - k : Nat) : Int) ≥ 2) = true:=Q8 q9
            obtain ⟨x,y⟩:=qkg j hb (k : Int) _ (k + 1) _ rfl c q9
            rw [qz h,f,Q6,x]
            simp only [qr,z]
          · have f : decide (((b - k : Nat) : Int) ≥ 2) = false:=Q9 q9
            rw [qy h,f,Q7]
            simp only [qr,z]
theorem qsn (f : Y4 q lt P) {a b n : Nat} (hb : b≤n) (h : a < b) {d : Array T} (hd : AllP n P d) :
    J3 q d.toList (a : Int) (b : Int) = some ((Sort.partialInsertionSort lt d a b).2,(Sort.partialInsertionSort lt d a b).1.toList):=by
  have j:=hd.2.1;obtain ⟨m,c,g⟩:=qje (a:=a) f hb 5 (a + 1) d q9 hd q9 q9;have c : loop (Zg (b : Int) q (a : Int)) (((a + 1 : Nat) : Int),0,d.toList) = some m:=c;unfold J3 Sort.partialInsertionSort;rw [w1p a q9,c];exact g
end
end Go.Sh
namespace Go.Sh
open Go Go.Am
theorem qi4 {α β : Type} {f : α→Option (α ⊕ β)} {a : α} (h : f a = none) : loop f a = none:=by
  apply Option.ext;intro b;rw [q71];constructor
  · rintro ⟨n,c⟩
    cases n with
    | zero=>simp [iter] at c
    | succ n=>simp [iter,h] at c
  · intro h;cases h
section
variable {T : Type} [Inhabited T] {P : T→Prop} {lt : T→T→Bool} {q : T→T→Option Int}
def Srt (lt : T→T→Bool) (a b : Nat) (d : Array T) (o : Option (List T)) : Prop:=∃ d' : Array T,o = some d'.toList∧Sort.PermIn a b d d'∧Sort.SortedIn lt a b d'
theorem qsq (hq : Y4 q lt P) (hS : Sort.SWO lt) {n N : Nat} (af : List T→Int→Int→Int→Option (List T))
    (am : ∀ (a b f : Nat) (d : Array T),AllP n P d→a≤b→b≤n→f≤1000→Sort.Below lt a b d→Srt lt a b d (af d.toList (a : Int) (b : Int) (f : Int))∨(N≤b - a∧af d.toList (a : Int) (b : Int) (f : Int) = none)) :
    ∀ (m a b f : Nat) (wb wp : Bool) (d : Array T),b - a = m→AllP n P d→a≤b→b≤n→f≤1000→Sort.Below lt a b d→
      Srt lt a b d (loop (Z8 q af) ((a : Int),(b : Int),(f : Int),wb,wp,d.toList))∨(N + 1≤b - a∧loop (Z8 q af) ((a : Int),(b : Int),(f : Int),wb,wp,d.toList) = none):=by
  intro m
  induction m using Nat.strongRecOn with
  | _ m ih=>
    intro a b f wb wp d hm hd o hb hl hB;have dc:=hd.1;have hn:=hd.2.1;have e0 : w64 ((b : Int) - (a : Int)) = ((b - a : Nat) : Int):=wsub o q9;by_cases da : b - a≤12
    ·
      have t : decide (((b - a : Nat) : Int)≤12) = true:=Q8 q9;obtain ⟨x,y⟩:=Sort.insertionSort_holds (lt:=lt) hS d a b o q9;have s:=qpf hq hb o hd;refine .inl ⟨_,Y3 ?_,x,y⟩;simp only [Z8,e0,t,Q6,s,qr,U3 hd (hd.perm o hb x)]
    have bm : decide (((b - a : Nat) : Int)≤12) = false:=Q9 q9;by_cases h0 : f = 0
    ·
      have t : ((f : Int) == 0) = true:=by simp [h0]
      obtain ⟨x,y⟩:=Sort.heapSort_holds (lt:=lt) hS d a b o q9;have s:=qp9 hq hb (by omega : a < b) hd;refine .inl ⟨_,Y3 ?_,x,y⟩;simp only [Z8,e0,bm,Q7,t,Q6,s,qr,U3 hd (hd.perm o hb x)]
    have t0 : ((f : Int) == 0) = false:=by simp [h0]
    have hA : ∃ (l1 : Nat) (d1 : Array T),(cond (!wb) ((Uo q d.toList (a : Int) (b : Int)).bind fun ba=>(Qv ba.length d.toList.length).bind fun ct=>some (w64 ((f : Int) - 1),ba)) (some ((f : Int),d.toList))) = some ((l1 : Int),d1.toList)∧l1≤1000∧AllP n P d1∧Sort.PermIn a b d d1:=by
      cases wb with
      | true=>exact ⟨f,d,rfl,hl,hd,Sort.permIn_refl _ _ _⟩
      | false=>
        have x:=Sort.breakPatterns_holds d a b o q9;have z:=hd.perm o hb x;have w : w64 ((f : Int) - 1) = ((f - 1 : Nat) : Int):=by rw [Qd q9];omega
        refine ⟨f - 1,_,?_,q9,z,x⟩;simp only [Bool.not_false,Q6,qlt (q:=q) hb (by omega : a < b) hd,qr,U3 hd z,w]
    obtain ⟨l1,d1,eA,an,z,p1⟩:=hA;have hC:=qmu hq z (by omega : a < b) hb;obtain ⟨c1,c2⟩:=Sort.choosePivot_holds lt d1 a b q9;generalize (Sort.choosePivot lt d1 a b).1 = c at hC c1 c2;generalize qdi (Sort.choosePivot lt d1 a b).2 = h at hC
    have hR : ∃ (p : Nat) (h2 : Int) (d2 : Array T),(cond (h == 2) ((Uw q d1.toList (a : Int) (b : Int)).bind fun bd=>(Qv bd.length d1.toList.length).bind fun cq=>some (w64 ((w64 ((b : Int) - 1)) - (w64 ((c : Int) - (a : Int)))),(1 : Int),bd)) (some ((c : Int),h,d1.toList))) = some ((p : Int),h2,d2.toList)∧a≤p∧p < b∧AllP n P d2∧Sort.PermIn a b d1 d2:=by
      cases hh : (h == 2) with
      | false=>exact ⟨c,h,d1,rfl,c1,c2,z,Sort.permIn_refl _ _ _⟩
      | true=>
        have x:=Sort.reverseRange_holds d1 a b o (by rw [z.1];exact hb);have ac:=z.perm o hb x;have w1 : w64 ((b : Int) - 1) = ((b - 1 : Nat) : Int):=by rw [Qd q9];omega
        have w2 : w64 ((c : Int) - (a : Int)) = ((c - a : Nat) : Int):=wsub c1 q9;have w3 : w64 (((b - 1 : Nat) : Int) - ((c - a : Nat) : Int)) = ((b - 1 - (c - a) : Nat) : Int):=wsub q9 q9;refine ⟨b - 1 - (c - a),1,_,?_,q9,q9,ac,x⟩;simp only [Q6,qut (q:=q) hb (by omega : a < b) z,qr,U3 z ac,w1,w2,w3]
    obtain ⟨p,h2,d2,eR,hp1,hp2,ac,p2⟩:=hR;have bv : Sort.Below lt a b d2:=(hB.perm q9 p1).perm (by rw [z.1];exact hb) p2;have bp:=Sort.permIn_trans _ _ _ a b p1 p2
    have hP : ∀ cc : Bool,∃ ab : (List T) ⊕ (List T),(cond cc ((J3 q d2.toList (a : Int) (b : Int)).bind fun ag=>(Qv ag.2.length d2.toList.length).bind fun cz=>cond ag.1 (some (.inr ag.2)) (some (.inl ag.2))) (some (.inl d2.toList)) : Option ((List T) ⊕ (List T))) = some ab∧
        ((∃ l : Array T,ab = .inr l.toList∧Sort.PermIn a b d2 l∧Sort.SortedIn lt a b l)∨(∃ l : Array T,ab = .inl l.toList∧AllP n P l∧Sort.PermIn a b d2 l)):=by
      intro cc
      cases cc with
      | false=>exact ⟨_,rfl,.inr ⟨d2,rfl,ac,Sort.permIn_refl _ _ _⟩⟩
      | true=>
        obtain ⟨x,y⟩:=Sort.partialInsertionSort_holds (lt:=lt) hS d2 a b q9 (by rw [ac.1];exact hb) bv;have u:=ac.perm o hb x;have s:=qsn hq hb (by omega : a < b) ac;simp only [Q6,s,qr,U3 ac u]
        cases hz : (Sort.partialInsertionSort lt d2 a b).2 with
        | true=>exact ⟨_,rfl,.inl ⟨_,rfl,x,y hz⟩⟩
        | false=>exact ⟨_,rfl,.inr ⟨_,rfl,u,x⟩⟩
    obtain ⟨ab,eP,br⟩:=hP (wb && wp && (h2 == 1))
    have cm : ∀ {γ : Type} (X : Bool→Option γ),((cond wb (some wp) (some false)).bind fun bt=>(cond bt (some (h2 == 1)) (some false)).bind X) = X (wb && wp && (h2 == 1)):=by
      intro γ X;cases wb <;> cases wp <;> rfl
    have head : Z8 q af ((a : Int),(b : Int),(f : Int),wb,wp,d.toList) = (match (generalizing:=false) ab with | .inl b377=>(cond (decide ((a : Int) > 0)) ((idx b377 (w64 ((a : Int) - 1))).bind fun av=>(idx b377 (p : Int)).bind fun ao=>(q av ao).bind fun ar=>some (!(decide (ar < 0)))) (some false)).bind fun bq=>cond bq ((Ut q b377 (a : Int) (b : Int) (p : Int)).bind fun al=>(Qv al.2.length b377.length).bind fun cy=>some (.inl (al.1,(b : Int),(l1 : Int),wb,wp,al.2))) ((Us q b377 (a : Int) (b : Int) (p : Int)).bind fun g=>(Qv g.2.2.length b377.length).bind fun cp=>cond (decide ((w64 (g.1 - (a : Int))) < (w64 ((b : Int) - g.1)))) ((af g.2.2 (a : Int) g.1 (l1 : Int)).bind fun az=>(Qv az.length g.2.2.length).bind fun cw=>some (.inl (w64 (g.1 + 1),(b : Int),(l1 : Int),decide ((w64 (g.1 - (a : Int))) ≥ (w64 (Int.tdiv ((b - a : Nat) : Int) 8))),g.2.1,az))) ((af g.2.2 (w64 (g.1 + 1)) (b : Int) (l1 : Int)).bind fun bc=>(Qv bc.length g.2.2.length).bind fun cv=>some (.inl ((a : Int),g.1,(l1 : Int),decide ((w64 ((b : Int) - g.1)) ≥ (w64 (Int.tdiv ((b - a : Nat) : Int) 8))),g.2.1,bc)))) | .inr x1=>some (.inr x1)):=by
      simp only [Z8,e0,bm,Q7,t0,eA,qr,hC,eR,cm,eP]
      all_goals (clear eP br hP am ih;cases ab <;> rfl)
    rcases br with ⟨l,rfl,x,y⟩ | ⟨l,rfl,u,p3⟩
    · refine .inl ⟨l,Y3 ?_,Sort.permIn_trans _ _ _ a b bp x,y⟩;rw [head]
    have ax:=u.1;have P3:=Sort.permIn_trans _ _ _ a b bp p3;have B3 : Sort.Below lt a b l:=bv.perm (by rw [ac.1];exact hb) p3
    have bh : (cond (decide ((a : Int) > 0)) ((idx l.toList (w64 ((a : Int) - 1))).bind fun av=>(idx l.toList (p : Int)).bind fun ao=>(q av ao).bind fun ar=>some (!(decide (ar < 0)))) (some false)) = some (decide (a > 0) && !lt l[a - 1]! l[p]!):=by
      by_cases ha : a > 0
      · have ta : decide ((a : Int) > 0) = true:=Q8 q9;have w : w64 ((a : Int) - 1) = ((a - 1 : Nat) : Int):=by rw [Qd q9];omega
        obtain ⟨r,h1,h2⟩:=hq l[a - 1]! l[p]! (u.2.2 _ q9) (u.2.2 _ q9);simp only [ta,Q6,w,gx (d:=l) (k:=a - 1) q9,gx (d:=l) (k:=p) q9,qr,h1,h2,Q8 ha,Bool.true_and]
      · have ta : decide ((a : Int) > 0) = false:=Q9 q9;simp only [ta,Q7,Q9 ha,Bool.false_and]
    simp only [bh,qr] at head;by_cases hc : (decide (a > 0) && !lt l[a - 1]! l[p]!) = true
    ·
      rw [hc] at head;have s:=qso hq hb (by omega : a < b) (by omega : p < n) u;simp only [Bool.and_eq_true,decide_eq_true_eq,Bool.not_eq_true'] at hc
      cases hx : Sort.partitionEqual lt l a b p with
      | mk j d4=>
        obtain ⟨g1,g2,bz,ck,ad⟩:=Sort.round_eq hS (Sort.partitionEqual_holds lt) hc.1 hp1 hp2 (by rw [ax];exact hb) B3 hc.2 hx
        have cd : ∀ i,a≤i→i < b→lt l[i]! l[p]! = false:=fun i hi bx=>by
          rcases B3 with h0 | hB
          · omega
          · exact hS.ntrans _ _ _ (hB i hi bx) hc.2
        obtain ⟨_,_,v,_,_⟩:=Sort.partitionEqual_holds lt hS l a b p hp1 hp2 (by rw [ax];exact hb) cd;rw [hx] at v s;have aa:=u.perm o hb v;simp only [Q6,s,qr,U3 u aa] at head;rw [Yi head];rcases ih (b - j) q9 j b l1 wb wp d4 rfl aa g2 hb an ck with ⟨R,r0,r1,r2⟩ | ⟨r1,r2⟩
        · obtain ⟨q1,q2⟩:=ad _ r1 r2;exact .inl ⟨R,r0,Sort.permIn_trans _ _ _ a b P3 q1,q2⟩
        · exact .inr ⟨q9,r2⟩
    ·
      have hc : (decide (a > 0) && !lt l[a - 1]! l[p]!) = false:=by simpa using hc
      rw [hc] at head;have s:=qsp hq hb (by omega : a < b) (by omega : p < n) u
      cases hx : Sort.partition lt l a b p with
      | mk j r=>
      cases r with
      | mk ap d4=>
        obtain ⟨g1,g2,bz,bw,cb,bg,ay⟩:=Sort.round_part hS (Sort.partition_holds lt) hp1 hp2 (by rw [ax];exact hb) B3 hx;obtain ⟨_,_,v,_,_⟩:=Sort.partition_holds lt hS l a b p hp1 hp2 (by rw [ax];exact hb);rw [hx] at v s;have aa:=u.perm o hb v;have w1 : w64 ((j : Int) - (a : Int)) = ((j - a : Nat) : Int):=wsub g1 q9;have w2 : w64 ((b : Int) - (j : Int)) = ((b - j : Nat) : Int):=wsub q9 q9;simp only [Q7,s,qr,U3 u aa,w1,w2,w1p j q9] at head;by_cases dh : j - a < b - j
        · have tl : decide (((j - a : Nat) : Int) < ((b - j : Nat) : Int)) = true:=Q8 q9;simp only [tl,Q6] at head;rcases am a j l1 d4 aa g1 q9 an bw with ⟨L,e,aq,bj⟩ | ⟨r1,r2⟩
          · have au:=aa.perm g1 q9 aq;obtain ⟨bk,ad⟩:=bg _ aq bj;simp only [e,qr,U3 aa au] at head;rw [Yi head];rcases ih (b - (j + 1)) q9 (j + 1) b l1 _ _ L rfl au q9 hb an bk with ⟨R,r0,r1,r2⟩ | ⟨r1,r2⟩
            · obtain ⟨q1,q2⟩:=ad _ r1 r2;exact .inl ⟨R,r0,Sort.permIn_trans _ _ _ a b P3 q1,q2⟩
            · exact .inr ⟨q9,r2⟩
          · simp only [r2,Option.bind_none] at head;exact .inr ⟨q9,qi4 head⟩
        · have tl : decide (((j - a : Nat) : Int) < ((b - j : Nat) : Int)) = false:=Q9 q9;simp only [tl,Q7] at head;rcases am (j + 1) b l1 d4 aa q9 hb an cb with ⟨L,e,aq,bj⟩ | ⟨r1,r2⟩
          · have au:=aa.perm (by omega : j + 1≤b) hb aq;obtain ⟨bk,ad⟩:=ay _ aq bj;simp only [e,qr,U3 aa au] at head;rw [Yi head];rcases ih (j - a) q9 a j l1 _ _ L rfl au g1 q9 an bk with ⟨R,r0,r1,r2⟩ | ⟨r1,r2⟩
            · obtain ⟨q1,q2⟩:=ad _ r1 r2;exact .inl ⟨R,r0,Sort.permIn_trans _ _ _ a b P3 q1,q2⟩
            · exact .inr ⟨q9,r2⟩
          · simp only [r2,Option.bind_none] at head;exact .inr ⟨q9,qi4 head⟩
theorem qjf (f : Y4 q lt P) (g : Sort.SWO lt) {n : Nat} : ∀ (N a b c : Nat) (d : Array T),AllP n P d→a≤b→b≤n→c≤1000→Sort.Below lt a b d→
    Srt lt a b d (Z4 N q d.toList (a : Int) (b : Int) (c : Int))∨(N≤b - a∧Z4 N q d.toList (a : Int) (b : Int) (c : Int) = none)
  | 0,a,b,c,d,_,_,_,_,_=>.inr ⟨q9,rfl⟩
  | N + 1,a,b,c,d,hd,hab,hb,hl,hB=>by
    have h:=qsq f g (N:=N) (Z4 N q) (fun a b c d m j k l o=>qjf f g N a b c d m j k l o) _ a b c true true d rfl hd hab hb hl hB
    have e : Z4 (N + 1) q d.toList (a : Int) (b : Int) (c : Int) = loop (Z8 q (Z4 N q)) ((a : Int),(b : Int),(c : Int),true,true,d.toList):=by
      show Jg (Z4 N q) q d.toList (a : Int) (b : Int) (c : Int) = _;unfold Jg;cases loop (Z8 q (Z4 N q)) ((a : Int),(b : Int),(c : Int),true,true,d.toList) <;> rfl
    rw [e]
    exact h
theorem qf2 (t : Y4 q lt P) (w : Sort.SWO lt) (xs : List T) (n : xs.length≤1000000) (v : ∀ x∈xs,P x) :
    ∃ ys,q1c q xs = some ys∧ys.Perm xs∧ys.Pairwise (fun x y=>lt y x = false):=by
  have hd : AllP xs.length P xs.toArray:=by
    refine ⟨qc,n,fun i hi=>?_⟩;have : xs.toArray[i]! = xs[i]:=by simp [hi]
    rw [this];exact v _ (Kw hi)
  have hk : Sort.bitsLen xs.length≤20:=(Sort.bitsLen_le_iff _ 20).2 q9;have c : ∀ N,_:=fun N=>qjf t w N 0 xs.length (Sort.bitsLen xs.length) xs.toArray hd q9 q9 q9 (.inl rfl);have z:=c (xs.length + 1);rcases z with ⟨d',e,_,_⟩ | ⟨h,_⟩
  · obtain ⟨r,o⟩:=qpy (f:=fun N=>Z4 N q xs 0 (xs.length : Int) ((Sort.bitsLen xs.length : Nat) : Int)) e;obtain ⟨N,g⟩:=qb7 o;have g : Z4 N q xs 0 (xs.length : Int) ((Sort.bitsLen xs.length : Nat) : Int) = some r:=g;rcases c N with ⟨a,b,x,y⟩ | ⟨_,b⟩
    · have b : Z4 N q xs 0 (xs.length : Int) ((Sort.bitsLen xs.length : Nat) : Int) = some a.toList:=b;rw [g] at b;obtain rfl : r = a.toList:=J8 b;have d : a.size = xs.length:=by rw [x.1];simp
      refine ⟨a.toList,?_,?_,?_⟩
      · unfold q1c;rw [q20,show ((xs.length : Int) % 18446744073709551616) = (xs.length : Int) by omega,qhz _ n];simp only [qr,o];unfold Qv;rw [qz (by simp [d])];rfl
      · have:=x.2.2;have s : a.extract 0 xs.length = a:=by rw [← d];simp
        have p : xs.toArray.extract 0 xs.length = xs.toArray:=by simp
        rw [s,p] at this;exact this
      · rw [List.pairwise_iff_getElem];intro i j hi u k;have l : i < a.size:=by simpa using hi
        have m : j < a.size:=by simpa using u
        have:=y i j q9 k q9;rw [getElem!_pos a i l,getElem!_pos a j m] at this;simpa using this
    · have b : Z4 N q xs 0 (xs.length : Int) ((Sort.bitsLen xs.length : Nat) : Int) = none:=b;rw [g] at b;cases b
  · omega
end
end Go.Sh
namespace Go.Sh
open Go Go.Am
theorem qwe : qa0 = q39:=rfl
theorem qvf : q1l = q26:=by
  funext p0;simp only [q1l,q26,qwe]
  all_goals exact Qi
theorem qk9 : Jl = Un:=by
  funext p0;simp only [Jl,Un,qvf]
  all_goals exact Qi
theorem qvp : q8e = Jd:=by
  funext p1 q1 a459;simp only [q8e,Jd]
  all_goals exact Qi
theorem qvo : q8d = Ur:=by
  funext p2 p1 q1 a278;simp only [q8d,Ur,qvp]
  all_goals exact Qi
theorem qvn : q8c = q1f:=by
  funext q1 p0 p1 p2;simp only [q8c,q1f,qvo]
  all_goals exact Qi
theorem qwd : q9q = Jh:=by
  funext p2 p3 q1 a197;simp only [q9q,Jh]
  all_goals exact Qi
theorem qkb : q61 = U2:=by
  funext q1 p0 p1 p2 p3;simp only [q61,U2,qwd]
  all_goals exact Qi
theorem qvl : q84 = Up:=by
  funext q1 p2 p1 a123;simp only [q84,Up,qkb]
  all_goals exact Qi
theorem qvm : q85 = Uq:=by
  funext p1 q1 a191;simp only [q85,Uq,qkb]
  all_goals exact Qi
theorem qvk : q83 = q1e:=by
  funext q1 p0 p1 p2;simp only [q83,q1e,qvl,qvm]
  all_goals exact Qi
theorem qvr : U8 = q1g:=by
  funext p0;simp only [U8,q1g,qk9]
  all_goals exact Qi
theorem qwf : U9 = q1j:=by
  funext p0;simp only [U9,q1j]
  all_goals exact Qi
theorem qvi : q7t = Jv:=by
  funext p1 p2 r101 a153;simp only [q7t,Jv,qwf]
  all_goals exact Qi
theorem qvh : q7s = Uo:=by
  funext q1 p0 p1 p2;simp only [q7s,Uo,qvr,qvi]
  all_goals exact Qi
theorem qvs : q43 = Jx:=by
  funext q1 p0 p1 p2 p3;simp only [q43,Jx]
  all_goals exact Qi
theorem qka : q5j = Jw:=by
  funext q1 p0 p1 p2 p3 p4;simp only [q5j,Jw,qvs]
  all_goals exact Qi
theorem qvq : q40 = Je:=by
  funext q1 p0 p1 p2;simp only [q40,Je,qka]
  all_goals exact Qi
theorem qvj : q7w = q1d:=by
  funext p0 p1 p2 p3;simp only [q7w,q1d,qka,qvq]
  all_goals exact Qi
theorem qwc : q9n = Ux:=by
  funext a119;simp only [q9n,Ux]
  all_goals exact Qi
theorem qwb : q9m = Uw:=by
  funext q1 p0 p1 p2;simp only [q9m,Uw,qwc]
  all_goals exact Qi
theorem qvv : q8l = Jy:=by
  funext p2 a438 q1 a681;simp only [q8l,Jy]
  all_goals exact Qi
theorem qvw : q8m = Jf:=by
  funext q1 a838;simp only [q8m,Jf]
  all_goals exact Qi
theorem qvx : q8n = Jz:=by
  funext p2 q1 b684 a928;simp only [q8n,Jz]
  all_goals exact Qi
theorem qvu : q5p = Zg:=by
  funext p2 q1 p1 a438;have a : @q5p.match_1.{1} = @Zg.match_1.{1} qn:=by funext motive m f g;cases m <;> rfl
  unfold q5p Zg;rw [a];simp only [qvv,qvw,qvx]
theorem qvt : q5o = J3:=by
  funext q1 p0 p1 p2;have a : @q5o.match_1.{1} = @J3.match_1.{1} qn:=by funext motive m f g;cases m <;> rfl
  unfold q5o J3;rw [a];simp only [qvu]
theorem qw1 : q9g = U0:=by
  funext a318 p1 q1 a378;simp only [q9g,U0]
  all_goals exact Qi
theorem qw2 : q9h = U1:=by
  funext b381 a318 p1 q1 a463;simp only [q9h,U1]
  all_goals exact Qi
theorem qw0 : q9f = Uu:=by
  funext p1 q1 a318;simp only [q9f,Uu,qw1,qw2]
  all_goals exact Qi
theorem qvz : q9e = Ut:=by
  funext q1 p0 p1 p2 p3;simp only [q9e,Ut,qw0]
  all_goals exact Qi
theorem qw3 : q91 = q1h:=by
  funext p2 p0 p1 v101 p3 v103 q1 a163;simp only [q91,q1h]
  all_goals exact Qi
theorem qw4 : q92 = q1i:=by
  funext b166 p0 p1 v101 p3 v103 q1 a249;simp only [q92,q1i]
  all_goals exact Qi
theorem qw6 : q94 = Zu:=by
  funext a514 p1 q1 a572;simp only [q94,Zu]
  all_goals exact Qi
theorem qw7 : q95 = Zv:=by
  funext b575 a514 p1 q1 a658;simp only [q95,Zv]
  all_goals exact Qi
theorem qw5 : q93 = Uv:=by
  funext p1 q1 a514;simp only [q93,Uv,qw6,qw7]
  all_goals exact Qi
theorem qvy : q90 = Us:=by
  funext q1 p0 p1 p2 p3;simp only [q90,Us,qw3,qw4,qw5]
  all_goals exact Qi
theorem qw9 : q5x = Z8:=by
  funext q1 rec a309;have a : @q5x.match_1.{1} = @Z8.match_1.{1} qn:=by funext motive m f g;cases m <;> rfl
  unfold q5x Z8;rw [a];simp only [qvn,qvk,qvh,qvj,qwb,qvt,qvz,qvy]
theorem qwa : q5y = Jg:=by
  funext rec q1 p0 p1 p2 p3;simp only [q5y,Jg,qw9]
  all_goals exact Qi
theorem qw8 : ∀ N q,q5w N q = Z4 N q:=by
  intro N q
  induction N with
  | zero=>rfl
  | succ N ih=>
    funext a b c d;show q5y (q5w N q) q a b c d = Jg (Z4 N q) q a b c d;rw [ih,qwa]
theorem qvg : q5g = q1c:=by
  funext q1 p0;simp only [q5g,q1c,qk9,qw8]
  all_goals exact Qi
end Go.Sh
namespace Go.Sh
open Go Go.Am
instance : Inhabited qn:=⟨⟨0,0,0⟩⟩
theorem qxm (q : qn→qn→Option Int) (xs : List qn) : q5g q xs = q1c q xs:=by rw [qvg]
def evs (s : List qh) (l : Int) : List qn:=s.flatMap fun t=>[{at_:=t.Lo,list_:=l,by_:=1},{at_:=t.Hi,list_:=l,by_:=-1}]
theorem q6r (s : List qh) (l : Int) : (evs s l).length = 2 * s.length:=by
  induction s with
  | nil=>rfl
  | cons t s ih=>simp only [evs,List.flatMap_cons,List.length_append,List.length_cons,List.length_nil] at ih ⊢;omega
theorem qbd {s : List qh} {l : Int} {e : qn} (h : e∈evs s l) : e.list_ = l∧(e.by_ = 1∨e.by_ = -1)∧∃ t∈s,e.at_ = t.Lo∨e.at_ = t.Hi:=by
  simp only [evs,List.mem_flatMap] at h;obtain ⟨t,a,h⟩:=h;simp only [List.mem_cons,List.not_mem_nil,or_false] at h;rcases h with rfl | rfl
  · exact ⟨rfl,.inl rfl,t,a,.inl rfl⟩
  · exact ⟨rfl,.inr rfl,t,a,.inr rfl⟩
theorem qgq (s : List qh) (l : Int) (y : List qn) (hs : s.length≤1000) (base : List qn) (hb : base.length≤10000) :
    loop (q45 s (l,y)) (0,base) = some (base ++ evs s l):=by
  have:=Kx (f:=q45 s (l,y)) (σ:=List qn) (fun k c=>((k : Int),c)) s.length (fun k c=>c = base ++ evs (s.take k) l) (fun t=>t = base ++ evs s l) ?_ ?_ (k0:=0) (c0:=base) q9 (by simp [evs])
  · obtain ⟨b,g,rfl⟩:=this;exact g
  · rintro k c hk rfl;have a : decide ((k : Int) < (s.length : Int)) = true:=Q8 q9;refine .inl ⟨base ++ evs (s.take (k + 1)) l,?_,rfl⟩;have d : (evs (s.take k) l).length≤2000:=by rw [q6r,List.length_take];omega
    simp only [q45,a,Q6,K0 hk,qr];rw [Ye (by rw [List.length_append];simp only [List.length_cons,List.length_nil];omega),qr,Qd q9,List.take_succ_eq_append_getElem hk,List.append_assoc];have : evs (s.take k ++ [s[k]]) l = evs (s.take k) l ++ [{at_:=s[k].Lo,list_:=l,by_:=1},{at_:=s[k].Hi,list_:=l,by_:=-1}]:=by simp only [evs,List.flatMap_append,List.flatMap_cons,List.flatMap_nil,List.append_nil]
    rw [this];rfl
  · rintro c rfl;have a : decide ((s.length : Int) < (s.length : Int)) = false:=Q9 q9;exact ⟨_,by simp only [q45,a,Q7];rfl,by rw [List.take_length]⟩
def ltE (a b : qn) : Bool:=decide (a.at_ < b.at_)
def inE (e : qn) : Prop:=-1000000≤e.at_∧e.at_≤1000000
theorem swoE : Sort.SWO ltE where
  irrefl:=by intro x;simp [ltE]
  trans:=by intro x y z;simp only [ltE,decide_eq_true_eq];omega
  ntrans:=by intro x y z;simp only [ltE,decide_eq_false_iff_not];omega
theorem cmpE : Y4 (fun a b=>q9t a b) ltE inE:=by
  rintro x y ⟨c,f⟩ ⟨d,g⟩;refine ⟨x.at_ - y.at_,?_,?_⟩
  · show some (w64 (x.at_ - y.at_)) = _;rw [Qd q9]
  · unfold ltE;exact decide_eq_decide.2 q9
theorem qxl (p q : List qh) (hp : p.length≤500) (u : q.length≤500) (s : ∀ t∈p,vld t) (k : ∀ t∈q,vld t) :
    ∃ ys,q9u [p,q] = some ([p,q],ys)∧ys.Perm (evs p 0 ++ evs q 1)∧ys.Pairwise (fun x y=>x.at_≤y.at_):=by
  have n : ∀ x∈evs p 0 ++ evs q 1,inE x:=by
    intro x m;rcases List.mem_append.1 m with h | h
    · obtain ⟨_,_,t,g,h⟩:=qbd h;obtain ⟨a,b,c⟩:=s t g;unfold inE;rcases h with h | h <;> omega
    · obtain ⟨_,_,t,g,h⟩:=qbd h;obtain ⟨a,b,c⟩:=k t g;unfold inE;rcases h with h | h <;> omega
  have v:=q6r p 0;have w:=q6r q 1;obtain ⟨ys,r,j,l⟩:=qf2 cmpE swoE (evs p 0 ++ evs q 1) (by rw [List.length_append];omega) n;refine ⟨ys,?_,j,l.imp (fun {x y} h=>by simp only [ltE,decide_eq_false_iff_not] at h;omega)⟩
  have d : loop (q14 [p,q]) (0,[]) = some (evs p 0 ++ evs q 1):=by
    have s0 : q14 [p,q] (0,[]) = some (.inl (1,evs p 0)):=by
      have t : decide ((0 : Int) < (([p,q] : List (List qh)).length : Int)) = true:=rfl;simp only [q14,t,Q6];have : idx [p,q] 0 = some p:=rfl;rw [this];simp only [qr,qgq p 0 [] q9 [] qc,List.nil_append];rfl
    have s1 : q14 [p,q] (1,evs p 0) = some (.inl (2,evs p 0 ++ evs q 1)):=by
      have t : decide ((1 : Int) < (([p,q] : List (List qh)).length : Int)) = true:=rfl;simp only [q14,t,Q6];have : idx [p,q] 1 = some q:=rfl;rw [this];simp only [qr,qgq q 1 (evs p 0) q9 (evs p 0) q9];rfl
    have o : q14 [p,q] (2,evs p 0 ++ evs q 1) = some (.inr (evs p 0 ++ evs q 1)):=by
      have t : decide ((2 : Int) < (([p,q] : List (List qh)).length : Int)) = false:=rfl;simp only [q14,t,Q7]
    rw [Yi s0,Yi s1,Y3 o]
  unfold q9u;rw [d];simp only [qr,qxm,r];have le : Qv ys.length (evs p 0 ++ evs q 1).length = some ():=by unfold Qv;rw [qz j.length_eq]
  have f : Qv ys.length ys.length = some ():=by unfold Qv;rw [qz rfl]
  simp only [le,qr,qbz,f]
def cnt (l : Int) (c : Int→Bool) : List qn→Int
  | []=>0
  | e::es=>(if e.list_ = l∧c e.at_ = true then e.by_ else 0) + cnt l c es
theorem q22 (l : Int) (c : Int→Bool) (a b : List qn) : cnt l c (a ++ b) = cnt l c a + cnt l c b:=by
  induction a with
  | nil=>simp [cnt]
  | cons e a ih=>simp only [List.cons_append,cnt,ih];omega
theorem qga {l : Int} {c : Int→Bool} {a b : List qn} (h : a.Perm b) : cnt l c a = cnt l c b:=by
  induction h with
  | nil=>rfl
  | cons x _ ih=>simp only [cnt,ih]
  | swap x y l=>simp only [cnt];omega
  | trans _ _ ih1 ih2=>rw [ih1,ih2]
theorem qg7 {l : Int} {c b : Int→Bool} : ∀ {a : List qn},(∀ e∈a,c e.at_ = b e.at_)→cnt l c a = cnt l b a
  | [],_=>rfl
  | e::a,h=>by simp only [cnt,h e qc,qg7 (fun e d=>h e (List.mem_cons_of_mem _ d))]
theorem qg9 {l : Int} {c : Int→Bool} : ∀ {a : List qn},(∀ e∈a,c e.at_ = false)→cnt l c a = 0
  | [],_=>rfl
  | e::a,h=>by
    simp only [cnt,qg9 (fun e b=>h e (List.mem_cons_of_mem _ b)),h e qc]
    simp
theorem q6i {s : List qh} {l l' : Int} {c : Int→Bool} (h : l≠l') : cnt l c (evs s l') = 0:=by
  induction s with
  | nil=>rfl
  | cons t s ih=>
    have : evs (t::s) l' = [{at_:=t.Lo,list_:=l',by_:=1},{at_:=t.Hi,list_:=l',by_:=-1}] ++ evs s l':=rfl;rw [this,q22,ih];have a : ¬ l' = l:=fun e=>h e.symm;simp [cnt,a]
theorem qg8 {s : List qh} {l : Int} (v : ∀ t∈s,vld t) (x : Int) : 0≤cnt l (fun a=>decide (a≤x)) (evs s l)∧(0 < cnt l (fun a=>decide (a≤x)) (evs s l)↔has s x):=by
  induction s with
  | nil=>exact ⟨Int.le_refl 0,by simp [evs,cnt,has]⟩
  | cons t s ih=>
    obtain ⟨f,c⟩:=ih (fun t d=>v t (List.mem_cons_of_mem _ d));have b:=v t qc;have : evs (t::s) l = [{at_:=t.Lo,list_:=l,by_:=1},{at_:=t.Hi,list_:=l,by_:=-1}] ++ evs s l:=rfl;rw [this,q22,Zm,← c];obtain ⟨j,h,g⟩:=b;simp only [cnt,true_and,decide_eq_true_eq];split <;> split <;> omega
theorem qgb {s : List qh} {l : Int} : cnt l (fun _=>true) (evs s l) = 0:=by
  induction s with
  | nil=>rfl
  | cons t s ih=>
    have : evs (t::s) l = [{at_:=t.Lo,list_:=l,by_:=1},{at_:=t.Hi,list_:=l,by_:=-1}] ++ evs s l:=rfl;rw [this,q22,ih];simp [cnt]
theorem qct {l : Int} {c : Int→Bool} : ∀ {a : List qn},(∀ e∈a,e.by_ = 1∨e.by_ = -1)→-(a.length : Int)≤cnt l c a∧cnt l c a≤(a.length : Int)
  | [],_=>by simp [cnt]
  | e::a,h=>by
    obtain ⟨d,f⟩:=qct (l:=l) (c:=c) (fun e b=>h e (List.mem_cons_of_mem _ b))
    have:=h e qc
    simp only [cnt,List.length_cons]
    split <;> omega
end Go.Sh
namespace Go.Sh
open Go Go.Am
theorem qmw (at_ a : Int) (inn : Bool) (out : List qh) (h : out.length≤10000) :
    q9v at_ inn a out = some (if inn = true∧a≠at_ then addS out a at_ else out):=by
  unfold q9v
  cases inn with
  | false=>rfl
  | true=>
    by_cases b : a = at_
    · simp [b]
    · have hb : (a == at_) = false:=by simpa using b
      simp only [Bool.not_true,Q7,qr,hb];rw [qz ⟨trivial,b⟩];rcases qc0 out with rfl | ⟨d,t,rfl⟩
      · rfl
      · have l : (d ++ [t]).length = d.length + 1:=by simp
        have j : decide (((d ++ [t]).length : Int) > 0) = true:=Q8 q9;have g : w64 (((d ++ [t]).length : Int) - 1) = (d.length : Int):=by rw [Qd q9];omega
        have k : idx (d ++ [t]) (d.length : Int) = some t:=by
          rw [K0 q9];simp
        simp only [j,Q6,g,k,qr];by_cases c : t.Hi = a
        · subst c;simp only [beq_self_eq_true,Q6,qae,Int.toNat_natCast,qkd]
        · have f : (t.Hi == a) = false:=by simpa using c
          simp only [f,Q7,qaf c];rw [Ye (by simp;omega)];rfl
open Classical in
structure qlg (f : Bool→Bool→Bool) (p q : List qh) (ys : List qn) (k : Nat) (c : List Int × Int × Bool × List qh) : Prop where
  opn : c.1 = [cnt 0 (fun _=>true) (ys.take k),cnt 1 (fun _=>true) (ys.take k)]
  inn : c.2.2.1 = f (decide (0 < cnt 0 (fun _=>true) (ys.take k))) (decide (0 < cnt 1 (fun _=>true) (ys.take k)))
  lst : ∀ (h : k - 1 < ys.length),0 < k→c.2.1 = ys[k - 1].at_
  can : Can c.2.2.2
  his : ∀ t∈c.2.2.2,t.Hi≤c.2.1
  zro : k = 0→c.2.2.2 = []
  pts : ∀ x,has c.2.2.2 x↔0 < k∧x < c.2.1∧f (decide (has p x)) (decide (has q x)) = true
  len : c.2.2.2.length≤k
theorem qlh (c : List qh) (a b : Int) : (addS c a b).length≤c.length + 1:=by
  rcases qc0 c with rfl | ⟨d,t,rfl⟩
  · simp [qfh]
  · by_cases h : t.Hi = a
    · subst h;rw [qae];simp
    · rw [qaf h];simp
theorem qg6 {p q : List qh} {ys : List qn} (hp : ∀ t∈p,vld t) (f : ∀ t∈q,vld t) (b : ys.Perm (evs p 0 ++ evs q 1)) (_ : ys.Pairwise (fun x y=>x.at_≤y.at_)) (k : Nat) (x : Int)
    (g : ∀ i (h : i < ys.length),i < k→ys[i].at_≤x) (d : ∀ i (h : i < ys.length),k≤i→x < ys[i].at_) :
    (0 < cnt 0 (fun _=>true) (ys.take k)↔has p x)∧(0 < cnt 1 (fun _=>true) (ys.take k)↔has q x):=by
  have key : ∀ l,cnt l (fun _=>true) (ys.take k) = cnt l (fun a=>decide (a≤x)) (evs p 0) + cnt l (fun a=>decide (a≤x)) (evs q 1):=by
    intro l;rw [← q22,← qga b]
    conv=>rhs;rw [← List.take_append_drop k ys]
    rw [q22]
    have m : cnt l (fun a=>decide (a≤x)) (ys.drop k) = 0:=by
      refine qg9 fun e c=>?_;obtain ⟨i,hi,rfl⟩:=List.mem_iff_getElem.1 c;rw [List.getElem_drop];rw [List.length_drop] at hi;have:=d (k + i) q9 q9;exact Q9 q9
    have n : cnt l (fun a=>decide (a≤x)) (ys.take k) = cnt l (fun _=>true) (ys.take k):=by
      refine qg7 fun e c=>?_;obtain ⟨i,hi,rfl⟩:=List.mem_iff_getElem.1 c;rw [List.getElem_take];rw [List.length_take] at hi;exact Q8 (g i q9 q9)
    rw [m,n];omega
  rw [key 0,key 1,q6i (l:=0) (l':=1) Q3,q6i (l:=1) (l':=0) Q3];have e1:=qg8 (l:=0) hp x;have j:=qg8 (l:=1) f x;rw [Int.add_zero,Int.zero_add];exact ⟨e1.2,j.2⟩
open Classical in
theorem qpk (f : Bool→Bool→Bool) (hf : f false false = false) (p2 : Bool→Bool→Option Bool) (hp2 : ∀ a b,p2 a b = some (f a b)) (p q : List qh)
    (hp : p.length≤500) (hq : q.length≤500) (vp : ∀ t∈p,vld t) (vq : ∀ t∈q,vld t) :
    ∃ out,q63 p q p2 = some out∧Can out∧∀ x,has out x↔f (decide (has p x)) (decide (has q x)) = true:=by
  obtain ⟨ys,e1,g,hs⟩:=qxl p q hp hq vp vq;have bd : ys.length≤2000:=by rw [g.length_eq,List.length_append,q6r,q6r];omega
  have w : ∀ i j (hi : i < ys.length) (hj : j < ys.length),i≤j→ys[i].at_≤ys[j].at_:=by
    intro i j hi hj bl;rcases Nat.lt_or_ge i j with h | h
    · exact List.pairwise_iff_getElem.1 hs i j hi hj h
    · obtain rfl : i = j:=by omega
      exact Int.le_refl _
  have y : ∀ e∈ys,(e.list_ = 0∨e.list_ = 1)∧(e.by_ = 1∨e.by_ = -1):=by
    intro e he;rcases List.mem_append.1 (g.mem_iff.1 he) with h | h
    · obtain ⟨a,b,_⟩:=qbd h;exact ⟨.inl a,b⟩
    · obtain ⟨a,b,_⟩:=qbd h;exact ⟨.inr a,b⟩
  have:=Kx (f:=q46 ([p,q],ys) p2) (σ:=List Int × Int × Bool × List qh) (fun k c=>((k : Int),c)) ys.length (qlg f p q ys) (fun out=>Can out∧∀ x,has out x↔f (decide (has p x)) (decide (has q x)) = true) ?_ ?_ (k0:=0) (c0:=([0,0],0,false,[])) q9 ?_
  · obtain ⟨out,r,m⟩:=this;refine ⟨out,?_,m⟩;unfold q63;have r : loop (q46 ([p,q],ys) p2) (0,[0,0],0,false,[]) = some out:=r;rw [e1];simp only [qr,r];rfl
  · rintro k ⟨opn,d,inn,out⟩ hk ⟨s1,s2,s3,s4,s5,s6,s7,s8⟩;simp only at s1 s2 s3 s4 s5 s6 s7 s8;have ae : decide ((k : Int) < (ys.length : Int)) = true:=Q8 q9;have bc:=qmw ys[k].at_ d inn out q9;have hm:=y ys[k] (Kw hk);have ba : ys.take (k + 1) = ys.take k ++ [ys[k]]:=List.take_succ_eq_append_getElem hk;have aj : ∀ e∈ys.take k,e.by_ = 1∨e.by_ = -1:=fun e he=>(y e (List.mem_of_mem_take he)).2;have b0:=qct (l:=0) (c:=fun _=>true) aj;have b1:=qct (l:=1) (c:=fun _=>true) aj;have aq : (ys.take k).length = k:=by rw [List.length_take];omega
    rw [aq] at b0 b1
    have ad : ∃ v,idxA 2 opn ys[k].list_ = some v∧opn.set ys[k].list_.toNat (w64 (v + ys[k].by_)) = [cnt 0 (fun _=>true) (ys.take (k + 1)),cnt 1 (fun _=>true) (ys.take (k + 1))]:=by
      subst s1;rw [ba,q22,q22];rcases hm.1 with h | h
      · refine ⟨cnt 0 (fun _=>true) (ys.take k),by rw [h];rfl,?_⟩;rw [h,Qd q9];simp [cnt,h]
      · refine ⟨cnt 1 (fun _=>true) (ys.take k),by rw [h];rfl,?_⟩;rw [h,Qd q9];simp [cnt,h]
    obtain ⟨v,o1,o2⟩:=ad;refine .inl ⟨([cnt 0 (fun _=>true) (ys.take (k + 1)),cnt 1 (fun _=>true) (ys.take (k + 1))],ys[k].at_,f (decide (0 < cnt 0 (fun _=>true) (ys.take (k + 1)))) (decide (0 < cnt 1 (fun _=>true) (ys.take (k + 1)))),if inn = true∧d≠ys[k].at_ then addS out d ys[k].at_ else out),?_,?_⟩
    · have x0 : ∀ a b : Int,idxA 2 [a,b] 0 = some a:=fun a b=>rfl;have x1 : ∀ a b : Int,idxA 2 [a,b] 1 = some b:=fun a b=>rfl;simp only [q46,ae,Q6,K0 hk,qr,bc,o1,o2,x0,x1,hp2];rw [Qd q9];rfl
    · have ac : ∀ x,(0 < k→d≤x)→∀ i (h : i < ys.length),i < k→ys[i].at_≤x:=by
        intro x o i hi an;have:=s3 q9 q9;have:=w i (k - 1) hi q9 q9;have:=o q9;omega
      have ab : ∀ x,x < ys[k].at_→∀ i (h : i < ys.length),k≤i→x < ys[i].at_:=by
        intro x o i hi an;have:=w k i hk hi an;omega
      have hF : ∀ x,(0 < k→d≤x)→x < ys[k].at_→f (decide (has p x)) (decide (has q x)) = inn:=by
        intro x o ap;obtain ⟨c1,c2⟩:=qg6 vp vq g hs k x (ac x o) (ab x ap);rw [s2,decide_eq_decide.2 c1,decide_eq_decide.2 c2]
      have n : 0 < k→d≤ys[k].at_:=by
        intro u;rw [s3 q9 u];exact w (k - 1) k q9 hk q9
      have z : k = 0→inn = false:=by
        intro u;subst u;rw [s2];exact hf
      by_cases s : inn = true∧d≠ys[k].at_
      · have ai : 0 < k:=by
          rcases Nat.eq_zero_or_pos k with h | h
          · rw [z h] at s;cases s.1
          · exact h
        have hl:=n ai;have az : d < ys[k].at_:=by have:=s.2;omega
        obtain ⟨d1,d2,d3,d4⟩:=qfi s4 s5 az;constructor
        · rfl
        · rfl
        · intro h _;rfl
        · simp only [qz s];exact d1
        · simp only [qz s];exact d3
        · omega
        · intro x;simp only [qz s];rw [d2,s7];constructor
          · rintro (⟨u,r,m⟩ | ⟨r,m⟩)
            · exact ⟨q9,q9,m⟩
            · exact ⟨q9,m,by rw [hF x (fun _=>r) m];exact s.1⟩
          · rintro ⟨u,r,m⟩;by_cases o : x < d
            · exact .inl ⟨ai,o,m⟩
            · exact .inr ⟨q9,r⟩
        · simp only [qz s];have:=qlh out d ys[k].at_;omega
      · constructor
        · rfl
        · rfl
        · intro h _;rfl
        · simp only [qy s];exact s4
        · simp only [qy s];intro t ht;rcases Nat.eq_zero_or_pos k with h | h
          · rw [s6 h] at ht;cases ht
          · have:=s5 t ht;have:=n h;omega
        · omega
        · intro x;simp only [qy s];rw [s7];constructor
          · rintro ⟨u,r,m⟩;exact ⟨q9,by have:=n u;omega,m⟩
          · rintro ⟨u,r,m⟩;by_cases o : 0 < k∧x < d
            · exact ⟨o.1,o.2,m⟩
            · have ak : 0 < k→d≤x:=fun h=>by
                refine Int.not_lt.1 fun h'=>o ⟨h,h'⟩
              have:=hF x ak r;rw [this] at m;refine absurd ⟨m,?_⟩ s;intro e;rcases Nat.eq_zero_or_pos k with h | h
              · rw [z h] at m;cases m
              · have:=ak h;omega
        · simp only [qy s];omega
  · rintro ⟨opn,d,inn,out⟩ ⟨s1,s2,s3,s4,s5,s6,s7,s8⟩;simp only at s1 s2 s3 s4 s5 s6 s7 s8;have ae : decide ((ys.length : Int) < (ys.length : Int)) = false:=Q9 q9;refine ⟨out,by simp only [q46,ae,Q7],s4,fun x=>?_⟩;rw [s7];constructor
    · rintro ⟨_,_,h⟩;exact h
    · intro h;by_cases o : 0 < ys.length∧x < d
      · exact ⟨o.1,o.2,h⟩
      · obtain ⟨c1, c2⟩ := qg6 vp vq g hs ys.length x (fun i hi _ => by
            have:=s3 q9 q9;have:=w i (ys.length - 1) hi q9 q9;have : d≤x:=Int.not_lt.1 fun h'=>o ⟨q9,h'⟩
            omega) (fun i hi bi=>q9)
        have aw : ∀ l,cnt l (fun _=>true) (ys.take ys.length) = 0:=by
          intro l;rw [List.take_length,qga g,q22];by_cases u : l = 0
          · subst u;rw [qgb,q6i Q3];rfl
          · rw [q6i u];by_cases r : l = 1
            · subst r;rw [qgb];rfl
            · rw [q6i r];rfl
        rw [aw] at c1 c2;have n1 : ¬ has p x:=fun h=>absurd (c1.2 h) Q3;have n2 : ¬ has q x:=fun h=>absurd (c2.2 h) Q3;rw [Q9 n1,Q9 n2,hf] at h;cases h
  · constructor
    · simp [cnt]
    · simp [cnt,hf]
    · intro h u;omega
    · exact ⟨fun t ht=>(by cases ht),.nil⟩
    · intro t ht;cases ht
    · intro _;rfl
    · intro x;simp [has]
    · simp
end Go.Sh
namespace Go.Sh
open Go Go.Am
theorem qmt {s : List qh} (h : Ui s = 0) : s.length≤400∧Good s:=by
  unfold Ui at h;split at h
  · cases h
  · split at h
    · rename_i b a;exact ⟨q9,a⟩
    · cases h
def dst (x : Int) (t : qh) : Int:=max (max (t.Lo - x) (x - t.Hi + 1)) 0
end Go.Sh
namespace Go.Sh
open Go Go.Am
noncomputable def Jj (kind : Int) (p q : List qh) : List qh:=(qbr kind p q).getD []
theorem qhn (kind : Int) (p q : List qh) (hp : p.length≤100000) (b : q.length≤100000) : qbr kind p q = some (Jj kind p q)∧qce kind p q (Jj kind p q):=by
  obtain ⟨out,a,c⟩:=qpm kind p q hp b;unfold Jj;rw [a];exact ⟨rfl,c⟩
theorem qpb (s : List qh) (b : qh→Option Bool) (c : qh→Bool) (h : ∀ t,b t = some (c t)) (p : s.length≤1000000) :
    ∃ r,q7n s b = some r∧decide (r ≥ 0) = s.any c:=by
  have:=Kx (f:=q2r s b) (σ:=Unit) (fun k _=>(k : Int)) s.length (fun k _=>∀ i (h : i < s.length),i < k→c s[i] = false)
    (fun m=>∃ r : Int,(match m with | .inl b22=>some (-1) | .inr x1=>some x1) = some r∧decide (r ≥ 0) = s.any c) ?_ ?_ (k0:=0) (c0:=()) q9 (fun i _ hi=>q9)
  · obtain ⟨m,g,r,j,n⟩:=this;have g : loop (q2r s b) 0 = some m:=g;exact ⟨r,by unfold q7n;rw [g];exact j,n⟩
  · rintro k _ hk hi;have hb : decide ((k : Int) < (s.length : Int)) = true:=Q8 q9
    cases d : c s[k] with
    | true=>
      refine .inr ⟨.inr (k : Int),?_,(k : Int),rfl,?_⟩
      · simp only [q2r,hb,Q6,K0 hk,qr,h,d]
      · have : s.any c = true:=List.any_eq_true.2 ⟨s[k],Kw hk,d⟩;rw [this];exact Q8 q9
    | false=>
      refine .inl ⟨(),?_,?_⟩
      · simp only [q2r,hb,Q6,K0 hk,qr,h,d,Q7];rw [Qd q9];rfl
      · intro i a o;by_cases e : i = k
        · subst e;exact d
        · exact hi i a q9
  · rintro _ hi;have hb : decide ((s.length : Int) < (s.length : Int)) = false:=Q9 q9;refine ⟨.inl (),by simp only [q2r,hb,Q7],-1,rfl,?_⟩
    have : s.any c = false:=by
      rw [List.any_eq_false];intro t l;obtain ⟨i,a,rfl⟩:=List.mem_iff_getElem.1 l;simp [hi i a a]
    rw [this];rfl
theorem qgg (s : List qh) (a : qh→Option Bool) (c : qh→Bool) (h : ∀ t,a t = some (c t)) (b : s.length≤1000000) : q5e s a = some (s.any c):=by
  obtain ⟨r,f,d⟩:=qpb s a c h b;unfold q5e;rw [f,qr,d]
open Classical in
theorem q4m (s : List qh) (x : Int) (c : s.length≤1000000) : q13 s x = some (decide (has s x)):=by
  unfold q13
  rw [qgg s _ (fun t=>decide (t.Lo≤x∧x < t.Hi)) (fun t=>by
    show (cond (decide (t.Lo≤x)) (some (decide (x < t.Hi))) (some false)).bind (fun c1=>some c1) = _;by_cases a : t.Lo≤x
    · simp [a]
    · simp [a]) c,qr]
  congr 1;by_cases h : has s x
  · rw [Q8 h,List.any_eq_true];obtain ⟨t,b,h⟩:=h;exact ⟨t,b,Q8 h⟩
  · rw [Q9 h,List.any_eq_false];intro t b a;exact h ⟨t,b,of_decide_eq_true a⟩
open Classical in
noncomputable def qb9 (s : List qh) : List qh × Int:=if 400 < s.length then ([],4) else if ∀ t∈s,vld t then (Jj 2 s [],0) else ([],8)
theorem qqb (s : List qh) (k : s.length≤400) (c : ∀ t∈s,vld t) (p2 : Bool→Bool→Option Bool) (hp2 : ∀ a b,p2 a b = some a) : q63 s [] p2 = some (Jj 2 s []):=by
  classical
  obtain ⟨out,f,d,h⟩:=qpk (fun a _=>a) rfl p2 hp2 s [] q9 qc c (fun t g=>by cases g);obtain ⟨_,j⟩:=qhn 2 s [] q9 qc;rw [f];congr 1;refine qfx d j.can fun x=>?_;rw [h,j.pts];simp [q1k,Uy]
theorem qqa (s : List qh) : q1u s = some (qb9 s):=by
  classical
  unfold q1u qb9;by_cases f : 400 < s.length
  · have e : decide ((s.length : Int) > 400) = true:=Q8 q9;rw [e,qz f];rfl
  · have e : decide ((s.length : Int) > 400) = false:=Q9 q9;rw [e,qy f,Q7,qgg s _ (fun t=>!decide (vld t)) (fun t=>by show (q2s t).bind _ = _;rw [ql5];rfl) q9,qr];by_cases c : ∀ t∈s,vld t
    · have : (s.any fun t=>!decide (vld t)) = false:=by
        rw [List.any_eq_false];intro t d;simp [c t d]
      rw [this,Q7,qz c,qqb s q9 c (fun g j=>q9s g j) (fun a b=>rfl)];rfl
    · have : (s.any fun t=>!decide (vld t)) = true:=by
        rw [List.any_eq_true];obtain ⟨t,c⟩:=Classical.not_forall.1 c;obtain ⟨d,h⟩:=Classical.not_imp.1 c;exact ⟨t,d,by simp [h]⟩
      rw [this,Q6,qy c]
def lenL : List qh→Int
  | []=>0
  | t::s=>(t.Hi - t.Lo) + lenL s
theorem qhx (a b : List qh) : lenL (a ++ b) = lenL a + lenL b:=by
  induction a with
  | nil=>simp [lenL]
  | cons t a ih=>simp only [List.cons_append,lenL,ih];omega
theorem qhy : ∀ {s : List qh},(∀ t∈s,vld t)→0≤lenL s∧lenL s≤2000000 * (s.length : Int)
  | [],_=>by simp [lenL]
  | t::s,h=>by
    obtain ⟨d,b⟩:=qhy (fun t a=>h t (List.mem_cons_of_mem _ a))
    obtain ⟨g,f,c⟩:=h t qc
    simp only [lenL,List.length_cons]
    omega
noncomputable def qdn (s : List qh) : Int × Int:=if Ui s = 0 then (lenL s,0) else (0,Ui s)
theorem qps (s : List qh) (n : s.length≤400) (d : ∀ t∈s,vld t) : loop (q9r s) (0,0) = some (lenL s)∧loop (q7i s) (0,0) = some (lenL s):=by
  have a : ∀ k,0≤lenL (s.take k)∧lenL (s.take k)≤800000000:=by
    intro k;have:=qhy (s:=s.take k) (fun t m=>d t (List.mem_of_mem_take m));have : (s.take k).length≤400:=by rw [List.length_take];omega
    omega
  constructor
  · have:=Kx (f:=q9r s) (σ:=Int) (fun k c=>(c,(k : Int))) s.length (fun k c=>c = lenL (s.take k)) (fun r=>r = lenL s) ?_ ?_ (k0:=0) (c0:=0) q9 (by simp [lenL])
    · obtain ⟨b,g,rfl⟩:=this;exact g
    · rintro k c hk rfl;have hb : decide ((k : Int) < (s.length : Int)) = true:=Q8 q9;obtain ⟨l,j,h⟩:=d _ (Kw hk);have:=a k;refine .inl ⟨lenL (s.take (k + 1)),?_,rfl⟩;simp only [q9r,hb,Q6,K0 hk,qr];rw [Qd (x:=s[k].Hi - s[k].Lo) q9,Qd (x:=lenL (s.take k) + _) q9,Qd q9,List.take_succ_eq_append_getElem hk,qhx];simp only [lenL,Int.add_zero];rfl
    · rintro c rfl;have hb : decide ((s.length : Int) < (s.length : Int)) = false:=Q9 q9;exact ⟨_,by simp only [q9r,hb,Q7];rfl,by rw [List.take_length]⟩
  · have:=Kx (f:=q7i s) (σ:=Int) (fun k c=>(c,(k : Int))) s.length (fun k c=>c = lenL (s.take k)) (fun r=>r = lenL s) ?_ ?_ (k0:=0) (c0:=0) q9 (by simp [lenL])
    · obtain ⟨b,g,rfl⟩:=this;exact g
    · rintro k c hk rfl;have hb : decide ((k : Int) < (s.length : Int)) = true:=Q8 q9;obtain ⟨l,j,h⟩:=d _ (Kw hk);have:=a k;refine .inl ⟨lenL (s.take (k + 1)),?_,rfl⟩;simp only [q7i,hb,Q6,K0 hk,qr];rw [Qd (x:=lenL (s.take k) + s[k].Hi) q9,Qd (x:=lenL (s.take k) + s[k].Hi - _) q9,Qd q9,List.take_succ_eq_append_getElem hk,qhx];have : lenL (s.take k) + s[k].Hi - s[k].Lo = lenL (s.take k) + lenL [s[k]]:=by simp only [lenL];omega
      rw [this];rfl
    · rintro c rfl;have hb : decide ((s.length : Int) < (s.length : Int)) = false:=Q9 q9;exact ⟨_,by simp only [q7i,hb,Q7];rfl,by rw [List.take_length]⟩
theorem qz9 (s : List qh) : qkp s = some (qdn s)∧qjn s = some (qdn s):=by
  unfold qkp qjn qdn;simp only [qg2,qu6,qr];by_cases h : Ui s = 0
  · obtain ⟨c,d⟩:=qmt h;obtain ⟨a,b⟩:=qps s c d.1;have e : (Ui s != 0) = false:=by simpa using h
    simp only [e,Q7,a,b,qr];simp only [h,if_true];exact ⟨trivial,trivial⟩
  · have e : (Ui s != 0) = true:=by simpa using h
    simp only [e,Q6,qy h];exact ⟨trivial,trivial⟩
end Go.Sh
namespace Go.Sh
open Go Go.Am
section
variable {α β : Type} [DecidableEq α]
theorem qbh {z : β} {k : α} {v : β} : ∀ {R : List (α × β)},(R.map (·.1)).Nodup→(k,v)∈R→K5 z k R = v
  | [],_,h=>by cases h
  | (a,w)::r,hn,h=>by
    simp only [List.map_cons,List.nodup_cons] at hn
    simp only [K5]
    rcases List.mem_cons.1 h with h | h
    · cases h;rw [qz rfl]
    · have : k≠a:=fun e=>hn.1 (e ▸ List.mem_map_of_mem (f:=(·.1)) h)
      rw [qy this];exact qbh hn.2 h
theorem qbi {z : β} {k : α} : ∀ {R : List (α × β)},k ∉ R.map (·.1)→K5 z k R = z
  | [],_=>rfl
  | (a,w)::r,h=>by
    simp only [List.map_cons,List.mem_cons,not_or] at h
    simp only [K5,qy h.1];exact qbi h.2
theorem qds {k : α} {v : β} : ∀ {R : List (α × β)},(R.map (·.1)).Nodup→∀ a w,((a,w)∈Kl k v R↔(a = k∧w = v)∨(a≠k∧(a,w)∈R))
  | [],_,a,w=>by simp [Kl]
  | (b,u)::r,hn,a,w=>by
    simp only [List.map_cons,List.nodup_cons] at hn
    simp only [Kl]
    by_cases e : k = b
    · subst e
      rw [qz rfl,List.mem_cons,Prod.mk.injEq,List.mem_cons,Prod.mk.injEq]
      constructor
      · rintro (h | h)
        · exact .inl h
        · exact .inr ⟨fun e=>hn.1 (e ▸ List.mem_map_of_mem (f:=(·.1)) h),.inr h⟩
      · rintro (h | ⟨c,h | h⟩)
        · exact .inl h
        · exact absurd h.1 c
        · exact .inr h
    · rw [qy e,List.mem_cons,qds hn.2 a w,List.mem_cons,Prod.mk.injEq]
      constructor
      · rintro (⟨rfl,rfl⟩ | h | ⟨c,d⟩)
        · exact .inr ⟨fun h=>e h.symm,.inl ⟨rfl,rfl⟩⟩
        · exact .inl h
        · exact .inr ⟨c,.inr d⟩
      · rintro (h | ⟨c,h | h⟩)
        · exact .inr (.inl h)
        · exact .inl h
        · exact .inr (.inr ⟨c,h⟩)
theorem q77 {k : α} {v : β} : ∀ {R : List (α × β)} (a : α),a∈(Kl k v R).map (·.1)↔a = k∨a∈R.map (·.1)
  | [],a=>by simp [Kl]
  | (b,u)::r,a=>by
    simp only [Kl]
    by_cases e : k = b
    · subst e;simp
    · simp only [e,if_false,List.map_cons,List.mem_cons,q77 a];constructor <;> (rintro (h | h | h) <;> simp [h])
theorem qe1 {k : α} {v : β} : ∀ {R : List (α × β)},(R.map (·.1)).Nodup→((Kl k v R).map (·.1)).Nodup
  | [],_=>by simp [Kl]
  | (b,u)::r,hn=>by
    simp only [List.map_cons,List.nodup_cons] at hn
    simp only [Kl]
    by_cases e : k = b
    · subst e;simp only [if_true,List.map_cons,List.nodup_cons];exact hn
    · simp only [e,if_false,List.map_cons,List.nodup_cons]
      refine ⟨fun h=>?_,qe1 hn.2⟩
      rcases (q77 b).1 h with h | h
      · exact e h.symm
      · exact hn.1 h
theorem qil {k : α} {v : β} : ∀ {R : List (α × β)},(Kl k v R).length≤R.length + 1
  | []=>by simp [Kl]
  | (b,u)::r=>by
    simp only [Kl]
    have:=qil (k:=k) (v:=v) (R:=r)
    split <;> simp <;> omega
end
def hk (s : Qw) : Option (Int × qh):=if s.A.Y = s.B.Y then some (s.A.Y,{Lo:=min s.A.X s.B.X,Hi:=max s.A.X s.B.X}) else none
def vk (s : Qw) : Option (Int × qh):=if s.A.Y = s.B.Y then none else some (s.A.X,{Lo:=min s.A.Y s.B.Y,Hi:=max s.A.Y s.B.Y})
def onL (L : List (Int × qh)) (k x : Int) : Prop:=∃ p∈L,p.1 = k∧p.2.Lo≤x∧x < p.2.Hi
def Y5 (L : List (Int × qh)) (k : Int) : List qh:=(L.filter fun p=>decide (p.1 = k)).map (·.2)
theorem q3d {L : List (Int × qh)} {k : Int} {t : qh} : t∈Y5 L k↔(k,t)∈L:=by
  simp only [Y5,List.mem_map,List.mem_filter,decide_eq_true_eq];constructor
  · rintro ⟨⟨a,b⟩,⟨c,rfl⟩,rfl⟩;exact c
  · intro h;exact ⟨(k,t),⟨h,rfl⟩,rfl⟩
theorem q1v {L : List (Int × qh)} {k : Int} : (Y5 L k).length≤L.length:=by
  simp only [Y5,List.length_map];exact List.length_filter_le _ _
theorem qhi {L : List (Int × qh)} {k x : Int} : has (Y5 L k) x↔onL L k x:=by
  constructor
  · rintro ⟨t,b,h⟩;exact ⟨(k,t),q3d.1 b,rfl,h⟩
  · rintro ⟨⟨a,t⟩,b,rfl,h⟩;exact ⟨t,q3d.2 b,h⟩
theorem q9w {L : List (Int × qh)} {k : Int} {t : qh} (a : Int) : Y5 (L ++ [(k,t)]) a = Y5 L a ++ (if a = k then [t] else []):=by
  simp only [Y5,List.filter_append,List.map_append,List.append_cancel_left_eq];by_cases e : k = a
  · subst e;simp
  · have : ¬ a = k:=fun h=>e h.symm;simp [e,this]
structure Grp (L : List (Int × qh)) (R : List (Int × List qh)) : Prop where
  nd : (R.map (·.1)).Nodup
  val : ∀ k v,(k,v)∈R→v = Y5 L k
  all : ∀ k t,(k,t)∈L→k∈R.map (·.1)
  own : ∀ k,k∈R.map (·.1)→∃ t,(k,t)∈L
theorem Grp.get {L : List (Int × qh)} {R : List (Int × List qh)} (h : Grp L R) (k : Int) : K5 [] k R = Y5 L k:=by
  by_cases hk : k∈R.map (·.1)
  · obtain ⟨⟨a,v⟩,b,rfl⟩:=List.mem_map.1 hk;rw [qbh h.nd b];exact h.val _ _ b
  · rw [qbi hk];symm;refine List.eq_nil_iff_forall_not_mem.2 fun t c=>?_;exact hk (h.all k t (q3d.1 c))
theorem Grp.put {L : List (Int × qh)} {R : List (Int × List qh)} (h : Grp L R) (k : Int) (t : qh) : Grp (L ++ [(k,t)]) (Kl k (Y5 L k ++ [t]) R):=by
  refine ⟨qe1 h.nd,fun a v f=>?_,fun a u d=>?_,fun a c=>?_⟩
  · rw [q9w];rcases (qds h.nd a v).1 f with ⟨rfl,rfl⟩ | ⟨b,g⟩
    · rw [qz rfl]
    · rw [qy b,List.append_nil];exact h.val a v g
  · rw [q77];rcases List.mem_append.1 d with b | b
    · exact .inr (h.all a u b)
    · simp only [List.mem_singleton,Prod.mk.injEq] at b;exact .inl b.1
  · rcases (q77 a).1 c with rfl | c
    · exact ⟨t,qc⟩
    · obtain ⟨u,d⟩:=h.own a c;exact ⟨u,by simp [d]⟩
theorem Grp.nil : Grp [] []:=⟨.nil,fun _ _ h=>(by cases h),fun _ _ h=>(by cases h),fun _ h=>(by cases h)⟩
theorem Grp.len {L : List (Int × qh)} {R : List (Int × List qh)} (h : Grp L R) : R.length≤L.length:=by
  have : (R.map (·.1)).length≤(L.map (·.1)).length:=by
    refine List.Nodup.length_le_of_subset h.nd fun k hk=>?_;obtain ⟨t,a⟩:=h.own k hk;exact List.mem_map_of_mem (f:=(·.1)) a
  simpa using this
structure Rep (R : List (Int × List qh)) (F : Int→Int→Prop) : Prop where
  nd : (R.map (·.1)).Nodup
  good : ∀ k v,(k,v)∈R→Good v
  len : ∀ k v,(k,v)∈R→v.length≤800
  pts : ∀ k v,(k,v)∈R→∀ x,has v x↔F k x
  all : ∀ k x,F k x→k∈R.map (·.1)
  cnt : R.length≤400
  key : ∀ k∈R.map (·.1),-1000000≤k∧k≤1000000
theorem Rep.get {R : List (Int × List qh)} {F : Int→Int→Prop} (h : Rep R F) (k x : Int) : has (K5 [] k R) x↔F k x:=by
  by_cases hk : k∈R.map (·.1)
  · obtain ⟨⟨a,v⟩,c,rfl⟩:=List.mem_map.1 hk;rw [qbh h.nd c];exact h.pts _ _ c x
  · rw [qbi hk];exact ⟨fun b=>absurd b (Uy x),fun b=>absurd (h.all k x b) hk⟩
theorem Rep.getlen {R : List (Int × List qh)} {F : Int→Int→Prop} (h : Rep R F) (k : Int) : (K5 [] k R).length≤800:=by
  by_cases hk : k∈R.map (·.1)
  · obtain ⟨⟨a,v⟩,b,rfl⟩:=List.mem_map.1 hk;rw [qbh h.nd b];exact h.len _ _ b
  · rw [qbi hk];simp
theorem qcv {L : List (Int × qh)} (d : L.length≤400) (b : ∀ k t,(k,t)∈L→vld t) : ∀ {R : List (Int × List qh)},(∀ k v,(k,v)∈R→v = Y5 L k)→Jc R = some (R.map fun e=>(e.1,Jj 2 (Y5 L e.1) []))
  | [],_=>rfl
  | (k,v)::r,h=>by
    have e:=h k v qc
    have j:=qcv d b (R:=r) fun a w c=>h a w (by simp [c])
    have l:=q1v (L:=L) (k:=k)
    have g : qb9 v = (Jj 2 (Y5 L k) [],0):=by
      subst e;unfold qb9;rw [qy q9,qz fun t f=>b k t (q3d.1 f)]
    simp only [Jc,qqa,g,qr,j,List.map_cons]
theorem qk1 {L : List (Int × qh)} {R : List (Int × List qh)} (h : Grp L R) (p : L.length≤400) (m : ∀ k t,(k,t)∈L→vld t) (hb : ∀ k t,(k,t)∈L→-1000000≤k∧k≤1000000) : Rep (R.map fun e=>(e.1,Jj 2 (Y5 L e.1) [])) (onL L):=by
  have J : ∀ k,qce 2 (Y5 L k) [] (Jj 2 (Y5 L k) []):=fun k=>(qhn 2 _ _ (by have:=q1v (L:=L) (k:=k);omega) qc).2
  have c : ∀ k v,(k,v)∈(R.map fun e=>(e.1,Jj 2 (Y5 L e.1) []))→v = Jj 2 (Y5 L k) []:=by
    intro k v f;obtain ⟨e,q,n⟩:=List.mem_map.1 f;cases n;rfl
  have b : (R.map fun e=>(e.1,Jj 2 (Y5 L e.1) [])).map (·.1) = R.map (·.1):=by simp
  refine ⟨by rw [b];exact h.nd,fun k v f=>?_,fun k v f=>?_,fun k v f x=>?_,fun k x d=>?_,?_,fun k hk=>?_⟩
  · rw [c k v f];refine ⟨fun t g=>⟨(J k).can.1 t g,?_⟩,(J k).can.2⟩;obtain ⟨e1,o⟩:=(J k).ends t g
    have j : ∀ x,x∈ends (Y5 L k)∨x∈ends []→-1000000≤x∧x≤1000000:=by
      rintro x (d | d)
      · obtain ⟨u,l,d⟩:=q73.1 d;have:=m k u (q3d.1 l);unfold vld at this;rcases d with rfl | rfl <;> omega
      · cases d
    exact ⟨(j _ e1).1,(j _ o).2⟩
  · rw [c k v f];have:=(J k).len;have:=q1v (L:=L) (k:=k);simp only [List.length_nil,Nat.add_zero] at *;omega
  · rw [c k v f,(J k).pts,qhi];simp [q1k,Uy]
  · rw [b];obtain ⟨⟨a,t⟩,hp,rfl,_⟩:=d;exact h.all _ _ hp
  · have:=h.len;simp;omega
  · rw [b] at hk;obtain ⟨t,g⟩:=h.own k hk;exact hb k t g
theorem qn0 {r : Y8} {s : Qw} {L M : List (Int × qh)} (c : Grp L r.rows_) (b : Grp M r.columns_) (g : L.length≤1000) (f : M.length≤1000) : ∃ a,Uj r s = some a∧Grp (L ++ (hk s).toList) a.rows_∧Grp (M ++ (vk s).toList) a.columns_:=by
  unfold Uj hk vk;by_cases e : s.A.Y = s.B.Y
  · have d : (s.A.Y == s.B.Y) = true:=by simpa using e
    rw [d,Q6,c.get,Ye (by have:=q1v (L:=L) (k:=s.A.Y);simp;omega),qz e,qz e];refine ⟨_,rfl,c.put _ _,by simpa using b⟩
  · have d : (s.A.Y == s.B.Y) = false:=by simpa using e
    rw [d,Q7,b.get,Ye (by have:=q1v (L:=M) (k:=s.A.X);simp;omega),qy e,qy e];refine ⟨_,rfl,by simpa using c,b.put _ _⟩
theorem qgd : ∀ (l : List Qw) {r : Y8} {L M : List (Int × qh)},Grp L r.rows_→Grp M r.columns_→L.length + l.length≤1000→M.length + l.length≤1000→∃ a,q18 l r = some a∧Grp (L ++ l.filterMap hk) a.rows_∧Grp (M ++ l.filterMap vk) a.columns_
  | [],r,L,M,h1,h2,_,_=>⟨r,rfl,by simpa using h1,by simpa using h2⟩
  | s::l,r,L,M,h1,h2,hl,hm=>by
    simp only [List.length_cons] at hl hm
    obtain ⟨n,e1,f,d⟩:=qn0 (s:=s) h1 h2 q9 q9
    have m : (hk s).toList.length≤1:=by cases hk s <;> simp
    have k : (vk s).toList.length≤1:=by cases vk s <;> simp
    obtain ⟨b,g,j,c⟩:=qgd l f d (by simp;omega) (by simp;omega)
    refine ⟨b,by simp only [q18,e1,qr,g],?_,?_⟩
    · have : L ++ (s::l).filterMap hk = L ++ (hk s).toList ++ l.filterMap hk:=by cases h : hk s <;> simp [h]
      rw [this];exact j
    · have : M ++ (s::l).filterMap vk = M ++ (vk s).toList ++ l.filterMap vk:=by cases h : vk s <;> simp [h]
      rw [this];exact c
structure SegV (s : Qw) : Prop where
  a : -1000000≤s.A.X∧s.A.X≤1000000∧-1000000≤s.A.Y∧s.A.Y≤1000000
  b : -1000000≤s.B.X∧s.B.X≤1000000∧-1000000≤s.B.Y∧s.B.Y≤1000000
  or : (s.A.X = s.B.X∧s.A.Y≠s.B.Y)∨(s.A.X≠s.B.X∧s.A.Y = s.B.Y)
def q1s (l : List Qw) : List (Int × qh):=l.filterMap hk
def q19 (l : List Qw) : List (Int × qh):=l.filterMap vk
theorem qid {l : List Qw} {k : Int} {t : qh} : (k,t)∈q1s l↔∃ s∈l,s.A.Y = s.B.Y∧k = s.A.Y∧t = {Lo:=min s.A.X s.B.X,Hi:=max s.A.X s.B.X}:=by
  simp only [q1s,List.mem_filterMap,hk];constructor
  · rintro ⟨s,hs,h⟩;split at h
    · cases h;exact ⟨s,hs,by assumption,rfl,rfl⟩
    · cases h
  · rintro ⟨s,hs,a,rfl,rfl⟩;exact ⟨s,hs,by rw [qz a]⟩
theorem qia {l : List Qw} {k : Int} {t : qh} : (k,t)∈q19 l↔∃ s∈l,s.A.Y≠s.B.Y∧k = s.A.X∧t = {Lo:=min s.A.Y s.B.Y,Hi:=max s.A.Y s.B.Y}:=by
  simp only [q19,List.mem_filterMap,vk];constructor
  · rintro ⟨s,hs,h⟩;split at h
    · cases h
    · cases h;exact ⟨s,hs,by assumption,rfl,rfl⟩
  · rintro ⟨s,hs,a,rfl,rfl⟩;exact ⟨s,hs,by rw [qy a]⟩
theorem qv7 (l : List Qw) : (q1s l).length≤l.length:=List.length_filterMap_le _ _
theorem qn4 (l : List Qw) : (q19 l).length≤l.length:=List.length_filterMap_le _ _
theorem qer {l : List Qw} (h : ∀ s∈l,SegV s) : ∀ k t,(k,t)∈q1s l→vld t:=by
  intro k t a;obtain ⟨s,hs,m,_,rfl⟩:=qid.1 a;obtain ⟨⟨g,j,n,b⟩,⟨b1,c,f,d⟩,o⟩:=h s hs;unfold vld;simp only;omega
theorem qk7 {l : List Qw} (h : ∀ s∈l,SegV s) : ∀ k t,(k,t)∈q1s l→-1000000≤k∧k≤1000000:=by
  intro k t b;obtain ⟨s,hs,c,rfl,rfl⟩:=qid.1 b;exact ⟨(h s hs).a.2.2.1,(h s hs).a.2.2.2⟩
theorem qge {l : List Qw} (h : ∀ s∈l,SegV s) : ∀ k t,(k,t)∈q19 l→-1000000≤k∧k≤1000000:=by
  intro k t b;obtain ⟨s,hs,c,rfl,rfl⟩:=qia.1 b;exact ⟨(h s hs).a.1,(h s hs).a.2.1⟩
theorem qcx {l : List Qw} (h : ∀ s∈l,SegV s) : ∀ k t,(k,t)∈q19 l→vld t:=by
  intro k t a;obtain ⟨s,hs,m,_,rfl⟩:=qia.1 a;obtain ⟨⟨g,j,n,b⟩,⟨b1,c,f,d⟩,o⟩:=h s hs;unfold vld;simp only;omega
theorem qn2 {l : List Qw} (d : l.length≤400) (a : ∀ s∈l,SegV s) : ∃ r,qa1 l = some r∧Rep r.rows_ (onL (q1s l))∧Rep r.columns_ (onL (q19 l)):=by
  obtain ⟨r,e,c,b⟩:=qgd l (r:={rows_:=[],columns_:=[]}) .nil .nil (by simp;omega) (by simp;omega);simp only [List.nil_append] at c b;have f:=qv7 l;have g:=qn4 l;refine ⟨{rows_:=_,columns_:=_},?_,qk1 c (by show (q1s l).length≤400;omega) (qer a) (qk7 a),qk1 b (by show (q19 l).length≤400;omega) (qcx a) (qge a)⟩;unfold qa1;rw [Q8 (show l.length≤1000000 by omega),Q6,e,qr,qcv (L:=q1s l) q9 (qer a) c.val,qr,qcv (L:=q19 l) q9 (qcx a) b.val];rfl
end Go.Sh
