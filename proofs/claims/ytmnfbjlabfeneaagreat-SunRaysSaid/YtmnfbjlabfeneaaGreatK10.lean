/- Pg4 Pg5 Pg6 Pj1 Pj2 Pl4 Pj3 Po1 -/
import Derived.Test.YtmnfbjlabfeneaaGreatK9
namespace Go.Sh
open Go Go.Am
section
variable {T : Type} [Inhabited T] {P : T→Prop} {lt : T→T→Bool} {q : T→T→Option Int}
theorem qe8 {f : Int→Option (Int ⊕ Int)} (p : T→Bool) (d : Array T) (j : Nat)
    (b : ∀ k : Nat,k≤1000002→f (k : Int) = if (decide (k≤j) && p d[k]!) = true then some (.inl ((k + 1 : Nat) : Int)) else some (.inr (k : Int))) (g : j≤1000000) :
    ∀ (m i : Nat),j + 1 - i = m→i≤1000002→loop f (i : Int) = some ((Sort.scanUp p d j i : Nat) : Int):=by
  intro m
  induction m with
  | zero=>
    intro i c hi;unfold Sort.scanUp;have a : ¬ (decide (i≤j) && p d[i]!) = true:=by simp;omega
    rw [qr a];exact K7 (by rw [b i hi,qr a])
  | succ m ih=>
    intro i c hi;unfold Sort.scanUp;by_cases a : (decide (i≤j) && p d[i]!) = true
    · rw [qp a,Kc (by rw [b i hi,qp a])];exact ih (i + 1) q6 q6
    · rw [qr a];exact K7 (by rw [b i hi,qr a])
theorem qbb {f : Int→Option (Int ⊕ Int)} (p : T→Bool) (d : Array T) (i n : Nat) (hi : 1≤i)
    (b : ∀ k : Nat,k < n→f (k : Int) = if (decide (i≤k) && p d[k]!) = true then some (.inl ((k - 1 : Nat) : Int)) else some (.inr (k : Int))) :
    ∀ (j : Nat),j < n→loop f (j : Int) = some ((Sort.scanDown p d i j : Nat) : Int)
  | 0,hj=>by
    have a : ¬ (decide (i≤0) && p d[0]!) = true:=by simp;omega
    exact K7 (by rw [b 0 hj,qr a];rfl)
  | j + 1,hj=>by
    unfold Sort.scanDown
    by_cases a : (decide (i≤j + 1) && p d[j + 1]!) = true
    · rw [qp a,Kc (by rw [b (j + 1) hj,qp a])]
      exact qbb p d i n hi b j q6
    · rw [qr a]
      exact K7 (by rw [b (j + 1) hj,qr a])
theorem qj3 (f : Kq q lt P) {n : Nat} {d : Array T} (hd : AllP n P d) {a j : Nat} (b : a < n) (m : j < n) (x : Int) (k : Nat) (o : k≤1000002) :
    Zt (x,(j : Int),d.toList) (a : Int) q (k : Int) = if (decide (k≤j) && (fun x=>lt x d[a]!) d[k]!) = true then some (.inl ((k + 1 : Nat) : Int)) else some (.inr (k : Int)):=by
  have c:=hd.1;by_cases h : k≤j
  · obtain ⟨r,l,g⟩:=f d[k]! d[a]! (hd.2.2 _ q6) (hd.2.2 _ b);have t : decide ((k : Int)≤(j : Int)) = true:=Qb q6;simp only [Zt,t,qy,gx (d:=d) (k:=k) q6,gx (d:=d) (k:=a) q6,qh,l,g,w1p k q6];simp only [Qb h,Bool.true_and,Bool.cond_eq_ite]
  · have t : decide ((k : Int)≤(j : Int)) = false:=Q6 q6;simp only [Zt,t,Q0,qh];simp [h]
theorem qj4 (j : Kq q lt P) {n : Nat} {d : Array T} (hd : AllP n P d) {a i : Nat} (g : a < n) (hi : 1≤i) (x y : Int) (k : Nat) (l : k < n) :
    Zu (i : Int) (x,y,d.toList) (a : Int) q (k : Int) = if (decide (i≤k) && (fun x=>!lt x d[a]!) d[k]!) = true then some (.inl ((k - 1 : Nat) : Int)) else some (.inr (k : Int)):=by
  have b:=hd.1;have m:=hd.2.1;by_cases h : i≤k
  · obtain ⟨r,f,c⟩:=j d[k]! d[a]! (hd.2.2 _ q6) (hd.2.2 _ g);have t : decide ((i : Int)≤(k : Int)) = true:=Qb q6;have w : w64 ((k : Int) - 1) = ((k - 1 : Nat) : Int):=by rw [Q8 q6];omega
    simp only [Zu,t,qy,gx (d:=d) (k:=k) q6,gx (d:=d) (k:=a) q6,qh,f,c,w];simp only [Qb h,Bool.true_and,Bool.cond_eq_ite]
  · have t : decide ((i : Int)≤(k : Int)) = false:=Q6 q6;simp only [Zu,t,Q0,qh];simp [h]
theorem qrk (f : Kq q lt P) {n : Nat} {d : Array T} (hd : AllP n P d) {a j : Nat} (b : a < n) (m : j < n) (x : Int) (k : Nat) (o : k≤1000002) :
    U6 (x,(j : Int),d.toList) (a : Int) q (k : Int) = if (decide (k≤j) && (fun x=>!lt d[a]! x) d[k]!) = true then some (.inl ((k + 1 : Nat) : Int)) else some (.inr (k : Int)):=by
  have c:=hd.1;by_cases h : k≤j
  · obtain ⟨r,l,g⟩:=f d[a]! d[k]! (hd.2.2 _ b) (hd.2.2 _ q6);have t : decide ((k : Int)≤(j : Int)) = true:=Qb q6;simp only [U6,t,qy,gx (d:=d) (k:=k) q6,gx (d:=d) (k:=a) q6,qh,l,g,w1p k q6];simp only [Qb h,Bool.true_and,Bool.cond_eq_ite]
  · have t : decide ((k : Int)≤(j : Int)) = false:=Q6 q6;simp only [U6,t,Q0,qh];simp [h]
theorem qrl (j : Kq q lt P) {n : Nat} {d : Array T} (hd : AllP n P d) {a i : Nat} (g : a < n) (hi : 1≤i) (x y : Int) (k : Nat) (l : k < n) :
    U7 (i : Int) (x,y,d.toList) (a : Int) q (k : Int) = if (decide (i≤k) && (fun x=>lt d[a]! x) d[k]!) = true then some (.inl ((k - 1 : Nat) : Int)) else some (.inr (k : Int)):=by
  have b:=hd.1;have m:=hd.2.1;by_cases h : i≤k
  · obtain ⟨r,f,c⟩:=j d[a]! d[k]! (hd.2.2 _ g) (hd.2.2 _ q6);have t : decide ((i : Int)≤(k : Int)) = true:=Qb q6;have w : w64 ((k : Int) - 1) = ((k - 1 : Nat) : Int):=by rw [Q8 q6];omega
    simp only [U7,t,qy,gx (d:=d) (k:=k) q6,gx (d:=d) (k:=a) q6,qh,f,c,w];simp only [Qb h,Bool.true_and,Bool.cond_eq_ite]
  · have t : decide ((i : Int)≤(k : Int)) = false:=Q6 q6;simp only [U7,t,Q0,qh];simp [h]
theorem qrf (v : Kq q lt P) (a n : Nat) (s : a < n) : ∀ (m i j : Nat) (d : Array T),j + 1 - i = m→AllP n P d→1≤i→i≤n + 1→j < n→
    loop (q14 (a : Int) q) ((i : Int),(j : Int),d.toList) = some (((Sort.partLoop lt a i j d).1 : Int),(Sort.partLoop lt a i j d).2.toList)∧AllP n P (Sort.partLoop lt a i j d).2∧(Sort.partLoop lt a i j d).1 < n:=by
  intro m
  induction m using Nat.strongRecOn with
  | _ m ih=>
    intro i j d hm hd hi aa r;have ab:=hd.1;have hn:=hd.2.1;rw [Sort.partLoop_eq];have o:=qe8 (f:=Zt ((i : Int),(j : Int),d.toList) (a : Int) q) (fun x=>lt x d[a]!) d j (fun k l=>qj3 v hd s r _ k l) q6 _ i rfl q6;have y:=Sort.scanUp_ge (fun x=>lt x d[a]!) d j i;have z:=(Sort.scanUp_spec (fun x=>lt x d[a]!) d j _ i rfl).2.1;generalize Sort.scanUp (fun x=>lt x d[a]!) d j i = c at o y z ⊢;have p:=qbb (f:=Zu (c : Int) ((i : Int),(j : Int),d.toList) (a : Int) q) (fun x=>!lt x d[a]!) d c n q6 (fun k l=>qj4 v hd s q6 _ _ k l) j r;have g2:=Sort.scanDown_le (fun x=>!lt x d[a]!) d c j;generalize Sort.scanDown (fun x=>!lt x d[a]!) d c j = g at p g2 ⊢;by_cases u : c > g
    · rw [qp u];have t : decide ((c : Int) > (g : Int)) = true:=Qb q6;refine ⟨K7 ?_,hd,by show g < n;omega⟩;simp only [q14,o,p,qh,t,qy]
    · rw [qr u];have t : decide ((c : Int) > (g : Int)) = false:=Q6 q6;have h:=ih ((g - 1) + 1 - (c + 1)) q6 (c + 1) (g - 1) _ rfl (hd.swp (a:=c) (b:=g) q6 q6) q6 q6 q6;refine ⟨?_,h.2⟩;rw [Kc (a':=(((c + 1 : Nat) : Int),((g - 1 : Nat) : Int),(Sort.swp d c g).toList)) ?_]
      · exact h.1
      · have w : w64 ((g : Int) - 1) = ((g - 1 : Nat) : Int):=by rw [Q8 q6];omega
        simp only [q14,o,p,qh,t,Q0,gx (d:=d) (k:=c) q6,gx (d:=d) (k:=g) q6,gxs (d:=d) (k:=g) q6,Int.toNat_natCast,gswp,w,w1p c q6]
theorem qre (u : Kq q lt P) (a n : Nat) (r : a < n) : ∀ (m i j : Nat) (d : Array T),j + 1 - i = m→AllP n P d→1≤i→i≤n + 1→j < n→
    loop (q13 (a : Int) q) ((i : Int),(j : Int),d.toList) = some (((Sort.partEqLoop lt a i j d).1 : Int),(Sort.partEqLoop lt a i j d).2.toList):=by
  intro m
  induction m using Nat.strongRecOn with
  | _ m ih=>
    intro i j d hm hd hi z p;have aa:=hd.1;have hn:=hd.2.1;rw [Sort.partEqLoop_eq];have l:=qe8 (f:=U6 ((i : Int),(j : Int),d.toList) (a : Int) q) (fun x=>!lt d[a]! x) d j (fun k h=>qrk u hd r p _ k h) q6 _ i rfl q6;have v:=Sort.scanUp_ge (fun x=>!lt d[a]! x) d j i;have y:=(Sort.scanUp_spec (fun x=>!lt d[a]! x) d j _ i rfl).2.1;generalize Sort.scanUp (fun x=>!lt d[a]! x) d j i = c at l v y ⊢;have o:=qbb (f:=U7 (c : Int) ((i : Int),(j : Int),d.toList) (a : Int) q) (fun x=>lt d[a]! x) d c n q6 (fun k h=>qrl u hd r q6 _ _ k h) j p;have g2:=Sort.scanDown_le (fun x=>lt d[a]! x) d c j;generalize Sort.scanDown (fun x=>lt d[a]! x) d c j = g at o g2 ⊢;by_cases s : c > g
    · rw [qp s];have t : decide ((c : Int) > (g : Int)) = true:=Qb q6;refine K7 ?_;simp only [q13,l,o,qh,t,qy]
    · rw [qr s];have t : decide ((c : Int) > (g : Int)) = false:=Q6 q6;rw [Kc (a':=(((c + 1 : Nat) : Int),((g - 1 : Nat) : Int),(Sort.swp d c g).toList)) ?_]
      · exact ih ((g - 1) + 1 - (c + 1)) q6 (c + 1) (g - 1) _ rfl (hd.swp (a:=c) (b:=g) q6 q6) q6 q6 q6
      · have w : w64 ((g : Int) - 1) = ((g - 1 : Nat) : Int):=by rw [Q8 q6];omega
        simp only [q13,l,o,qh,t,Q0,gx (d:=d) (k:=c) q6,gx (d:=d) (k:=g) q6,gxs (d:=d) (k:=g) q6,Int.toNat_natCast,gswp,w,w1p c q6]
theorem qrh (g : Kq q lt P) {a b n p : Nat} (hb : b≤n) (f : a < b) (hp : p < n) {d : Array T} (hd : AllP n P d) :
    q12 q d.toList (a : Int) (b : Int) (p : Int) = some (((Sort.partitionEqual lt d a b p).1 : Int),(Sort.partitionEqual lt d a b p).2.toList):=by
  have c:=hd.1;have h:=hd.2.1;have w : w64 ((b : Int) - 1) = ((b - 1 : Nat) : Int):=by rw [Q8 q6];omega
  have s:=qre g a n q6 _ (a + 1) (b - 1) _ rfl (hd.swp (a:=a) (b:=p) q6 hp) q6 q6 q6;unfold q12 Sort.partitionEqual;simp only [gx (d:=d) (k:=p) q6,gx (d:=d) (k:=a) q6,gxs (d:=d) (k:=p) q6,qh,Int.toNat_natCast,gswp,w,w1p a q6,s]
theorem qri (l : Kq q lt P) {a b n p : Nat} (hb : b≤n) (z : a < b) (hp : p < n) {d : Array T} (hd : AllP n P d) :
    q11 q d.toList (a : Int) (b : Int) (p : Int) = some (((Sort.partition lt d a b p).1 : Int),(Sort.partition lt d a b p).2.1,(Sort.partition lt d a b p).2.2.toList):=by
  have ad:=hd.1;have hn:=hd.2.1;have w : w64 ((b : Int) - 1) = ((b - 1 : Nat) : Int):=by rw [Q8 q6];omega
  have h:=hd.swp (a:=a) (b:=p) q6 hp
  have u : q1z (b : Int) d.toList (a : Int) d[p]! (p : Int) d[a]! q = Zt ((0 : Int),((b - 1 : Nat) : Int),(Sort.swp d a p).toList) (a : Int) q:=by
    funext k;simp only [q1z,Zt,w,Int.toNat_natCast,gswp]
  have y : ∀ c : Int,q20 c d.toList (a : Int) d[p]! (p : Int) d[a]! q = Zu c ((0 : Int),(0 : Int),(Sort.swp d a p).toList) (a : Int) q:=by
    intro c;funext k;simp only [q20,Zu,Int.toNat_natCast,gswp]
  unfold q11 Sort.partition;simp only [gx (d:=d) (k:=p) q6,gx (d:=d) (k:=a) q6,gxs (d:=d) (k:=p) q6,qh,u,y,Int.toNat_natCast,gswp,w,w1p a q6];generalize Sort.swp d a p = D at h ⊢;have ag:=h.1;have m:=qe8 (f:=Zt ((0 : Int),((b - 1 : Nat) : Int),D.toList) (a : Int) q) (fun x=>lt x D[a]!) D (b - 1) (fun k j=>qj3 l h q6 q6 _ k j) q6 _ (a + 1) rfl q6;have v:=Sort.scanUp_ge (fun x=>lt x D[a]!) D (b - 1) (a + 1);generalize Sort.scanUp (fun x=>lt x D[a]!) D (b - 1) (a + 1) = c at m v ⊢;have o:=qbb (f:=Zu (c : Int) ((0 : Int),(0 : Int),D.toList) (a : Int) q) (fun x=>!lt x D[a]!) D c n q6 (fun k j=>qj4 l h q6 q6 _ _ k j) (b - 1) q6;have g2:=Sort.scanDown_le (fun x=>!lt x D[a]!) D c (b - 1);generalize Sort.scanDown (fun x=>!lt x D[a]!) D c (b - 1) = g at o g2 ⊢;simp only [m,o,qh];by_cases r : c > g
  · have t : decide ((c : Int) > (g : Int)) = true:=Qb q6;simp only [qp r,t,qy,gx (d:=D) (k:=a) q6,gx (d:=D) (k:=g) q6,gxs (d:=D) (k:=a) q6,qh,Int.toNat_natCast,gswp]
  · have t : decide ((c : Int) > (g : Int)) = false:=Q6 q6;have w2 : w64 ((g : Int) - 1) = ((g - 1 : Nat) : Int):=by rw [Q8 q6];omega
    obtain ⟨s3,s,b3⟩:=qrf l a n q6 _ (c + 1) (g - 1) _ rfl (h.swp (a:=c) (b:=g) q6 q6) q6 q6 q6;simp only [qr r,t,Q0,gx (d:=D) (k:=c) q6,gx (d:=D) (k:=g) q6,gxs (d:=D) (k:=g) q6,qh,Int.toNat_natCast,gswp,w2,w1p c q6,s3];generalize Sort.partLoop lt a (c + 1) (g - 1) (Sort.swp D c g) = R at s b3 ⊢;have aa:=s.1;simp only [gx (d:=R.2) (k:=a) q6,gx (d:=R.2) (k:=R.1) q6,gxs (d:=R.2) (k:=a) q6,qh,gswp]
theorem qti (o : Kq q lt P) {b n : Nat} (hb : b≤n) {d : Array T} (hd : AllP n P d) (x y : Int) : ∀ (m i : Nat),b - i = m→1≤i→i≤b→
    loop (U3 (b : Int) (x,y,d.toList) q) (i : Int) = some ((Sort.scanSorted lt d b i : Nat) : Int)∧i≤Sort.scanSorted lt d b i∧Sort.scanSorted lt d b i≤b:=by
  have j:=hd.1;have p:=hd.2.1;intro m
  induction m with
  | zero=>
    intro i l hi a;unfold Sort.scanSorted;rw [qr (by simp;omega)];have t : decide ((i : Int) < (b : Int)) = false:=Q6 q6;exact ⟨K7 (by simp only [U3,t,Q0,qh]),Nat.le_refl _,a⟩
  | succ m ih=>
    intro i l hi a;unfold Sort.scanSorted;have t : decide ((i : Int) < (b : Int)) = true:=Qb q6;have w : w64 ((i : Int) - 1) = ((i - 1 : Nat) : Int):=by rw [Q8 q6];omega
    obtain ⟨r,h,g⟩:=o d[i]! d[i - 1]! (hd.2.2 _ q6) (hd.2.2 _ q6);by_cases c : lt d[i]! d[i - 1]! = true
    · rw [qr (by simp [c])];refine ⟨K7 ?_,Nat.le_refl _,a⟩;simp only [U3,t,qy,w,gx (d:=d) (k:=i) q6,gx (d:=d) (k:=i - 1) q6,qh,h,g,c,Bool.not_true,Q0]
    · have c : lt d[i]! d[i - 1]! = false:=by simpa using c
      rw [qp (by simp [c];omega)];have f:=ih (i + 1) q6 q6 q6;refine ⟨?_,q6,f.2.2⟩;rw [Kc (a':=((i + 1 : Nat) : Int)) ?_]
      · exact f.1
      · simp only [U3,t,qy,w,gx (d:=d) (k:=i) q6,gx (d:=d) (k:=i - 1) q6,qh,h,g,c,Bool.not_false,w1p i q6]
theorem qkd (l : Kq q lt P) (n : Nat) : ∀ (j : Nat) (d : Array T),AllP n P d→j < n→loop (U4 q) ((j : Int),d.toList) = some (Sort.shiftDown lt j d).toList∧AllP n P (Sort.shiftDown lt j d)
  | 0,d,hd,hj=>by
    have t : decide (((0 : Nat) : Int) ≥ 1) = false:=Q6 q6
    exact ⟨K7 (by simp only [U4,t,Q0];rfl),hd⟩
  | j + 1,d,hd,hj=>by
    have m:=hd.1
    have o:=hd.2.1
    have t : decide (((j + 1 : Nat) : Int) ≥ 1) = true:=Qb q6
    obtain ⟨r,h,g⟩:=l d[j + 1]! d[j]! (hd.2.2 _ hj) (hd.2.2 _ q6)
    unfold Sort.shiftDown
    by_cases c : lt d[j + 1]! d[j]! = true
    · rw [qr (by simp [c])]
      have f:=qkd l n j _ (hd.swp (a:=j + 1) (b:=j) hj q6) q6
      refine ⟨?_,f.2⟩
      rw [Kc (a':=((j : Int),(Sort.swp d (j + 1) j).toList)) ?_]
      · exact f.1
      · simp only [U4,t,qy,gx (d:=d) (k:=j + 1) q6,w1m j q6,gx (d:=d) (k:=j) q6,gxs (d:=d) (k:=j) q6,qh,h,g,c,Bool.not_true,Q0,Int.toNat_natCast,gswp]
    · have c : lt d[j + 1]! d[j]! = false:=by simpa using c
      rw [qp (by simp [c])]
      refine ⟨K7 ?_,hd⟩
      simp only [U4,t,qy,gx (d:=d) (k:=j + 1) q6,w1m j q6,gx (d:=d) (k:=j) q6,qh,h,g,c,Bool.not_false]
theorem qkf (u : Kq q lt P) {b n : Nat} (hb : b≤n) (c : Int) : ∀ (m j : Nat) (d : Array T),b - j = m→AllP n P d→1≤j→loop (U5 (b : Int) q c) ((j : Int),d.toList) = some (c,(Sort.shiftUp lt b j d).toList)∧AllP n P (Sort.shiftUp lt b j d):=by
  intro m
  induction m with
  | zero=>
    intro j d s hd o;unfold Sort.shiftUp;rw [qr q6];have t : decide ((j : Int) < (b : Int)) = false:=Q6 q6;exact ⟨K7 (by simp only [U5,t,Q0]),hd⟩
  | succ m ih=>
    intro j d s hd o;have p:=hd.1;have v:=hd.2.1;unfold Sort.shiftUp;rw [qp q6];have t : decide ((j : Int) < (b : Int)) = true:=Qb q6;have w : w64 ((j : Int) - 1) = ((j - 1 : Nat) : Int):=by rw [Q8 q6];omega
    obtain ⟨r,l,h⟩:=u d[j]! d[j - 1]! (hd.2.2 _ q6) (hd.2.2 _ q6);by_cases f : lt d[j]! d[j - 1]! = true
    · rw [qr (by simp [f])];have g:=ih (j + 1) _ q6 (hd.swp (a:=j) (b:=j - 1) q6 q6) q6;refine ⟨?_,g.2⟩;rw [Kc (a':=(((j + 1 : Nat) : Int),(Sort.swp d j (j - 1)).toList)) ?_]
      · exact g.1
      · simp only [U5,t,qy,w,gx (d:=d) (k:=j) q6,gx (d:=d) (k:=j - 1) q6,gxs (d:=d) (k:=j - 1) q6,qh,l,h,f,Bool.not_true,Q0,Int.toNat_natCast,gswp,w1p j q6]
    · have f : lt d[j]! d[j - 1]! = false:=by simpa using f
      rw [qp (by simp [f])];refine ⟨K7 ?_,hd⟩;simp only [U5,t,qy,w,gx (d:=d) (k:=j) q6,gx (d:=d) (k:=j - 1) q6,qh,l,h,f,Bool.not_false]
theorem qj6 (o : Kq q lt P) {a b n : Nat} (hb : b≤n) : ∀ (s i : Nat) (d : Array T),s≤5→AllP n P d→a < i→i≤b→
    ∃ m,loop (Zk (b : Int) q (a : Int)) ((i : Int),((5 - s : Nat) : Int),d.toList) = some m∧(match m with | .inl b441=>some (false,b441) | .inr x1=>some x1) = some ((Sort.partialIns lt a b s i d).2,(Sort.partialIns lt a b s i d).1.toList)
  | 0,i,d,hs,hd,hi,hib=>by
    have t : decide (((5 - 0 : Nat) : Int) < 5) = false:=Q6 q6
    refine ⟨.inl d.toList,K7 (by simp only [Zk,t,Q0]),rfl⟩
  | s + 1,i,d,hs,hd,hi,hib=>by
    have ah:=hd.1
    have hn:=hd.2.1
    have t : decide (((5 - (s + 1) : Nat) : Int) < 5) = true:=Qb q6
    rw [Sort.partialIns_succ]
    obtain ⟨p,l1,z⟩:=qti o hb hd (i : Int) ((5 - (s + 1) : Nat) : Int) _ i rfl q6 hib
    generalize Sort.scanSorted lt d b i = k at p l1 z ⊢
    by_cases hk : k = b
    · subst hk
      rw [qp rfl]
      refine ⟨.inr (true,d.toList),K7 ?_,rfl⟩
      simp only [Zk,t,qy,p,qh,beq_self_eq_true]
    · rw [qr hk]
      have tk : ((k : Int) == (b : Int)) = false:=by simp;omega
      have e0 : w64 ((b : Int) - (a : Int)) = ((b - a : Nat) : Int):=wsub q6 q6
      by_cases h : b - a < 50
      · rw [qp h]
        have c : decide (((b - a : Nat) : Int) < 50) = true:=Qb q6
        refine ⟨.inr (false,d.toList),K7 ?_,rfl⟩
        simp only [Zk,t,qy,p,qh,tk,Q0,e0,c]
      · rw [qr h]
        have c : decide (((b - a : Nat) : Int) < 50) = false:=Q6 q6
        have wk : w64 ((k : Int) - 1) = ((k - 1 : Nat) : Int):=by rw [Q8 q6];omega
        have wa : w64 ((k : Int) - (a : Int)) = ((k - a : Nat) : Int):=wsub q6 q6
        have wb : w64 ((b : Int) - (k : Int)) = ((b - k : Nat) : Int):=wsub q6 q6
        have l:=hd.swp (a:=k) (b:=k - 1) q6 q6
        have down : (cond (decide (((k - a : Nat) : Int) ≥ 2)) ((loop (U4 q) (((k - 1 : Nat) : Int),(Sort.swp d k (k - 1)).toList)).bind fun x0=>some x0) (some (Sort.swp d k (k - 1)).toList)) = some (Sort.fixDown lt a k (Sort.swp d k (k - 1))).toList∧AllP n P (Sort.fixDown lt a k (Sort.swp d k (k - 1))):=by
          unfold Sort.fixDown;by_cases j : k - a ≥ 2
          · have f : decide (((k - a : Nat) : Int) ≥ 2) = true:=Qb q6;obtain ⟨x,y⟩:=qkd o n (k - 1) _ l q6;rw [qp j,f,qy,x];exact ⟨rfl,y⟩
          · have f : decide (((k - a : Nat) : Int) ≥ 2) = false:=Q6 q6;rw [qr j,f,Q0];exact ⟨rfl,l⟩
        obtain ⟨dn,g⟩:=down
        have v : AllP n P (Sort.fixUp lt b k (Sort.fixDown lt a k (Sort.swp d k (k - 1)))):=by
          unfold Sort.fixUp;split
          · exact (qkf o hb 0 _ (k + 1) _ rfl g q6).2
          · exact g
        obtain ⟨m,u,r⟩:=qj6 (a:=a) o hb s k _ q6 v q6 z
        refine ⟨m,?_,r⟩
        rw [Kc (a':=((k : Int),((5 - s : Nat) : Int),(Sort.fixUp lt b k (Sort.fixDown lt a k (Sort.swp d k (k - 1)))).toList)) ?_]
        · exact u
        · have w5 : w64 (((5 - (s + 1) : Nat) : Int) + 1) = ((5 - s : Nat) : Int):=by rw [Q8 q6];omega
          simp only [Zk,t,qy,p,qh,tk,Q0,e0,c,wk,gx (d:=d) (k:=k) q6,gx (d:=d) (k:=k - 1) q6,gxs (d:=d) (k:=k - 1) q6,Int.toNat_natCast,gswp,wa,dn,wb,w1p k q6]
          unfold Sort.fixUp
          by_cases j : b - k ≥ 2
          · have f : decide (((b - k : Nat) : Int) ≥ 2) = true:=Qb q6
            obtain ⟨x,y⟩:=qkf o hb (k : Int) _ (k + 1) _ rfl g q6
            rw [qp j,f,qy,x]
            simp only [qh,w5]
          · have f : decide (((b - k : Nat) : Int) ≥ 2) = false:=Q6 q6
            rw [qr j,f,Q0]
            simp only [qh,w5]
theorem qrg (g : Kq q lt P) {a b n : Nat} (hb : b≤n) (f : a < b) {d : Array T} (hd : AllP n P d) :
    Jp q d.toList (a : Int) (b : Int) = some ((Sort.partialInsertionSort lt d a b).2,(Sort.partialInsertionSort lt d a b).1.toList):=by
  have j:=hd.2.1;obtain ⟨m,c,h⟩:=qj6 (a:=a) g hb 5 (a + 1) d q6 hd q6 q6;have c : loop (Zk (b : Int) q (a : Int)) (((a + 1 : Nat) : Int),0,d.toList) = some m:=c;unfold Jp Sort.partialInsertionSort;rw [w1p a q6,c];exact h
end
end Go.Sh
namespace Go.Sh
open Go Go.Am
theorem qhz {α β : Type} {f : α→Option (α ⊕ β)} {a : α} (h : f a = none) : loop f a = none:=by
  apply Option.ext;intro b;rw [q7e];constructor
  · rintro ⟨n,c⟩
    cases n with
    | zero=>simp [iter] at c
    | succ n=>simp [iter,h] at c
  · intro h;cases h
section
variable {T : Type} [Inhabited T] {P : T→Prop} {lt : T→T→Bool} {q : T→T→Option Int}
def Srt (lt : T→T→Bool) (a b : Nat) (d : Array T) (o : Option (List T)) : Prop:=∃ d' : Array T,o = some d'.toList∧Sort.PermIn a b d d'∧Sort.SortedIn lt a b d'
theorem qrj (hq : Kq q lt P) (hS : Sort.SWO lt) {n N : Nat} (ae : List T→Int→Int→Int→Option (List T))
    (an : ∀ (a b f : Nat) (d : Array T),AllP n P d→a≤b→b≤n→f≤1000→Sort.Below lt a b d→Srt lt a b d (ae d.toList (a : Int) (b : Int) (f : Int))∨(N≤b - a∧ae d.toList (a : Int) (b : Int) (f : Int) = none)) :
    ∀ (m a b f : Nat) (wb wp : Bool) (d : Array T),b - a = m→AllP n P d→a≤b→b≤n→f≤1000→Sort.Below lt a b d→
      Srt lt a b d (loop (Z8 q ae) ((a : Int),(b : Int),(f : Int),wb,wp,d.toList))∨(N + 1≤b - a∧loop (Z8 q ae) ((a : Int),(b : Int),(f : Int),wb,wp,d.toList) = none):=by
  intro m
  induction m using Nat.strongRecOn with
  | _ m ih=>
    intro a b f wb wp d hm hd o hb hl hB;have dg:=hd.1;have hn:=hd.2.1;have e0 : w64 ((b : Int) - (a : Int)) = ((b - a : Nat) : Int):=wsub o q6;by_cases dn : b - a≤12
    ·
      have t : decide (((b - a : Nat) : Int)≤12) = true:=Qb q6;obtain ⟨x,y⟩:=Sort.insertionSort_holds (lt:=lt) hS d a b o q6;have s:=qp1 hq hb o hd;refine .inl ⟨_,K7 ?_,x,y⟩;simp only [Z8,e0,t,qy,s,qh,Jr hd (hd.perm o hb x)]
    have bm : decide (((b - a : Nat) : Int)≤12) = false:=Q6 q6;by_cases h0 : f = 0
    ·
      have t : ((f : Int) == 0) = true:=by simp [h0]
      obtain ⟨x,y⟩:=Sort.heapSort_holds (lt:=lt) hS d a b o q6;have s:=qot hq hb (by omega : a < b) hd;refine .inl ⟨_,K7 ?_,x,y⟩;simp only [Z8,e0,bm,Q0,t,qy,s,qh,Jr hd (hd.perm o hb x)]
    have t0 : ((f : Int) == 0) = false:=by simp [h0]
    have hA : ∃ (l1 : Nat) (d1 : Array T),(cond (!wb) ((Ux q d.toList (a : Int) (b : Int)).bind fun bc=>(Qz bc.length d.toList.length).bind fun cs=>some (w64 ((f : Int) - 1),bc)) (some ((f : Int),d.toList))) = some ((l1 : Int),d1.toList)∧l1≤1000∧AllP n P d1∧Sort.PermIn a b d d1:=by
      cases wb with
      | true=>exact ⟨f,d,rfl,hl,hd,Sort.permIn_refl _ _ _⟩
      | false=>
        have x:=Sort.breakPatterns_holds d a b o q6;have z:=hd.perm o hb x;have w : w64 ((f : Int) - 1) = ((f - 1 : Nat) : Int):=by rw [Q8 q6];omega
        refine ⟨f - 1,_,?_,q6,z,x⟩;simp only [Bool.not_false,qy,qm5 (q:=q) hb (by omega : a < b) hd,qh,Jr hd z,w]
    obtain ⟨l1,d1,eA,am,z,p1⟩:=hA;have hC:=qn5 hq z (by omega : a < b) hb;obtain ⟨c1,c2⟩:=Sort.choosePivot_holds lt d1 a b q6;generalize (Sort.choosePivot lt d1 a b).1 = c at hC c1 c2;generalize qcz (Sort.choosePivot lt d1 a b).2 = h at hC
    have hR : ∃ (p : Nat) (h2 : Int) (d2 : Array T),(cond (h == 2) ((q15 q d1.toList (a : Int) (b : Int)).bind fun az=>(Qz az.length d1.toList.length).bind fun cy=>some (w64 ((w64 ((b : Int) - 1)) - (w64 ((c : Int) - (a : Int)))),(1 : Int),az)) (some ((c : Int),h,d1.toList))) = some ((p : Int),h2,d2.toList)∧a≤p∧p < b∧AllP n P d2∧Sort.PermIn a b d1 d2:=by
      cases hh : (h == 2) with
      | false=>exact ⟨c,h,d1,rfl,c1,c2,z,Sort.permIn_refl _ _ _⟩
      | true=>
        have x:=Sort.reverseRange_holds d1 a b o (by rw [z.1];exact hb);have ac:=z.perm o hb x;have w1 : w64 ((b : Int) - 1) = ((b - 1 : Nat) : Int):=by rw [Q8 q6];omega
        have w2 : w64 ((c : Int) - (a : Int)) = ((c - a : Nat) : Int):=wsub c1 q6;have w3 : w64 (((b - 1 : Nat) : Int) - ((c - a : Nat) : Int)) = ((b - 1 - (c - a) : Nat) : Int):=wsub q6 q6;refine ⟨b - 1 - (c - a),1,_,?_,q6,q6,ac,x⟩;simp only [qy,qtb (q:=q) hb (by omega : a < b) z,qh,Jr z ac,w1,w2,w3]
    obtain ⟨p,h2,d2,eR,hp1,hp2,ac,p2⟩:=hR;have bq : Sort.Below lt a b d2:=(hB.perm q6 p1).perm (by rw [z.1];exact hb) p2;have br:=Sort.permIn_trans _ _ _ a b p1 p2
    have hP : ∀ cc : Bool,∃ ab : (List T) ⊕ (List T),(cond cc ((Jp q d2.toList (a : Int) (b : Int)).bind fun ag=>(Qz ag.2.length d2.toList.length).bind fun cx=>cond ag.1 (some (.inr ag.2)) (some (.inl ag.2))) (some (.inl d2.toList)) : Option ((List T) ⊕ (List T))) = some ab∧
        ((∃ l : Array T,ab = .inr l.toList∧Sort.PermIn a b d2 l∧Sort.SortedIn lt a b l)∨(∃ l : Array T,ab = .inl l.toList∧AllP n P l∧Sort.PermIn a b d2 l)):=by
      intro cc
      cases cc with
      | false=>exact ⟨_,rfl,.inr ⟨d2,rfl,ac,Sort.permIn_refl _ _ _⟩⟩
      | true=>
        obtain ⟨x,y⟩:=Sort.partialInsertionSort_holds (lt:=lt) hS d2 a b q6 (by rw [ac.1];exact hb) bq;have u:=ac.perm o hb x;have s:=qrg hq hb (by omega : a < b) ac;simp only [qy,s,qh,Jr ac u]
        cases hz : (Sort.partialInsertionSort lt d2 a b).2 with
        | true=>exact ⟨_,rfl,.inl ⟨_,rfl,x,y hz⟩⟩
        | false=>exact ⟨_,rfl,.inr ⟨_,rfl,u,x⟩⟩
    obtain ⟨ab,eP,bn⟩:=hP (wb && wp && (h2 == 1))
    have cg : ∀ {γ : Type} (X : Bool→Option γ),((cond wb (some wp) (some false)).bind fun bt=>(cond bt (some (h2 == 1)) (some false)).bind X) = X (wb && wp && (h2 == 1)):=by
      intro γ X;cases wb <;> cases wp <;> rfl
    have head : Z8 q ae ((a : Int),(b : Int),(f : Int),wb,wp,d.toList) = (match (generalizing:=false) ab with | .inl b377=>(cond (decide ((a : Int) > 0)) ((idx b377 (w64 ((a : Int) - 1))).bind fun ar=>(idx b377 (p : Int)).bind fun av=>(q ar av).bind fun ao=>some (!(decide (ao < 0)))) (some false)).bind fun bl=>cond bl ((q12 q b377 (a : Int) (b : Int) (p : Int)).bind fun aq=>(Qz aq.2.length b377.length).bind fun cv=>some (.inl (aq.1,(b : Int),(l1 : Int),wb,wp,aq.2))) ((q11 q b377 (a : Int) (b : Int) (p : Int)).bind fun g=>(Qz g.2.2.length b377.length).bind fun ct=>cond (decide ((w64 (g.1 - (a : Int))) < (w64 ((b : Int) - g.1)))) ((ae g.2.2 (a : Int) g.1 (l1 : Int)).bind fun be=>(Qz be.length g.2.2.length).bind fun cq=>some (.inl (w64 (g.1 + 1),(b : Int),(l1 : Int),decide ((w64 (g.1 - (a : Int))) ≥ (w64 (Int.tdiv ((b - a : Nat) : Int) 8))),g.2.1,be))) ((ae g.2.2 (w64 (g.1 + 1)) (b : Int) (l1 : Int)).bind fun bb=>(Qz bb.length g.2.2.length).bind fun cz=>some (.inl ((a : Int),g.1,(l1 : Int),decide ((w64 ((b : Int) - g.1)) ≥ (w64 (Int.tdiv ((b - a : Nat) : Int) 8))),g.2.1,bb)))) | .inr x1=>some (.inr x1)):=by
      simp only [Z8,e0,bm,Q0,t0,eA,qh,hC,eR,cg,eP]
      clear eP bn hP an ih
      cases ab <;> rfl
    rcases bn with ⟨l,rfl,x,y⟩ | ⟨l,rfl,u,p3⟩
    · refine .inl ⟨l,K7 ?_,Sort.permIn_trans _ _ _ a b br x,y⟩;rw [head]
    have ay:=u.1;have P3:=Sort.permIn_trans _ _ _ a b br p3;have B3 : Sort.Below lt a b l:=bq.perm (by rw [ac.1];exact hb) p3
    have bf : (cond (decide ((a : Int) > 0)) ((idx l.toList (w64 ((a : Int) - 1))).bind fun ar=>(idx l.toList (p : Int)).bind fun av=>(q ar av).bind fun ao=>some (!(decide (ao < 0)))) (some false)) = some (decide (a > 0) && !lt l[a - 1]! l[p]!):=by
      by_cases ha : a > 0
      · have ta : decide ((a : Int) > 0) = true:=Qb q6;have w : w64 ((a : Int) - 1) = ((a - 1 : Nat) : Int):=by rw [Q8 q6];omega
        obtain ⟨r,h1,h2⟩:=hq l[a - 1]! l[p]! (u.2.2 _ q6) (u.2.2 _ q6);simp only [ta,qy,w,gx (d:=l) (k:=a - 1) q6,gx (d:=l) (k:=p) q6,qh,h1,h2,Qb ha,Bool.true_and]
      · have ta : decide ((a : Int) > 0) = false:=Q6 q6;simp only [ta,Q0,Q6 ha,Bool.false_and]
    simp only [bf,qh] at head;by_cases hc : (decide (a > 0) && !lt l[a - 1]! l[p]!) = true
    ·
      rw [hc] at head;have s:=qrh hq hb (by omega : a < b) (by omega : p < n) u;simp only [Bool.and_eq_true,decide_eq_true_eq,Bool.not_eq_true'] at hc
      cases hx : Sort.partitionEqual lt l a b p with
      | mk j d4=>
        obtain ⟨g1,g2,cl,cm,ad⟩:=Sort.round_eq hS (Sort.partitionEqual_holds lt) hc.1 hp1 hp2 (by rw [ay];exact hb) B3 hc.2 hx
        have cn : ∀ i,a≤i→i < b→lt l[i]! l[p]! = false:=fun i hi ch=>by
          rcases B3 with h0 | hB
          · omega
          · exact hS.ntrans _ _ _ (hB i hi ch) hc.2
        obtain ⟨_,_,v,_,_⟩:=Sort.partitionEqual_holds lt hS l a b p hp1 hp2 (by rw [ay];exact hb) cn;rw [hx] at v s;have aa:=u.perm o hb v;simp only [qy,s,qh,Jr u aa] at head;rw [Kc head];rcases ih (b - j) q6 j b l1 wb wp d4 rfl aa g2 hb am cm with ⟨R,r0,r1,r2⟩ | ⟨r1,r2⟩
        · obtain ⟨q1,q2⟩:=ad _ r1 r2;exact .inl ⟨R,r0,Sort.permIn_trans _ _ _ a b P3 q1,q2⟩
        · exact .inr ⟨q6,r2⟩
    ·
      have hc : (decide (a > 0) && !lt l[a - 1]! l[p]!) = false:=by simpa using hc
      rw [hc] at head;have s:=qri hq hb (by omega : a < b) (by omega : p < n) u
      cases hx : Sort.partition lt l a b p with
      | mk j r=>
      cases r with
      | mk ap d4=>
        obtain ⟨g1,g2,cl,cd,ca,bk,ax⟩:=Sort.round_part hS (Sort.partition_holds lt) hp1 hp2 (by rw [ay];exact hb) B3 hx;obtain ⟨_,_,v,_,_⟩:=Sort.partition_holds lt hS l a b p hp1 hp2 (by rw [ay];exact hb);rw [hx] at v s;have aa:=u.perm o hb v;have w1 : w64 ((j : Int) - (a : Int)) = ((j - a : Nat) : Int):=wsub g1 q6;have w2 : w64 ((b : Int) - (j : Int)) = ((b - j : Nat) : Int):=wsub q6 q6;simp only [Q0,s,qh,Jr u aa,w1,w2,w1p j q6] at head;by_cases dd : j - a < b - j
        · have tl : decide (((j - a : Nat) : Int) < ((b - j : Nat) : Int)) = true:=Qb q6;simp only [tl,qy] at head;rcases an a j l1 d4 aa g1 q6 am cd with ⟨L,e,au,bi⟩ | ⟨r1,r2⟩
          · have al:=aa.perm g1 q6 au;obtain ⟨bj,ad⟩:=bk _ au bi;simp only [e,qh,Jr aa al] at head;rw [Kc head];rcases ih (b - (j + 1)) q6 (j + 1) b l1 _ _ L rfl al q6 hb am bj with ⟨R,r0,r1,r2⟩ | ⟨r1,r2⟩
            · obtain ⟨q1,q2⟩:=ad _ r1 r2;exact .inl ⟨R,r0,Sort.permIn_trans _ _ _ a b P3 q1,q2⟩
            · exact .inr ⟨q6,r2⟩
          · simp only [r2,Option.bind_none] at head;exact .inr ⟨q6,qhz head⟩
        · have tl : decide (((j - a : Nat) : Int) < ((b - j : Nat) : Int)) = false:=Q6 q6;simp only [tl,Q0] at head;rcases an (j + 1) b l1 d4 aa q6 hb am ca with ⟨L,e,au,bi⟩ | ⟨r1,r2⟩
          · have al:=aa.perm (by omega : j + 1≤b) hb au;obtain ⟨bj,ad⟩:=ax _ au bi;simp only [e,qh,Jr aa al] at head;rw [Kc head];rcases ih (j - a) q6 a j l1 _ _ L rfl al g1 q6 am bj with ⟨R,r0,r1,r2⟩ | ⟨r1,r2⟩
            · obtain ⟨q1,q2⟩:=ad _ r1 r2;exact .inl ⟨R,r0,Sort.permIn_trans _ _ _ a b P3 q1,q2⟩
            · exact .inr ⟨q6,r2⟩
          · simp only [r2,Option.bind_none] at head;exact .inr ⟨q6,qhz head⟩
theorem qj7 (g : Kq q lt P) (f : Sort.SWO lt) {n : Nat} : ∀ (N a b c : Nat) (d : Array T),AllP n P d→a≤b→b≤n→c≤1000→Sort.Below lt a b d→
    Srt lt a b d (Yy N q d.toList (a : Int) (b : Int) (c : Int))∨(N≤b - a∧Yy N q d.toList (a : Int) (b : Int) (c : Int) = none)
  | 0,a,b,c,d,_,_,_,_,_=>.inr ⟨q6,rfl⟩
  | N + 1,a,b,c,d,hd,hab,hb,hl,hB=>by
    have h:=qrj g f (N:=N) (Yy N q) (fun a b c d l k j m o=>qj7 g f N a b c d l k j m o) _ a b c true true d rfl hd hab hb hl hB
    have e : Yy (N + 1) q d.toList (a : Int) (b : Int) (c : Int) = loop (Z8 q (Yy N q)) ((a : Int),(b : Int),(c : Int),true,true,d.toList):=by
      show U8 (Yy N q) q d.toList (a : Int) (b : Int) (c : Int) = _;unfold U8;cases loop (Z8 q (Yy N q)) ((a : Int),(b : Int),(c : Int),true,true,d.toList) <;> rfl
    rw [e]
    exact h
theorem qkt (z : Kq q lt P) (t : Sort.SWO lt) (xs : List T) (o : xs.length≤1000000) (hP : ∀ x∈xs,P x) :
    ∃ ys,q1u q xs = some ys∧ys.Perm xs∧ys.Pairwise (fun x y=>lt y x = false):=by
  have hd : AllP xs.length P xs.toArray:=by
    refine ⟨qd,o,fun i hi=>?_⟩;have : xs.toArray[i]! = xs[i]:=by simp [hi]
    rw [this];exact hP _ (Y6 hi)
  have hk : Sort.bitsLen xs.length≤20:=(Sort.bitsLen_le_iff _ 20).2 q6;have c : ∀ N,_:=fun N=>qj7 z t N 0 xs.length (Sort.bitsLen xs.length) xs.toArray hd q6 q6 q6 (.inl rfl);have u:=c (xs.length + 1);rcases u with ⟨d',e,_,_⟩ | ⟨h,_⟩
  · obtain ⟨r,n⟩:=qpc (f:=fun N=>Yy N q xs 0 (xs.length : Int) ((Sort.bitsLen xs.length : Nat) : Int)) e;obtain ⟨N,g⟩:=qd7 n;have g : Yy N q xs 0 (xs.length : Int) ((Sort.bitsLen xs.length : Nat) : Int) = some r:=g;rcases c N with ⟨a,b,x,y⟩ | ⟨_,b⟩
    · have b : Yy N q xs 0 (xs.length : Int) ((Sort.bitsLen xs.length : Nat) : Int) = some a.toList:=b;rw [g] at b;obtain rfl : r = a.toList:=q6t b;have d : a.size = xs.length:=by rw [x.1];simp
      refine ⟨a.toList,?_,?_,?_⟩
      · unfold q1u;rw [Zm,show ((xs.length : Int) % 18446744073709551616) = (xs.length : Int) by omega,qhv _ o];simp only [qh,n];unfold Qz;rw [qp (by simp [d])];rfl
      · have:=x.2.2;have v : a.extract 0 xs.length = a:=by rw [← d];simp
        have s : xs.toArray.extract 0 xs.length = xs.toArray:=by simp
        rw [v,s] at this;exact this
      · rw [List.pairwise_iff_getElem];intro i j hi p l;have m : i < a.size:=by simpa using hi
        have k : j < a.size:=by simpa using p
        have:=y i j q6 l q6;rw [getElem!_pos a i m,getElem!_pos a j k] at this;simpa using this
    · have b : Yy N q xs 0 (xs.length : Int) ((Sort.bitsLen xs.length : Nat) : Int) = none:=b;rw [g] at b;cases b
  · omega
end
end Go.Sh
namespace Go.Sh
open Go Go.Am
theorem qui : qbm = q4j:=rfl
theorem qtj : q25 = q33:=by
  funext p0;simp only [q25,q33,qui]
  all_goals exact Qw
theorem qk7 : Uc = Uw:=by
  funext p0;simp only [Uc,Uw,qtj]
  all_goals exact Qw
theorem qtt : q8l = Jn:=by
  funext p1 q1 a459;simp only [q8l,Jn]
  all_goals exact Qw
theorem qts : q8k = q10:=by
  funext p2 p1 q1 a278;simp only [q8k,q10,qtt]
  all_goals exact Qw
theorem qtr : q8j = q1x:=by
  funext q1 p0 p1 p2;simp only [q8j,q1x,qts]
  all_goals exact Qw
theorem quh : q93 = Jq:=by
  funext p2 p3 q1 a197;simp only [q93,Jq]
  all_goals exact Qw
theorem qk9 : q6g = U9:=by
  funext q1 p0 p1 p2 p3;simp only [q6g,U9,quh]
  all_goals exact Qw
theorem qtp : q8h = Uy:=by
  funext q1 p2 p1 a123;simp only [q8h,Uy,qk9]
  all_goals exact Qw
theorem qtq : q8i = Uz:=by
  funext p1 q1 a191;simp only [q8i,Uz,qk9]
  all_goals exact Qw
theorem qto : q8g = q1w:=by
  funext q1 p0 p1 p2;simp only [q8g,q1w,qtp,qtq]
  all_goals exact Qw
theorem qtv : q1k = q1y:=by
  funext p0;simp only [q1k,q1y,qk7]
  all_goals exact Qw
theorem quj : q1l = q22:=by
  funext p0;simp only [q1l,q22]
  all_goals exact Qw
theorem qtm : q8e = U0:=by
  funext p1 p2 r101 a153;simp only [q8e,U0,quj]
  all_goals exact Qw
theorem qtl : q8d = Ux:=by
  funext q1 p0 p1 p2;simp only [q8d,Ux,qtv,qtm]
  all_goals exact Qw
theorem qtw : q3v = U2:=by
  funext q1 p0 p1 p2 p3;simp only [q3v,U2]
  all_goals exact Qw
theorem qk8 : q5w = U1:=by
  funext q1 p0 p1 p2 p3 p4;simp only [q5w,U1,qtw]
  all_goals exact Qw
theorem qtu : q3t = Jo:=by
  funext q1 p0 p1 p2;simp only [q3t,Jo,qk8]
  all_goals exact Qw
theorem qtn : q8f = q1v:=by
  funext p0 p1 p2 p3;simp only [q8f,q1v,qk8,qtu]
  all_goals exact Qw
theorem qug : q91 = q21:=by
  funext a119;simp only [q91,q21]
  all_goals exact Qw
theorem quf : q90 = q15:=by
  funext q1 p0 p1 p2;simp only [q90,q15,qug]
  all_goals exact Qw
theorem qtz : q8m = U3:=by
  funext p2 a438 q1 a681;simp only [q8m,U3]
  all_goals exact Qw
theorem qu0 : q8n = U4:=by
  funext q1 a838;simp only [q8n,U4]
  all_goals exact Qw
theorem qu1 : q8o = U5:=by
  funext p2 q1 b684 a928;simp only [q8o,U5]
  all_goals exact Qw
theorem qty : q5y = Zk:=by
  funext p2 q1 p1 a438;have a : @q5y.match_1.{1} = @Zk.match_1.{1} qi:=by funext motive m f g;cases m <;> rfl
  unfold q5y Zk;rw [a];simp only [qtz,qu0,qu1]
theorem qtx : q5x = Jp:=by
  funext q1 p0 p1 p2;have a : @q5x.match_1.{1} = @Jp.match_1.{1} qi:=by funext motive m f g;cases m <;> rfl
  unfold q5x Jp;rw [a];simp only [qty]
theorem qu5 : q8y = U6:=by
  funext a318 p1 q1 a378;simp only [q8y,U6]
  all_goals exact Qw
theorem qu6 : q8z = U7:=by
  funext b381 a318 p1 q1 a463;simp only [q8z,U7]
  all_goals exact Qw
theorem qu4 : q8x = q13:=by
  funext p1 q1 a318;simp only [q8x,q13,qu5,qu6]
  all_goals exact Qw
theorem qu3 : q8w = q12:=by
  funext q1 p0 p1 p2 p3;simp only [q8w,q12,qu4]
  all_goals exact Qw
theorem qu7 : q8r = q1z:=by
  funext p2 p0 p1 v101 p3 v103 q1 a163;simp only [q8r,q1z]
  all_goals exact Qw
theorem qu8 : q8s = q20:=by
  funext b166 p0 p1 v101 p3 v103 q1 a249;simp only [q8s,q20]
  all_goals exact Qw
theorem qua : q8u = Zt:=by
  funext a514 p1 q1 a572;simp only [q8u,Zt]
  all_goals exact Qw
theorem qub : q8v = Zu:=by
  funext b575 a514 p1 q1 a658;simp only [q8v,Zu]
  all_goals exact Qw
theorem qu9 : q8t = q14:=by
  funext p1 q1 a514;simp only [q8t,q14,qua,qub]
  all_goals exact Qw
theorem qu2 : q8q = q11:=by
  funext q1 p0 p1 p2 p3;simp only [q8q,q11,qu7,qu8,qu9]
  all_goals exact Qw
theorem qud : q6c = Z8:=by
  funext q1 rec a309;have a : @q6c.match_1.{1} = @Z8.match_1.{1} qi:=by funext motive m f g;cases m <;> rfl
  unfold q6c Z8;rw [a];simp only [qtr,qto,qtl,qtn,quf,qtx,qu3,qu2]
theorem que : q6d = U8:=by
  funext rec q1 p0 p1 p2 p3;simp only [q6d,U8,qud]
  all_goals exact Qw
theorem quc : ∀ N q,q6b N q = Yy N q:=by
  intro N q
  induction N with
  | zero=>rfl
  | succ N ih=>
    funext a b c d;show q6d (q6b N q) q a b c d = U8 (Yy N q) q a b c d;rw [ih,que]
theorem qtk : q5m = q1u:=by
  funext q1 p0;simp only [q5m,q1u,qk7,quc]
  all_goals exact Qw
end Go.Sh
namespace Go.Sh
open Go Go.Am
instance : Inhabited qi:=⟨⟨0,0,0⟩⟩
theorem qxy (q : qi→qi→Option Int) (xs : List qi) : q5m q xs = q1u q xs:=by rw [qtk]
def evs (s : List qo) (l : Int) : List qi:=s.flatMap fun t=>[{at_:=t.Lo,list_:=l,by_:=1},{at_:=t.Hi,list_:=l,by_:=-1}]
theorem q7a (s : List qo) (l : Int) : (evs s l).length = 2 * s.length:=by
  induction s with
  | nil=>rfl
  | cons t s ih=>simp only [evs,List.flatMap_cons,List.length_append,List.length_cons,List.length_nil] at ih ⊢;omega
theorem qao {s : List qo} {l : Int} {e : qi} (h : e∈evs s l) : e.list_ = l∧(e.by_ = 1∨e.by_ = -1)∧∃ t∈s,e.at_ = t.Lo∨e.at_ = t.Hi:=by
  simp only [evs,List.mem_flatMap] at h;obtain ⟨t,a,h⟩:=h;simp only [List.mem_cons,List.not_mem_nil,or_false] at h;rcases h with rfl | rfl
  · exact ⟨rfl,.inl rfl,t,a,.inl rfl⟩
  · exact ⟨rfl,.inr rfl,t,a,.inr rfl⟩
theorem qg5 (s : List qo) (l : Int) (y : List qi) (hs : s.length≤1000) (base : List qi) (hb : base.length≤10000) :
    loop (q45 s (l,y)) (0,base) = some (base ++ evs s l):=by
  have:=Jf (f:=q45 s (l,y)) (σ:=List qi) (fun k c=>((k : Int),c)) s.length (fun k c=>c = base ++ evs (s.take k) l) (fun t=>t = base ++ evs s l) ?_ ?_ (k0:=0) (c0:=base) q6 (by simp [evs])
  · obtain ⟨b,h,rfl⟩:=this;exact h
  · rintro k c g rfl;have a : decide ((k : Int) < (s.length : Int)) = true:=Qb q6;refine .inl ⟨base ++ evs (s.take (k + 1)) l,?_,rfl⟩;have d : (evs (s.take k) l).length≤2000:=by rw [q7a,List.length_take];omega
    simp only [q45,a,qy,Qx g,qh];rw [Y8 (by rw [List.length_append];simp only [List.length_cons,List.length_nil];omega),qh,Q8 q6,List.take_succ_eq_append_getElem g,List.append_assoc];have : evs (s.take k ++ [s[k]]) l = evs (s.take k) l ++ [{at_:=s[k].Lo,list_:=l,by_:=1},{at_:=s[k].Hi,list_:=l,by_:=-1}]:=by simp only [evs,List.flatMap_append,List.flatMap_cons,List.flatMap_nil,List.append_nil]
    rw [this];rfl
  · rintro c rfl;have a : decide ((s.length : Int) < (s.length : Int)) = false:=Q6 q6;exact ⟨_,by simp only [q45,a,Q0];rfl,by rw [List.take_length]⟩
def ltE (a b : qi) : Bool:=decide (a.at_ < b.at_)
def inE (e : qi) : Prop:=-1000000≤e.at_∧e.at_≤1000000
theorem swoE : Sort.SWO ltE where
  irrefl:=by intro x;simp [ltE]
  trans:=by intro x y z;simp only [ltE,decide_eq_true_eq];omega
  ntrans:=by intro x y z;simp only [ltE,decide_eq_false_iff_not];omega
theorem cmpE : Kq (fun b a=>q9a b a) ltE inE:=by
  rintro x y ⟨g,f⟩ ⟨c,d⟩;refine ⟨x.at_ - y.at_,?_,?_⟩
  · show some (w64 (x.at_ - y.at_)) = _;rw [Q8 q6]
  · unfold ltE;exact decide_eq_decide.2 q6
theorem qxx (p q : List qo) (hp : p.length≤500) (hq : q.length≤500) (r : ∀ t∈p,vld t) (s : ∀ t∈q,vld t) :
    ∃ ys,q9b [p,q] = some ([p,q],ys)∧ys.Perm (evs p 0 ++ evs q 1)∧ys.Pairwise (fun x y=>x.at_≤y.at_):=by
  have u : ∀ x∈evs p 0 ++ evs q 1,inE x:=by
    intro x m;rcases List.mem_append.1 m with h | h
    · obtain ⟨_,_,t,g,h⟩:=qao h;obtain ⟨a,b,c⟩:=r t g;unfold inE;rcases h with h | h <;> omega
    · obtain ⟨_,_,t,g,h⟩:=qao h;obtain ⟨a,b,c⟩:=s t g;unfold inE;rcases h with h | h <;> omega
  have v:=q7a p 0;have z:=q7a q 1;obtain ⟨ys,o,j,k⟩:=qkt cmpE swoE (evs p 0 ++ evs q 1) (by rw [List.length_append];omega) u;refine ⟨ys,?_,j,k.imp (fun {x y} h=>by simp only [ltE,decide_eq_false_iff_not] at h;omega)⟩
  have d : loop (Uk [p,q]) (0,[]) = some (evs p 0 ++ evs q 1):=by
    have s0 : Uk [p,q] (0,[]) = some (.inl (1,evs p 0)):=by
      have t : decide ((0 : Int) < (([p,q] : List (List qo)).length : Int)) = true:=rfl;simp only [Uk,t,qy];have : idx [p,q] 0 = some p:=rfl;rw [this];simp only [qh,qg5 p 0 [] q6 [] qd,List.nil_append];rfl
    have l : Uk [p,q] (1,evs p 0) = some (.inl (2,evs p 0 ++ evs q 1)):=by
      have t : decide ((1 : Int) < (([p,q] : List (List qo)).length : Int)) = true:=rfl;simp only [Uk,t,qy];have : idx [p,q] 1 = some q:=rfl;rw [this];simp only [qh,qg5 q 1 (evs p 0) q6 (evs p 0) q6];rfl
    have n : Uk [p,q] (2,evs p 0 ++ evs q 1) = some (.inr (evs p 0 ++ evs q 1)):=by
      have t : decide ((2 : Int) < (([p,q] : List (List qo)).length : Int)) = false:=rfl;simp only [Uk,t,Q0]
    rw [Kc s0,Kc l,K7 n]
  unfold q9b;rw [d];simp only [qh,qxy,o];have le : Qz ys.length (evs p 0 ++ evs q 1).length = some ():=by unfold Qz;rw [qp j.length_eq]
  have f : Qz ys.length ys.length = some ():=by unfold Qz;rw [qp rfl]
  simp only [le,qh,qbi,f]
def cnt (l : Int) (c : Int→Bool) : List qi→Int
  | []=>0
  | e::es=>(if e.list_ = l∧c e.at_ = true then e.by_ else 0) + cnt l c es
theorem q1q (l : Int) (c : Int→Bool) (a b : List qi) : cnt l c (a ++ b) = cnt l c a + cnt l c b:=by
  induction a with
  | nil=>simp [cnt]
  | cons e a ih=>simp only [List.cons_append,cnt,ih];omega
theorem qfq {l : Int} {c : Int→Bool} {a b : List qi} (h : a.Perm b) : cnt l c a = cnt l c b:=by
  induction h with
  | nil=>rfl
  | cons x _ ih=>simp only [cnt,ih]
  | swap x y l=>simp only [cnt];omega
  | trans _ _ ih1 ih2=>rw [ih1,ih2]
theorem qfn {l : Int} {c b : Int→Bool} : ∀ {a : List qi},(∀ e∈a,c e.at_ = b e.at_)→cnt l c a = cnt l b a
  | [],_=>rfl
  | e::a,h=>by simp only [cnt,h e qd,qfn (fun e d=>h e (List.mem_cons_of_mem _ d))]
theorem qfp {l : Int} {c : Int→Bool} : ∀ {a : List qi},(∀ e∈a,c e.at_ = false)→cnt l c a = 0
  | [],_=>rfl
  | e::a,h=>by
    simp only [cnt,qfp (fun e b=>h e (List.mem_cons_of_mem _ b)),h e qd]
    simp
theorem q72 {s : List qo} {l l' : Int} {c : Int→Bool} (h : l≠l') : cnt l c (evs s l') = 0:=by
  induction s with
  | nil=>rfl
  | cons t s ih=>
    have : evs (t::s) l' = [{at_:=t.Lo,list_:=l',by_:=1},{at_:=t.Hi,list_:=l',by_:=-1}] ++ evs s l':=rfl;rw [this,q1q,ih];have a : ¬ l' = l:=fun e=>h e.symm;simp [cnt,a]
theorem qfo {s : List qo} {l : Int} (v : ∀ t∈s,vld t) (x : Int) : 0≤cnt l (fun a=>decide (a≤x)) (evs s l)∧(0 < cnt l (fun a=>decide (a≤x)) (evs s l)↔has s x):=by
  induction s with
  | nil=>exact ⟨Int.le_refl 0,by simp [evs,cnt,has]⟩
  | cons t s ih=>
    obtain ⟨h,c⟩:=ih (fun t d=>v t (List.mem_cons_of_mem _ d));have b:=v t qd;have : evs (t::s) l = [{at_:=t.Lo,list_:=l,by_:=1},{at_:=t.Hi,list_:=l,by_:=-1}] ++ evs s l:=rfl;rw [this,q1q,Zd,← c];obtain ⟨j,f,g⟩:=b;simp only [cnt,true_and,decide_eq_true_eq];split <;> split <;> omega
theorem qfr {s : List qo} {l : Int} : cnt l (fun _=>true) (evs s l) = 0:=by
  induction s with
  | nil=>rfl
  | cons t s ih=>
    have : evs (t::s) l = [{at_:=t.Lo,list_:=l,by_:=1},{at_:=t.Hi,list_:=l,by_:=-1}] ++ evs s l:=rfl;rw [this,q1q,ih];simp [cnt]
theorem qce {l : Int} {c : Int→Bool} : ∀ {a : List qi},(∀ e∈a,e.by_ = 1∨e.by_ = -1)→-(a.length : Int)≤cnt l c a∧cnt l c a≤(a.length : Int)
  | [],_=>by simp [cnt]
  | e::a,h=>by
    obtain ⟨d,f⟩:=qce (l:=l) (c:=c) (fun e b=>h e (List.mem_cons_of_mem _ b))
    have:=h e qd
    simp only [cnt,List.length_cons]
    split <;> omega
end Go.Sh
namespace Go.Sh
open Go Go.Am
theorem qn7 (at_ a : Int) (inn : Bool) (out : List qo) (h : out.length≤10000) :
    q9c at_ inn a out = some (inn,a,if inn = true∧a≠at_ then addS out a at_ else out):=by
  unfold q9c
  cases inn with
  | false=>rfl
  | true=>
    by_cases f : a = at_
    · simp [f]
    · have hb : (a == at_) = false:=by simpa using f
      simp only [Bool.not_true,Q0,qh,hb];rw [qp ⟨trivial,f⟩];rcases qbj out with rfl | ⟨d,t,rfl⟩
      · rfl
      · have l : (d ++ [t]).length = d.length + 1:=by simp
        have k : decide (((d ++ [t]).length : Int) > 0) = true:=Qb q6;have g : w64 (((d ++ [t]).length : Int) - 1) = (d.length : Int):=by rw [Q8 q6];omega
        have j : idx (d ++ [t]) (d.length : Int) = some t:=by
          rw [Qx q6];simp
        simp only [k,qy,g,j,qh];by_cases c : t.Hi = a
        · subst c;simp only [beq_self_eq_true,qy,q9r,Int.toNat_natCast,qkc]
        · have b : (t.Hi == a) = false:=by simpa using c
          simp only [b,Q0,q9s c];rw [Y8 (by simp;omega)];rfl
open Classical in
structure qln (f : Bool→Bool→Bool) (p q : List qo) (ys : List qi) (k : Nat) (c : List Int × Int × Bool × List qo) : Prop where
  opn : c.1 = [cnt 0 (fun _=>true) (ys.take k),cnt 1 (fun _=>true) (ys.take k)]
  inn : c.2.2.1 = f (decide (0 < cnt 0 (fun _=>true) (ys.take k))) (decide (0 < cnt 1 (fun _=>true) (ys.take k)))
  lst : ∀ (h : k - 1 < ys.length),0 < k→c.2.1 = ys[k - 1].at_
  can : Can c.2.2.2
  his : ∀ t∈c.2.2.2,t.Hi≤c.2.1
  zro : k = 0→c.2.2.2 = []
  pts : ∀ x,has c.2.2.2 x↔0 < k∧x < c.2.1∧f (decide (has p x)) (decide (has q x)) = true
  len : c.2.2.2.length≤k
theorem qlp (c : List qo) (a b : Int) : (addS c a b).length≤c.length + 1:=by
  rcases qbj c with rfl | ⟨d,t,rfl⟩
  · simp [qew]
  · by_cases h : t.Hi = a
    · subst h;rw [q9r];simp
    · rw [q9s h];simp
theorem qfm {p q : List qo} {ys : List qi} (hp : ∀ t∈p,vld t) (o : ∀ t∈q,vld t) (b : ys.Perm (evs p 0 ++ evs q 1)) (_ : ys.Pairwise (fun x y=>x.at_≤y.at_)) (k : Nat) (x : Int)
    (g : ∀ i (h : i < ys.length),i < k→ys[i].at_≤x) (j : ∀ i (h : i < ys.length),k≤i→x < ys[i].at_) :
    (0 < cnt 0 (fun _=>true) (ys.take k)↔has p x)∧(0 < cnt 1 (fun _=>true) (ys.take k)↔has q x):=by
  have key : ∀ l,cnt l (fun _=>true) (ys.take k) = cnt l (fun a=>decide (a≤x)) (evs p 0) + cnt l (fun a=>decide (a≤x)) (evs q 1):=by
    intro l;rw [← q1q,← qfq b]
    conv=>rhs;rw [← List.take_append_drop k ys]
    rw [q1q]
    have m : cnt l (fun a=>decide (a≤x)) (ys.drop k) = 0:=by
      refine qfp fun e c=>?_;obtain ⟨i,hi,rfl⟩:=List.mem_iff_getElem.1 c;rw [List.getElem_drop];rw [List.length_drop] at hi;have:=j (k + i) q6 q6;exact Q6 q6
    have n : cnt l (fun a=>decide (a≤x)) (ys.take k) = cnt l (fun _=>true) (ys.take k):=by
      refine qfn fun e c=>?_;obtain ⟨i,hi,rfl⟩:=List.mem_iff_getElem.1 c;rw [List.getElem_take];rw [List.length_take] at hi;exact Qb (g i q6 q6)
    rw [m,n];omega
  rw [key 0,key 1,q72 (l:=0) (l':=1) qt,q72 (l:=1) (l':=0) qt];have d:=qfo (l:=0) hp x;have f:=qfo (l:=1) o x;rw [Int.add_zero,Int.zero_add];exact ⟨d.2,f.2⟩
open Classical in
theorem qp4 (f : Bool→Bool→Bool) (hf : f false false = false) (p2 : Bool→Bool→Option Bool) (hp2 : ∀ a b,p2 a b = some (f a b)) (p q : List qo)
    (hp : p.length≤500) (hq : q.length≤500) (vp : ∀ t∈p,vld t) (vq : ∀ t∈q,vld t) :
    ∃ out,q6m p q p2 = some out∧Can out∧∀ x,has out x↔f (decide (has p x)) (decide (has q x)) = true:=by
  obtain ⟨ys,e1,g,hs⟩:=qxx p q hp hq vp vq;have bh : ys.length≤2000:=by rw [g.length_eq,List.length_append,q7a,q7a];omega
  have y : ∀ i j (hi : i < ys.length) (hj : j < ys.length),i≤j→ys[i].at_≤ys[j].at_:=by
    intro i j hi hj bl;rcases Nat.lt_or_ge i j with h | h
    · exact List.pairwise_iff_getElem.1 hs i j hi hj h
    · obtain rfl : i = j:=by omega
      exact Int.le_refl _
  have z : ∀ e∈ys,(e.list_ = 0∨e.list_ = 1)∧(e.by_ = 1∨e.by_ = -1):=by
    intro e he;rcases List.mem_append.1 (g.mem_iff.1 he) with h | h
    · obtain ⟨a,b,_⟩:=qao h;exact ⟨.inl a,b⟩
    · obtain ⟨a,b,_⟩:=qao h;exact ⟨.inr a,b⟩
  have:=Jf (f:=q46 ([p,q],ys) p2) (σ:=List Int × Int × Bool × List qo) (fun k c=>((k : Int),c)) ys.length (qln f p q ys) (fun out=>Can out∧∀ x,has out x↔f (decide (has p x)) (decide (has q x)) = true) ?_ ?_ (k0:=0) (c0:=([0,0],0,false,[])) q6 ?_
  · obtain ⟨out,o,m⟩:=this;refine ⟨out,?_,m⟩;unfold q6m;have o : loop (q46 ([p,q],ys) p2) (0,[0,0],0,false,[]) = some out:=o;rw [e1];simp only [qh,o];rfl
  · rintro k ⟨opn,d,inn,out⟩ hk ⟨s1,s2,s3,s4,s5,s6,s7,s8⟩;simp only at s1 s2 s3 s4 s5 s6 s7 s8;have ae : decide ((k : Int) < (ys.length : Int)) = true:=Qb q6;have az:=qn7 ys[k].at_ d inn out q6;have hm:=z ys[k] (Y6 hk);have bd : ys.take (k + 1) = ys.take k ++ [ys[k]]:=List.take_succ_eq_append_getElem hk;have am : ∀ e∈ys.take k,e.by_ = 1∨e.by_ = -1:=fun e he=>(z e (List.mem_of_mem_take he)).2;have b0:=qce (l:=0) (c:=fun _=>true) am;have b1:=qce (l:=1) (c:=fun _=>true) am;have ba : (ys.take k).length = k:=by rw [List.length_take];omega
    rw [ba] at b0 b1
    have ac : ∃ v,idxA 2 opn ys[k].list_ = some v∧opn.set ys[k].list_.toNat (w64 (v + ys[k].by_)) = [cnt 0 (fun _=>true) (ys.take (k + 1)),cnt 1 (fun _=>true) (ys.take (k + 1))]:=by
      subst s1;rw [bd,q1q,q1q];rcases hm.1 with h | h
      · refine ⟨cnt 0 (fun _=>true) (ys.take k),by rw [h];rfl,?_⟩;rw [h,Q8 q6];simp [cnt,h]
      · refine ⟨cnt 1 (fun _=>true) (ys.take k),by rw [h];rfl,?_⟩;rw [h,Q8 q6];simp [cnt,h]
    obtain ⟨v,o1,o2⟩:=ac;refine .inl ⟨([cnt 0 (fun _=>true) (ys.take (k + 1)),cnt 1 (fun _=>true) (ys.take (k + 1))],ys[k].at_,f (decide (0 < cnt 0 (fun _=>true) (ys.take (k + 1)))) (decide (0 < cnt 1 (fun _=>true) (ys.take (k + 1)))),if inn = true∧d≠ys[k].at_ then addS out d ys[k].at_ else out),?_,?_⟩
    · have x0 : ∀ a b : Int,idxA 2 [a,b] 0 = some a:=fun a b=>rfl;have x1 : ∀ a b : Int,idxA 2 [a,b] 1 = some b:=fun a b=>rfl;simp only [q46,ae,qy,Qx hk,qh,az,o1,o2,x0,x1,hp2];rw [Q8 q6];rfl
    · have ab : ∀ x,(0 < k→d≤x)→∀ i (h : i < ys.length),i < k→ys[i].at_≤x:=by
        intro x r i hi aj;have:=s3 q6 q6;have:=y i (k - 1) hi q6 q6;have:=r q6;omega
      have ad : ∀ x,x < ys[k].at_→∀ i (h : i < ys.length),k≤i→x < ys[i].at_:=by
        intro x r i hi aj;have:=y k i hk hi aj;omega
      have hF : ∀ x,(0 < k→d≤x)→x < ys[k].at_→f (decide (has p x)) (decide (has q x)) = inn:=by
        intro x r av;obtain ⟨c1,c2⟩:=qfm vp vq g hs k x (ab x r) (ad x av);rw [s2,decide_eq_decide.2 c1,decide_eq_decide.2 c2]
      have n : 0 < k→d≤ys[k].at_:=by
        intro u;rw [s3 q6 u];exact y (k - 1) k q6 hk q6
      have aa : k = 0→inn = false:=by
        intro u;subst u;rw [s2];exact hf
      by_cases s : inn = true∧d≠ys[k].at_
      · have ak : 0 < k:=by
          rcases Nat.eq_zero_or_pos k with h | h
          · rw [aa h] at s;cases s.1
          · exact h
        have hl:=n ak;have ay : d < ys[k].at_:=by have:=s.2;omega
        obtain ⟨d1,d2,d3,d4⟩:=qex s4 s5 ay;constructor
        · rfl
        · rfl
        · intro h _;rfl
        · simp only [qp s];exact d1
        · simp only [qp s];exact d3
        · omega
        · intro x;simp only [qp s];rw [d2,s7];constructor
          · rintro (⟨u,o,m⟩ | ⟨o,m⟩)
            · exact ⟨q6,q6,m⟩
            · exact ⟨q6,m,by rw [hF x (fun _=>o) m];exact s.1⟩
          · rintro ⟨u,o,m⟩;by_cases r : x < d
            · exact .inl ⟨ak,r,m⟩
            · exact .inr ⟨q6,o⟩
        · simp only [qp s];have:=qlp out d ys[k].at_;omega
      · constructor
        · rfl
        · rfl
        · intro h _;rfl
        · simp only [qr s];exact s4
        · simp only [qr s];intro t ht;rcases Nat.eq_zero_or_pos k with h | h
          · rw [s6 h] at ht;cases ht
          · have:=s5 t ht;have:=n h;omega
        · omega
        · intro x;simp only [qr s];rw [s7];constructor
          · rintro ⟨u,o,m⟩;exact ⟨q6,by have:=n u;omega,m⟩
          · rintro ⟨u,o,m⟩;by_cases r : 0 < k∧x < d
            · exact ⟨r.1,r.2,m⟩
            · have ao : 0 < k→d≤x:=fun h=>by
                refine Int.not_lt.1 fun h'=>r ⟨h,h'⟩
              have:=hF x ao o;rw [this] at m;refine absurd ⟨m,?_⟩ s;intro e;rcases Nat.eq_zero_or_pos k with h | h
              · rw [aa h] at m;cases m
              · have:=ao h;omega
        · simp only [qr s];omega
  · rintro ⟨opn,d,inn,out⟩ ⟨s1,s2,s3,s4,s5,s6,s7,s8⟩;simp only at s1 s2 s3 s4 s5 s6 s7 s8;have ae : decide ((ys.length : Int) < (ys.length : Int)) = false:=Q6 q6;refine ⟨out,by simp only [q46,ae,Q0],s4,fun x=>?_⟩;rw [s7];constructor
    · rintro ⟨_,_,h⟩;exact h
    · intro h;by_cases r : 0 < ys.length∧x < d
      · exact ⟨r.1,r.2,h⟩
      · obtain ⟨c1, c2⟩ := qfm vp vq g hs ys.length x (fun i hi _ => by
            have:=s3 q6 q6;have:=y i (ys.length - 1) hi q6 q6;have : d≤x:=Int.not_lt.1 fun h'=>r ⟨q6,h'⟩
            omega) (fun i hi bm=>q6)
        have bf : ∀ l,cnt l (fun _=>true) (ys.take ys.length) = 0:=by
          intro l;rw [List.take_length,qfq g,q1q];by_cases u : l = 0
          · subst u;rw [qfr,q72 qt];rfl
          · rw [q72 u];by_cases o : l = 1
            · subst o;rw [qfr];rfl
            · rw [q72 o];rfl
        rw [bf] at c1 c2;have n1 : ¬ has p x:=fun h=>absurd (c1.2 h) qt;have n2 : ¬ has q x:=fun h=>absurd (c2.2 h) qt;rw [Q6 n1,Q6 n2,hf] at h;cases h
  · constructor
    · simp [cnt]
    · simp [cnt,hf]
    · intro h u;omega
    · exact ⟨fun t ht=>(by cases ht),.nil⟩
    · intro t ht;cases ht
    · intro _;rfl
    · intro x;simp [has]
    · simp
end Go.Sh
namespace Go.Sh
open Go Go.Am
theorem qn4 {s : List qo} (h : Jy s = 0) : s.length≤400∧Good s:=by
  unfold Jy at h;split at h
  · cases h
  · split at h
    · rename_i b a;exact ⟨q6,a⟩
    · cases h
def dst (x : Int) (t : qo) : Int:=max (max (t.Lo - x) (x - t.Hi + 1)) 0
end Go.Sh
namespace Go.Sh
open Go Go.Am
noncomputable def q37 (kind : Int) (p q : List qo) : List qo:=(qax kind p q).getD []
theorem q7d (kind : Int) (p q : List qo) (hp : p.length≤100000) (a : q.length≤100000) : qax kind p q = some (q37 kind p q)∧qbx kind p q (q37 kind p q):=by
  obtain ⟨out,b,c⟩:=qpa kind p q hp a;unfold q37;rw [b];exact ⟨rfl,c⟩
theorem qoy (s : List qo) (d : qo→Option Bool) (c : qo→Bool) (h : ∀ t,d t = some (c t)) (q : s.length≤1000000) :
    ∃ r,q8c s d = some r∧decide (r ≥ 0) = s.any c:=by
  have:=Jf (f:=q2l s d) (σ:=Unit) (fun k _=>(k : Int)) s.length (fun k _=>∀ i (h : i < s.length),i < k→c s[i] = false)
    (fun m=>∃ r : Int,(match m with | .inl b22=>some (-1) | .inr x1=>some x1) = some r∧decide (r ≥ 0) = s.any c) ?_ ?_ (k0:=0) (c0:=()) q6 (fun i _ hi=>q6)
  · obtain ⟨m,g,r,n,l⟩:=this;have g : loop (q2l s d) 0 = some m:=g;exact ⟨r,by unfold q8c;rw [g];exact n,l⟩
  · rintro k _ j hi;have hb : decide ((k : Int) < (s.length : Int)) = true:=Qb q6
    cases b : c s[k] with
    | true=>
      refine .inr ⟨.inr (k : Int),?_,(k : Int),rfl,?_⟩
      · simp only [q2l,hb,qy,Qx j,qh,h,b]
      · have : s.any c = true:=List.any_eq_true.2 ⟨s[k],Y6 j,b⟩;rw [this];exact Qb q6
    | false=>
      refine .inl ⟨(),?_,?_⟩
      · simp only [q2l,hb,qy,Qx j,qh,h,b,Q0];rw [Q8 q6];rfl
      · intro i a p;by_cases e : i = k
        · subst e;exact b
        · exact hi i a q6
  · rintro _ hi;have hb : decide ((s.length : Int) < (s.length : Int)) = false:=Q6 q6;refine ⟨.inl (),by simp only [q2l,hb,Q0],-1,rfl,?_⟩
    have : s.any c = false:=by
      rw [List.any_eq_false];intro t o;obtain ⟨i,a,rfl⟩:=List.mem_iff_getElem.1 o;simp [hi i a a]
    rw [this];rfl
theorem qnf (s : List qo) (a : qo→Option Bool) (c : qo→Bool) (h : ∀ t,a t = some (c t)) (d : s.length≤1000000) : q88 s a = some (s.any c):=by
  obtain ⟨r,b,f⟩:=qoy s a c h d;unfold q88;rw [b,qh,f]
open Classical in
noncomputable def qdb (s : List qo) : List qo × Int:=if 400 < s.length then ([],4) else if ∀ t∈s,vld t then (q37 2 s [],0) else ([],8)
theorem qpo (s : List qo) (k : s.length≤400) (d : ∀ t∈s,vld t) (p2 : Bool→Bool→Option Bool) (hp2 : ∀ a b,p2 a b = some a) : q6m s [] p2 = some (q37 2 s []):=by
  classical
  obtain ⟨out,h,g,c⟩:=qp4 (fun a _=>a) rfl p2 hp2 s [] q6 qd d (fun t f=>by cases f);obtain ⟨_,j⟩:=q7d 2 s [] q6 qd;rw [h];congr 1;refine q70 g j.can fun x=>?_;rw [c,j.pts];simp [Yd,q16]
theorem qpn (s : List qo) : q6l s = some (qdb s):=by
  classical
  unfold q6l qdb;by_cases f : 400 < s.length
  · have e : decide ((s.length : Int) > 400) = true:=Qb q6;rw [e,qp f];rfl
  · have e : decide ((s.length : Int) > 400) = false:=Q6 q6;rw [e,qr f,Q0,qnf s _ (fun t=>!decide (vld t)) (fun t=>by show (q2p t).bind _ = _;rw [qlc];rfl) q6,qh];by_cases c : ∀ t∈s,vld t
    · have : (s.any fun t=>!decide (vld t)) = false:=by
        rw [List.any_eq_false];intro t d;simp [c t d]
      rw [this,Q0,qp c,qpo s q6 c (fun j g=>q99 j g) (fun a b=>rfl)];rfl
    · have : (s.any fun t=>!decide (vld t)) = true:=by
        rw [List.any_eq_true];obtain ⟨t,c⟩:=Classical.not_forall.1 c;obtain ⟨d,h⟩:=Classical.not_imp.1 c;exact ⟨t,d,by simp [h]⟩
      rw [this,qy,qr c]
def lenL : List qo→Int
  | []=>0
  | t::s=>(t.Hi - t.Lo) + lenL s
theorem qht (a b : List qo) : lenL (a ++ b) = lenL a + lenL b:=by
  induction a with
  | nil=>simp [lenL]
  | cons t a ih=>simp only [List.cons_append,lenL,ih];omega
theorem qhu : ∀ {s : List qo},(∀ t∈s,vld t)→0≤lenL s∧lenL s≤2000000 * (s.length : Int)
  | [],_=>by simp [lenL]
  | t::s,h=>by
    obtain ⟨b,f⟩:=qhu (fun t a=>h t (List.mem_cons_of_mem _ a))
    obtain ⟨d,g,c⟩:=h t qd
    simp only [lenL,List.length_cons]
    omega
noncomputable def qd6 (s : List qo) : Int × Int:=if Jy s = 0 then (lenL s,0) else (0,Jy s)
theorem qpb (s : List qo) (o : s.length≤400) (g : ∀ t∈s,vld t) : loop (q98 s) (0,0) = some (lenL s)∧loop (q7n s) (0,0) = some (lenL s):=by
  have d : ∀ k,0≤lenL (s.take k)∧lenL (s.take k)≤800000000:=by
    intro k;have:=qhu (s:=s.take k) (fun t n=>g t (List.mem_of_mem_take n));have : (s.take k).length≤400:=by rw [List.length_take];omega
    omega
  constructor
  · have:=Jf (f:=q98 s) (σ:=Int) (fun k c=>(c,(k : Int))) s.length (fun k c=>c = lenL (s.take k)) (fun r=>r = lenL s) ?_ ?_ (k0:=0) (c0:=0) q6 (by simp [lenL])
    · obtain ⟨b,h,rfl⟩:=this;exact h
    · rintro k c a rfl;have hb : decide ((k : Int) < (s.length : Int)) = true:=Qb q6;obtain ⟨m,j,l⟩:=g _ (Y6 a);have:=d k;refine .inl ⟨lenL (s.take (k + 1)),?_,rfl⟩;simp only [q98,hb,qy,Qx a,qh];rw [Q8 (x:=s[k].Hi - s[k].Lo) q6,Q8 (x:=lenL (s.take k) + _) q6,Q8 q6,List.take_succ_eq_append_getElem a,qht];simp only [lenL,Int.add_zero];rfl
    · rintro c rfl;have hb : decide ((s.length : Int) < (s.length : Int)) = false:=Q6 q6;exact ⟨_,by simp only [q98,hb,Q0];rfl,by rw [List.take_length]⟩
  · have:=Jf (f:=q7n s) (σ:=Int) (fun k c=>(c,(k : Int))) s.length (fun k c=>c = lenL (s.take k)) (fun r=>r = lenL s) ?_ ?_ (k0:=0) (c0:=0) q6 (by simp [lenL])
    · obtain ⟨b,h,rfl⟩:=this;exact h
    · rintro k c a rfl;have hb : decide ((k : Int) < (s.length : Int)) = true:=Qb q6;obtain ⟨m,j,l⟩:=g _ (Y6 a);have:=d k;refine .inl ⟨lenL (s.take (k + 1)),?_,rfl⟩;simp only [q7n,hb,qy,Qx a,qh];rw [Q8 (x:=lenL (s.take k) + s[k].Hi) q6,Q8 (x:=lenL (s.take k) + s[k].Hi - _) q6,Q8 q6,List.take_succ_eq_append_getElem a,qht];have : lenL (s.take k) + s[k].Hi - s[k].Lo = lenL (s.take k) + lenL [s[k]]:=by simp only [lenL];omega
      rw [this];rfl
    · rintro c rfl;have hb : decide ((s.length : Int) < (s.length : Int)) = false:=Q6 q6;exact ⟨_,by simp only [q7n,hb,Q0];rfl,by rw [List.take_length]⟩
theorem qzp (s : List qo) : qkx s = some (qd6 s)∧qji s = some (qd6 s):=by
  unfold qkx qji qd6;simp only [qfi,qrv,qh];by_cases h : Jy s = 0
  · obtain ⟨c,d⟩:=qn4 h;obtain ⟨a,b⟩:=qpb s c d.1;have e : (Jy s != 0) = false:=by simpa using h
    simp only [e,Q0,a,b,qh];simp only [h,if_true];exact ⟨trivial,trivial⟩
  · have e : (Jy s != 0) = true:=by simpa using h
    simp only [e,qy,qr h];exact ⟨trivial,trivial⟩
end Go.Sh
set_option maxHeartbeats 4000000
namespace Go.Sh
open Go Go.Am
def sg (a b : Int) : Int:=if a < b then -1 else 0
theorem Zl {a b : Int} : decide (sg a b < 0) = decide (a < b):=by
  unfold sg;by_cases h : a < b <;> simp [h]
def qO (a b : Int) : Option Int:=some (sg a b)
theorem Zy (a b : Int) : qO a b = some (sg a b):=rfl
theorem Zw (a b : Int) : Yt a b = some (decide (a < b)):=by
  unfold Yt q71;have : (a != a) = false:=by simp
  simp []
theorem qxi : qbm = q4j:=rfl
theorem qvl : (fun a=>q25 a) = (fun a=>q33 a):=by
  funext a;simp only [q25,q33,qxi]
  all_goals exact Qw
theorem qvm  : ∀ a,q25 a = q33 a:=fun a=>(congrFun qvl a)
theorem qvk : (fun a=>Uc a) = (fun a=>Uw a):=by
  funext a;simp only [Uc,Uw,qvm]
  all_goals exact Qw
theorem qkp  : ∀ a,Uc a = Uw a:=fun a=>(congrFun qvk a)
theorem qw5 : (fun a=>q5v a) = (fun a=>Jn a qO):=by
  funext a a443;simp only [q5v,Jn,Zw,Zy,qh,Zl]
  all_goals exact Qw
theorem qw6  : ∀ a,q5v a = Jn a qO:=fun a=>(congrFun qw5 a)
theorem qw3 : (fun p2 a=>q5u p2 a) = (fun p2 a=>q10 p2 a qO):=by
  funext p2 a a270;simp only [q5u,q10,qw6]
  all_goals exact Qw
theorem qw4  : ∀ p2 a,q5u p2 a = q10 p2 a qO:=fun p2 a=>(congrFun (congrFun qw3 p2) a)
theorem qw1 : (fun a b p2=>q5t a b p2) = (fun a b p2=>q1x qO a b p2):=by
  funext a b p2;simp only [q5t,q1x,qw4]
  all_goals exact Qw
theorem qw2  : ∀ a b p2,q5t a b p2 = q1x qO a b p2:=fun a b p2=>(congrFun (congrFun (congrFun qw1 a) b) p2)
theorem qxg : (fun p2 p3=>q6h p2 p3) = (fun p2 p3=>Jq p2 p3 qO):=by
  funext p2 p3 a193;simp only [q6h,Jq,Zw,Zy,qh,Zl]
  all_goals exact Qw
theorem qxh  : ∀ p2 p3,q6h p2 p3 = Jq p2 p3 qO:=fun p2 p3=>(congrFun (congrFun qxg p2) p3)
theorem qxf : (fun a b p2 p3=>q40 a b p2 p3) = (fun a b p2 p3=>U9 qO a b p2 p3):=by
  funext a b p2 p3;simp only [q40,U9,qxh]
  all_goals exact Qw
theorem qkr  : ∀ a b p2 p3,q40 a b p2 p3 = U9 qO a b p2 p3:=fun a b p2 p3=>(congrFun (congrFun (congrFun (congrFun qxf a) b) p2) p3)
theorem qvx : (fun p2 a=>q5r p2 a) = (fun p2 a=>Uy qO p2 a):=by
  funext p2 a a123;simp only [q5r,Uy,qkr]
  all_goals exact Qw
theorem qvy  : ∀ p2 a,q5r p2 a = Uy qO p2 a:=fun p2 a=>(congrFun (congrFun qvx p2) a)
theorem qvz : (fun a=>q5s a) = (fun a=>Uz a qO):=by
  funext a a191;simp only [q5s,Uz,qkr]
  all_goals exact Qw
theorem qw0  : ∀ a,q5s a = Uz a qO:=fun a=>(congrFun qvz a)
theorem qvv : (fun a b p2=>q5q a b p2) = (fun a b p2=>q1w qO a b p2):=by
  funext a b p2;simp only [q5q,q1w,qvy,qw0]
  all_goals exact Qw
theorem qvw  : ∀ a b p2,q5q a b p2 = q1w qO a b p2:=fun a b p2=>(congrFun (congrFun (congrFun qvv a) b) p2)
theorem qwa : (fun a=>q1k a) = (fun a=>q1y a):=by
  funext a;simp only [q1k,q1y,qkp]
  all_goals exact Qw
theorem qwb  : ∀ a,q1k a = q1y a:=fun a=>(congrFun qwa a)
theorem qxj : (fun a=>q1l a) = (fun a=>q22 a):=by
  funext a;simp only [q1l,q22]
  all_goals exact Qw
theorem qxk  : ∀ a,q1l a = q22 a:=fun a=>(congrFun qxj a)
theorem qvr : (fun b p2 a=>q5o b p2 a) = (fun b p2 a=>U0 b p2 a):=by
  funext b p2 a a153;simp only [q5o,U0,qxk]
  all_goals exact Qw
theorem qvs  : ∀ b p2 a,q5o b p2 a = U0 b p2 a:=fun b p2 a=>(congrFun (congrFun (congrFun qvr b) p2) a)
theorem qvp : (fun a b p2=>q5n a b p2) = (fun a b p2=>Ux qO a b p2):=by
  funext a b p2;simp only [q5n,Ux,qwb,qvs]
  all_goals exact Qw
theorem qvq  : ∀ a b p2,q5n a b p2 = Ux qO a b p2:=fun a b p2=>(congrFun (congrFun (congrFun qvp a) b) p2)
theorem qwc : (fun a b p2 p3=>q2n a b p2 p3) = (fun a b p2 p3=>U2 qO a b p2 p3):=by
  funext a b p2 p3;simp only [q2n,U2,Zw,Zy,qh,Zl]
  all_goals exact Qw
theorem qwd  : ∀ a b p2 p3,q2n a b p2 p3 = U2 qO a b p2 p3:=fun a b p2 p3=>(congrFun (congrFun (congrFun (congrFun qwc a) b) p2) p3)
theorem qw7 : (fun a b p2 p3 p4=>q3u a b p2 p3 p4) = (fun a b p2 p3 p4=>U1 qO a b p2 p3 p4):=by
  funext a b p2 p3 p4;simp only [q3u,U1,qwd]
  all_goals exact Qw
theorem qkq  : ∀ a b p2 p3 p4,q3u a b p2 p3 p4 = U1 qO a b p2 p3 p4:=fun a b p2 p3 p4=>(congrFun (congrFun (congrFun (congrFun (congrFun qw7 a) b) p2) p3) p4)
theorem qw8 : (fun a b p2=>q2m a b p2) = (fun a b p2=>Jo qO a b p2):=by
  funext a b p2;simp only [q2m,Jo,qkq]
  all_goals exact Qw
theorem qw9  : ∀ a b p2,q2m a b p2 = Jo qO a b p2:=fun a b p2=>(congrFun (congrFun (congrFun qw8 a) b) p2)
theorem qvt : (fun a b p2=>q5p a b p2) = (fun a b p2=>q1v a b p2 qO):=by
  funext a b p2;simp only [q5p,q1v,qkq,qw9]
  all_goals exact Qw
theorem qvu  : ∀ a b p2,q5p a b p2 = q1v a b p2 qO:=fun a b p2=>(congrFun (congrFun (congrFun qvt a) b) p2)
theorem qxe : q92 = q21:=by
  funext a119;simp only [q92,q21]
  all_goals exact Qw
theorem qxc : (fun a b p2=>q6f a b p2) = (fun a b p2=>q15 qO a b p2):=by
  funext a b p2;simp only [q6f,q15,qxe]
  all_goals exact Qw
theorem qxd  : ∀ a b p2,q6f a b p2 = q15 qO a b p2:=fun a b p2=>(congrFun (congrFun (congrFun qxc a) b) p2)
theorem qwi : (fun p2 a=>q5z p2 a) = (fun p2 a=>U3 p2 a qO):=by
  funext p2 a a667;simp only [q5z,U3,Zw,Zy,qh,Zl]
  all_goals exact Qw
theorem qwj  : ∀ p2 a,q5z p2 a = U3 p2 a qO:=fun p2 a=>(congrFun (congrFun qwi p2) a)
theorem qwk : q8p = U4 qO:=by
  funext a822;simp only [q8p,U4,Zw,Zy,qh,Zl]
  all_goals exact Qw
theorem qwl : (fun p2 a=>q60 p2 a) = (fun p2 a=>U5 p2 qO a):=by
  funext p2 a a912;simp only [q60,U5,Zw,Zy,qh,Zl]
  all_goals exact Qw
theorem qwm  : ∀ p2 a,q60 p2 a = U5 p2 qO a:=fun p2 a=>(congrFun (congrFun qwl p2) a)
theorem qwg : (fun p2 a=>q3x p2 a) = (fun p2 a=>Zk p2 qO a):=by
  funext p2 a a432;have b : @q3x.match_1.{1} = @Zk.match_1.{1} Int:=by funext motive m f g;cases m <;> rfl
  unfold q3x Zk;rw [b];simp only [qwj,qwk,qwm]
  all_goals repeat' first | with_reducible rfl | (congr 1) | funext _
  done
theorem qwh  : ∀ p2 a,q3x p2 a = Zk p2 qO a:=fun p2 a=>(congrFun (congrFun qwg p2) a)
theorem qwe : (fun a b p2=>q3w a b p2) = (fun a b p2=>Jp qO a b p2):=by
  funext a b p2;have c : @q3w.match_1.{1} = @Jp.match_1.{1} Int:=by funext motive m f g;cases m <;> rfl
  unfold q3w Jp;rw [c];simp only [qwh]
  all_goals repeat' first | with_reducible rfl | (congr 1) | funext _
  done
theorem qwf  : ∀ a b p2,q3w a b p2 = Jp qO a b p2:=fun a b p2=>(congrFun (congrFun (congrFun qwe a) b) p2)
theorem qws : (fun a b=>q63 a b) = (fun a b=>U6 a b qO):=by
  funext a b a360;simp only [q63,U6,Zw,Zy,qh,Zl]
  all_goals exact Qw
theorem qwt  : ∀ a b,q63 a b = U6 a b qO:=fun a b=>(congrFun (congrFun qws a) b)
theorem qwu : (fun b a c=>q64 b a c) = (fun b a c=>U7 b a c qO):=by
  funext b a c a439;simp only [q64,U7,Zw,Zy,qh,Zl]
  all_goals exact Qw
theorem qwv  : ∀ b a c,q64 b a c = U7 b a c qO:=fun b a c=>(congrFun (congrFun (congrFun qwu b) a) c)
theorem qwq : (fun a=>q62 a) = (fun a=>q13 a qO):=by
  funext a a304;simp only [q62,q13,qwt,qwv]
  all_goals exact Qw
theorem qwr  : ∀ a,q62 a = q13 a qO:=fun a=>(congrFun qwq a)
theorem qwo : (fun a b p2 p3=>q61 a b p2 p3) = (fun a b p2 p3=>q12 qO a b p2 p3):=by
  funext a b p2 p3;simp only [q61,q12,qwr]
  all_goals exact Qw
theorem qwp  : ∀ a b p2 p3,q61 a b p2 p3 = q12 qO a b p2 p3:=fun a b p2 p3=>(congrFun (congrFun (congrFun (congrFun qwo a) b) p2) p3)
theorem qwx : (fun p2 c d b p3 a=>q66 p2 c d b p3 a) = (fun p2 c d b p3 a=>q1z p2 c d b p3 a qO):=by
  funext p2 c d b p3 a a159;simp only [q66,q1z,Zw,Zy,qh,Zl]
  all_goals exact Qw
theorem qwy  : ∀ p2 c d b p3 a,q66 p2 c d b p3 a = q1z p2 c d b p3 a qO:=fun p2 c d b p3 a=>(congrFun (congrFun (congrFun (congrFun (congrFun (congrFun qwx p2) c) d) b) p3) a)
theorem qwz : (fun b d f c p3 a=>q67 b d f c p3 a) = (fun b d f c p3 a=>q20 b d f c p3 a qO):=by
  funext b d f c p3 a a239;simp only [q67,q20,Zw,Zy,qh,Zl]
  all_goals exact Qw
theorem qx0  : ∀ b d f c p3 a,q67 b d f c p3 a = q20 b d f c p3 a qO:=fun b d f c p3 a=>(congrFun (congrFun (congrFun (congrFun (congrFun (congrFun qwz b) d) f) c) p3) a)
theorem qx3 : (fun a b=>q69 a b) = (fun a b=>Zt a b qO):=by
  funext a b a542;simp only [q69,Zt,Zw,Zy,qh,Zl]
  all_goals exact Qw
theorem qx4  : ∀ a b,q69 a b = Zt a b qO:=fun a b=>(congrFun (congrFun qx3 a) b)
theorem qx5 : (fun b a c=>q6a b a c) = (fun b a c=>Zu b a c qO):=by
  funext b a c a622;simp only [q6a,Zu,Zw,Zy,qh,Zl]
  all_goals exact Qw
theorem qx6  : ∀ b a c,q6a b a c = Zu b a c qO:=fun b a c=>(congrFun (congrFun (congrFun qx5 b) a) c)
theorem qx1 : (fun a=>q68 a) = (fun a=>q14 a qO):=by
  funext a a488;simp only [q68,q14,qx4,qx6]
  all_goals exact Qw
theorem qx2  : ∀ a,q68 a = q14 a qO:=fun a=>(congrFun qx1 a)
theorem qwn : (fun a b p2 p3=>q65 a b p2 p3) = (fun a b p2 p3=>q11 qO a b p2 p3):=by
  funext a b p2 p3;simp only [q65,q11,qwy,qx0,qx2]
  all_goals exact Qw
theorem qww  : ∀ a b p2 p3,q65 a b p2 p3 = q11 qO a b p2 p3:=fun a b p2 p3=>(congrFun (congrFun (congrFun (congrFun qwn a) b) p2) p3)
theorem qx8 : (fun a=>q3y a) = (fun a=>Z8 qO a):=by
  funext a a305;have b : @q3y.match_1.{1} = @Z8.match_1.{1} Int:=by funext motive m f g;cases m <;> rfl
  unfold q3y Z8;rw [b];simp only [qw2,qvw,qvq,qvu,qxd,qwf,qwp,qww,Zw,Zy,qh,Zl]
  all_goals repeat' first | with_reducible rfl | (congr 1) | funext _
  done
theorem qx9  : ∀ a,q3y a = Z8 qO a:=fun a=>(congrFun qx8 a)
theorem qxa : (fun a b c p2 p3=>q3z a b c p2 p3) = (fun a b c p2 p3=>U8 a qO b c p2 p3):=by
  funext a b c p2 p3;simp only [q3z,U8,qx9]
  all_goals exact Qw
theorem qxb  : ∀ a b c p2 p3,q3z a b c p2 p3 = U8 a qO b c p2 p3:=fun a b c p2 p3=>(congrFun (congrFun (congrFun (congrFun (congrFun qxa a) b) c) p2) p3)
theorem qx7 : ∀ N,q6e N = Yy N qO:=by
  intro N
  induction N with
  | zero=>rfl
  | succ N ih=>
    funext a b c d;show q3z (q6e N) a b c d = U8 (Yy N qO) qO a b c d;rw [ih,qxb]
theorem qvn : (fun a=>Uj a) = (fun a=>q1u qO a):=by
  funext a;simp only [Uj,q1u,qkp,qx7]
  all_goals exact Qw
theorem qvo  : ∀ a,Uj a = q1u qO a:=fun a=>(congrFun qvn a)
end Go.Sh
