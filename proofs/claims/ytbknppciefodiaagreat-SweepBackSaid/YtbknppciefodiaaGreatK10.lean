/- Pg4 Pg5 Pg6 Pj1 Pj2 Pl4 Pj3 Po1 -/
import Derived.Test.YtbknppciefodiaaGreatK9
namespace Go.Sh
open Go Go.Am
section
variable {T : Type} [Inhabited T] {P : T→Prop} {lt : T→T→Bool} {q : T→T→Option Int}
theorem qgp {f : Int→Option (Int ⊕ Int)} (p : T→Bool) (d : Array T) (j : Nat)
    (b : ∀ k : Nat,k≤1000002→f (k : Int) = if (decide (k≤j) && p d[k]!) = true then some (.inl ((k + 1 : Nat) : Int)) else some (.inr (k : Int))) (g : j≤1000000) :
    ∀ (m i : Nat),j + 1 - i = m→i≤1000002→loop f (i : Int) = some ((Sort.scanUp p d j i : Nat) : Int):=by
  intro m
  induction m with
  | zero=>
    intro i c hi
    unfold Sort.scanUp
    have a : ¬ (decide (i≤j) && p d[i]!) = true:=by simp;omega
    rw [qp a]
    exact Kg (by rw [b i hi,qp a])
  | succ m ih=>
    intro i c hi
    unfold Sort.scanUp
    by_cases a : (decide (i≤j) && p d[i]!) = true
    · rw [qq a,Y3 (by rw [b i hi,qq a])]
      exact ih (i + 1) q0 q0
    · rw [qp a]
      exact Kg (by rw [b i hi,qp a])
theorem qd0 {f : Int→Option (Int ⊕ Int)} (p : T→Bool) (d : Array T) (i n : Nat) (hi : 1≤i)
    (b : ∀ k : Nat,k < n→f (k : Int) = if (decide (i≤k) && p d[k]!) = true then some (.inl ((k - 1 : Nat) : Int)) else some (.inr (k : Int))) :
    ∀ (j : Nat),j < n→loop f (j : Int) = some ((Sort.scanDown p d i j : Nat) : Int)
  | 0,hj=>by
    have a : ¬ (decide (i≤0) && p d[0]!) = true:=by simp;omega
    exact Kg (by rw [b 0 hj,qp a];rfl)
  | j + 1,hj=>by
    unfold Sort.scanDown
    by_cases a : (decide (i≤j + 1) && p d[j + 1]!) = true
    · rw [qq a,Y3 (by rw [b (j + 1) hj,qq a])]
      exact qd0 p d i n hi b j q0
    · rw [qp a]
      exact Kg (by rw [b (j + 1) hj,qp a])
theorem qly (l : Kx q lt P) {n : Nat} {d : Array T} (hd : AllP n P d) {a j : Nat} (b : a < n) (m : j < n) (x : Int) (k : Nat) (o : k≤1000002) :
    Jd (x,(j : Int),d.toList) (a : Int) q (k : Int) = if (decide (k≤j) && (fun x=>lt x d[a]!) d[k]!) = true then some (.inl ((k + 1 : Nat) : Int)) else some (.inr (k : Int)):=by
  have c:=hd.1
  by_cases h : k≤j
  · obtain ⟨r,f,g⟩:=l d[k]! d[a]! (hd.2.2 _ q0) (hd.2.2 _ b)
    have t : decide ((k : Int)≤(j : Int)) = true:=Q7 q0
    simp only [Jd,t,Q1,gx (d:=d) (k:=k) q0,gx (d:=d) (k:=a) q0,qj,f,g,w1p k q0]
    simp only [Q7 h,Bool.true_and,Bool.cond_eq_ite]
  · have t : decide ((k : Int)≤(j : Int)) = false:=Q6 q0
    simp only [Jd,t,qy,qj]
    simp [h]
theorem qlz (c : Kx q lt P) {n : Nat} {d : Array T} (hd : AllP n P d) {a i : Nat} (f : a < n) (hi : 1≤i) (x y : Int) (k : Nat) (m : k < n) :
    Je (i : Int) (x,y,d.toList) (a : Int) q (k : Int) = if (decide (i≤k) && (fun x=>!lt x d[a]!) d[k]!) = true then some (.inl ((k - 1 : Nat) : Int)) else some (.inr (k : Int)):=by
  have b:=hd.1
  have l:=hd.2.1
  by_cases h : i≤k
  · obtain ⟨r,g,j⟩:=c d[k]! d[a]! (hd.2.2 _ q0) (hd.2.2 _ f)
    have t : decide ((i : Int)≤(k : Int)) = true:=Q7 q0
    have w : w64 ((k : Int) - 1) = ((k - 1 : Nat) : Int):=by rw [Qm q0];omega
    simp only [Je,t,Q1,gx (d:=d) (k:=k) q0,gx (d:=d) (k:=a) q0,qj,g,j,w]
    simp only [Q7 h,Bool.true_and,Bool.cond_eq_ite]
  · have t : decide ((i : Int)≤(k : Int)) = false:=Q6 q0
    simp only [Je,t,qy,qj]
    simp [h]
theorem qvk (l : Kx q lt P) {n : Nat} {d : Array T} (hd : AllP n P d) {a j : Nat} (b : a < n) (m : j < n) (x : Int) (k : Nat) (o : k≤1000002) :
    Uz (x,(j : Int),d.toList) (a : Int) q (k : Int) = if (decide (k≤j) && (fun x=>!lt d[a]! x) d[k]!) = true then some (.inl ((k + 1 : Nat) : Int)) else some (.inr (k : Int)):=by
  have c:=hd.1
  by_cases h : k≤j
  · obtain ⟨r,f,g⟩:=l d[a]! d[k]! (hd.2.2 _ b) (hd.2.2 _ q0)
    have t : decide ((k : Int)≤(j : Int)) = true:=Q7 q0
    simp only [Uz,t,Q1,gx (d:=d) (k:=k) q0,gx (d:=d) (k:=a) q0,qj,f,g,w1p k q0]
    simp only [Q7 h,Bool.true_and,Bool.cond_eq_ite]
  · have t : decide ((k : Int)≤(j : Int)) = false:=Q6 q0
    simp only [Uz,t,qy,qj]
    simp [h]
theorem qvl (c : Kx q lt P) {n : Nat} {d : Array T} (hd : AllP n P d) {a i : Nat} (f : a < n) (hi : 1≤i) (x y : Int) (k : Nat) (m : k < n) :
    q10 (i : Int) (x,y,d.toList) (a : Int) q (k : Int) = if (decide (i≤k) && (fun x=>lt d[a]! x) d[k]!) = true then some (.inl ((k - 1 : Nat) : Int)) else some (.inr (k : Int)):=by
  have b:=hd.1
  have l:=hd.2.1
  by_cases h : i≤k
  · obtain ⟨r,g,j⟩:=c d[a]! d[k]! (hd.2.2 _ f) (hd.2.2 _ q0)
    have t : decide ((i : Int)≤(k : Int)) = true:=Q7 q0
    have w : w64 ((k : Int) - 1) = ((k - 1 : Nat) : Int):=by rw [Qm q0];omega
    simp only [q10,t,Q1,gx (d:=d) (k:=k) q0,gx (d:=d) (k:=a) q0,qj,g,j,w]
    simp only [Q7 h,Bool.true_and,Bool.cond_eq_ite]
  · have t : decide ((i : Int)≤(k : Int)) = false:=Q6 q0
    simp only [q10,t,qy,qj]
    simp [h]
theorem qve (u : Kx q lt P) (a n : Nat) (r : a < n) : ∀ (m i j : Nat) (d : Array T),j + 1 - i = m→AllP n P d→1≤i→i≤n + 1→j < n→
    loop (q1p (a : Int) q) ((i : Int),(j : Int),d.toList) = some (((Sort.partLoop lt a i j d).1 : Int),(Sort.partLoop lt a i j d).2.toList)∧AllP n P (Sort.partLoop lt a i j d).2∧(Sort.partLoop lt a i j d).1 < n:=by
  intro m
  induction m using Nat.strongRecOn with
  | _ m ih=>
    intro i j d hm hd hi aa s
    have z:=hd.1
    have hn:=hd.2.1
    rw [Sort.partLoop_eq]
    have l:=qgp (f:=Jd ((i : Int),(j : Int),d.toList) (a : Int) q) (fun x=>lt x d[a]!) d j (fun k p=>qly u hd r s _ k p) q0 _ i rfl q0
    have g1:=Sort.scanUp_ge (fun x=>lt x d[a]!) d j i
    have u1:=(Sort.scanUp_spec (fun x=>lt x d[a]!) d j _ i rfl).2.1
    generalize Sort.scanUp (fun x=>lt x d[a]!) d j i = c at l g1 u1 ⊢
    have o:=qd0 (f:=Je (c : Int) ((i : Int),(j : Int),d.toList) (a : Int) q) (fun x=>!lt x d[a]!) d c n q0 (fun k p=>qlz u hd r q0 _ _ k p) j s
    have y:=Sort.scanDown_le (fun x=>!lt x d[a]!) d c j
    generalize Sort.scanDown (fun x=>!lt x d[a]!) d c j = g at o y ⊢
    by_cases v : c > g
    · rw [qq v]
      have t : decide ((c : Int) > (g : Int)) = true:=Q7 q0
      refine ⟨Kg ?_,hd,by show g < n;omega⟩
      simp only [q1p,l,o,qj,t,Q1]
    · rw [qp v]
      have t : decide ((c : Int) > (g : Int)) = false:=Q6 q0
      have h:=ih ((g - 1) + 1 - (c + 1)) q0 (c + 1) (g - 1) _ rfl (hd.swp (a:=c) (b:=g) q0 q0) q0 q0 q0
      refine ⟨?_,h.2⟩
      rw [Y3 (a':=(((c + 1 : Nat) : Int),((g - 1 : Nat) : Int),(Sort.swp d c g).toList)) ?_]
      · exact h.1
      · have w : w64 ((g : Int) - 1) = ((g - 1 : Nat) : Int):=by rw [Qm q0];omega
        simp only [q1p,l,o,qj,t,qy,gx (d:=d) (k:=c) q0,gx (d:=d) (k:=g) q0,gxs (d:=d) (k:=g) q0,Int.toNat_natCast,gswp,w,w1p c q0]
theorem qvd (s : Kx q lt P) (a n : Nat) (p : a < n) : ∀ (m i j : Nat) (d : Array T),j + 1 - i = m→AllP n P d→1≤i→i≤n + 1→j < n→
    loop (q1o (a : Int) q) ((i : Int),(j : Int),d.toList) = some (((Sort.partEqLoop lt a i j d).1 : Int),(Sort.partEqLoop lt a i j d).2.toList):=by
  intro m
  induction m using Nat.strongRecOn with
  | _ m ih=>
    intro i j d hm hd hi z r
    have y:=hd.1
    have hn:=hd.2.1
    rw [Sort.partEqLoop_eq]
    have h:=qgp (f:=Uz ((i : Int),(j : Int),d.toList) (a : Int) q) (fun x=>!lt d[a]! x) d j (fun k o=>qvk s hd p r _ k o) q0 _ i rfl q0
    have g1:=Sort.scanUp_ge (fun x=>!lt d[a]! x) d j i
    have u1:=(Sort.scanUp_spec (fun x=>!lt d[a]! x) d j _ i rfl).2.1
    generalize Sort.scanUp (fun x=>!lt d[a]! x) d j i = c at h g1 u1 ⊢
    have l:=qd0 (f:=q10 (c : Int) ((i : Int),(j : Int),d.toList) (a : Int) q) (fun x=>lt d[a]! x) d c n q0 (fun k o=>qvl s hd p q0 _ _ k o) j r
    have v:=Sort.scanDown_le (fun x=>lt d[a]! x) d c j
    generalize Sort.scanDown (fun x=>lt d[a]! x) d c j = g at l v ⊢
    by_cases u : c > g
    · rw [qq u]
      have t : decide ((c : Int) > (g : Int)) = true:=Q7 q0
      refine Kg ?_
      simp only [q1o,h,l,qj,t,Q1]
    · rw [qp u]
      have t : decide ((c : Int) > (g : Int)) = false:=Q6 q0
      rw [Y3 (a':=(((c + 1 : Nat) : Int),((g - 1 : Nat) : Int),(Sort.swp d c g).toList)) ?_]
      · exact ih ((g - 1) + 1 - (c + 1)) q0 (c + 1) (g - 1) _ rfl (hd.swp (a:=c) (b:=g) q0 q0) q0 q0 q0
      · have w : w64 ((g : Int) - 1) = ((g - 1 : Nat) : Int):=by rw [Qm q0];omega
        simp only [q1o,h,l,qj,t,qy,gx (d:=d) (k:=c) q0,gx (d:=d) (k:=g) q0,gxs (d:=d) (k:=g) q0,Int.toNat_natCast,gswp,w,w1p c q0]
theorem qvh (g : Kx q lt P) {a b n p : Nat} (hb : b≤n) (f : a < b) (hp : p < n) {d : Array T} (hd : AllP n P d) :
    q1n q d.toList (a : Int) (b : Int) (p : Int) = some (((Sort.partitionEqual lt d a b p).1 : Int),(Sort.partitionEqual lt d a b p).2.toList):=by
  have c:=hd.1
  have h:=hd.2.1
  have w : w64 ((b : Int) - 1) = ((b - 1 : Nat) : Int):=by rw [Qm q0];omega
  have s:=qvd g a n q0 _ (a + 1) (b - 1) _ rfl (hd.swp (a:=a) (b:=p) q0 hp) q0 q0 q0
  unfold q1n Sort.partitionEqual
  simp only [gx (d:=d) (k:=p) q0,gx (d:=d) (k:=a) q0,gxs (d:=d) (k:=p) q0,qj,Int.toNat_natCast,gswp,w,w1p a q0,s]
theorem qvi (j : Kx q lt P) {a b n p : Nat} (hb : b≤n) (y : a < b) (hp : p < n) {d : Array T} (hd : AllP n P d) :
    q1m q d.toList (a : Int) (b : Int) (p : Int) = some (((Sort.partition lt d a b p).1 : Int),(Sort.partition lt d a b p).2.1,(Sort.partition lt d a b p).2.2.toList):=by
  have v:=hd.1
  have hn:=hd.2.1
  have w : w64 ((b : Int) - 1) = ((b - 1 : Nat) : Int):=by rw [Qm q0];omega
  have h:=hd.swp (a:=a) (b:=p) q0 hp
  have e1 : q2n (b : Int) d.toList (a : Int) d[p]! (p : Int) d[a]! q = Jd ((0 : Int),((b - 1 : Nat) : Int),(Sort.swp d a p).toList) (a : Int) q:=by
    funext k
    simp only [q2n,Jd,w,Int.toNat_natCast,gswp]
  have e2 : ∀ c : Int,q2o c d.toList (a : Int) d[p]! (p : Int) d[a]! q = Je c ((0 : Int),(0 : Int),(Sort.swp d a p).toList) (a : Int) q:=by
    intro c;funext k
    simp only [q2o,Je,Int.toNat_natCast,gswp]
  unfold q1m Sort.partition
  simp only [gx (d:=d) (k:=p) q0,gx (d:=d) (k:=a) q0,gxs (d:=d) (k:=p) q0,qj,e1,e2,Int.toNat_natCast,gswp,w,w1p a q0]
  generalize Sort.swp d a p = D at h ⊢
  have ad:=h.1
  have m:=qgp (f:=Jd ((0 : Int),((b - 1 : Nat) : Int),D.toList) (a : Int) q) (fun x=>lt x D[a]!) D (b - 1) (fun k l=>qly j h q0 q0 _ k l) q0 _ (a + 1) rfl q0
  have g1:=Sort.scanUp_ge (fun x=>lt x D[a]!) D (b - 1) (a + 1)
  generalize Sort.scanUp (fun x=>lt x D[a]!) D (b - 1) (a + 1) = c at m g1 ⊢
  have o:=qd0 (f:=Je (c : Int) ((0 : Int),(0 : Int),D.toList) (a : Int) q) (fun x=>!lt x D[a]!) D c n q0 (fun k l=>qlz j h q0 q0 _ _ k l) (b - 1) q0
  have u:=Sort.scanDown_le (fun x=>!lt x D[a]!) D c (b - 1)
  generalize Sort.scanDown (fun x=>!lt x D[a]!) D c (b - 1) = g at o u ⊢
  simp only [m,o,qj]
  by_cases r : c > g
  · have t : decide ((c : Int) > (g : Int)) = true:=Q7 q0
    simp only [qq r,t,Q1,gx (d:=D) (k:=a) q0,gx (d:=D) (k:=g) q0,gxs (d:=D) (k:=a) q0,qj,Int.toNat_natCast,gswp]
  · have t : decide ((c : Int) > (g : Int)) = false:=Q6 q0
    have z : w64 ((g : Int) - 1) = ((g - 1 : Nat) : Int):=by rw [Qm q0];omega
    obtain ⟨s3,s,b3⟩:=qve j a n q0 _ (c + 1) (g - 1) _ rfl (h.swp (a:=c) (b:=g) q0 q0) q0 q0 q0
    simp only [qp r,t,qy,gx (d:=D) (k:=c) q0,gx (d:=D) (k:=g) q0,gxs (d:=D) (k:=g) q0,qj,Int.toNat_natCast,gswp,z,w1p c q0,s3]
    generalize Sort.partLoop lt a (c + 1) (g - 1) (Sort.swp D c g) = R at s b3 ⊢
    have ab:=s.1
    simp only [gx (d:=R.2) (k:=a) q0,gx (d:=R.2) (k:=R.1) q0,gxs (d:=R.2) (k:=a) q0,qj,Int.toNat_natCast,gswp]
theorem qxc (o : Kx q lt P) {b n : Nat} (hb : b≤n) {d : Array T} (hd : AllP n P d) (x y : Int) : ∀ (m i : Nat),b - i = m→1≤i→i≤b→
    loop (Uw (b : Int) (x,y,d.toList) q) (i : Int) = some ((Sort.scanSorted lt d b i : Nat) : Int)∧i≤Sort.scanSorted lt d b i∧Sort.scanSorted lt d b i≤b:=by
  have j:=hd.1
  have p:=hd.2.1
  intro m
  induction m with
  | zero=>
    intro i l hi a
    unfold Sort.scanSorted
    rw [qp (by simp;omega)]
    have t : decide ((i : Int) < (b : Int)) = false:=Q6 q0
    exact ⟨Kg (by simp only [Uw,t,qy,qj]),Nat.le_refl _,a⟩
  | succ m ih=>
    intro i l hi a
    unfold Sort.scanSorted
    have t : decide ((i : Int) < (b : Int)) = true:=Q7 q0
    have w : w64 ((i : Int) - 1) = ((i - 1 : Nat) : Int):=by rw [Qm q0];omega
    obtain ⟨r,g,h⟩:=o d[i]! d[i - 1]! (hd.2.2 _ q0) (hd.2.2 _ q0)
    by_cases c : lt d[i]! d[i - 1]! = true
    · rw [qp (by simp [c])]
      refine ⟨Kg ?_,Nat.le_refl _,a⟩
      simp only [Uw,t,Q1,w,gx (d:=d) (k:=i) q0,gx (d:=d) (k:=i - 1) q0,qj,g,h,c,Bool.not_true,qy]
    · have c : lt d[i]! d[i - 1]! = false:=by simpa using c
      rw [qq (by simp [c];omega)]
      have f:=ih (i + 1) q0 q0 q0
      refine ⟨?_,q0,f.2.2⟩
      rw [Y3 (a':=((i + 1 : Nat) : Int)) ?_]
      · exact f.1
      · simp only [Uw,t,Q1,w,gx (d:=d) (k:=i) q0,gx (d:=d) (k:=i - 1) q0,qj,g,h,c,Bool.not_false,w1p i q0]
theorem qn7 (f : Kx q lt P) (n : Nat) : ∀ (j : Nat) (d : Array T),AllP n P d→j < n→loop (Ux q) ((j : Int),d.toList) = some (Sort.shiftDown lt j d).toList∧AllP n P (Sort.shiftDown lt j d)
  | 0,d,hd,hj=>by
    have t : decide (((0 : Nat) : Int) ≥ 1) = false:=Q6 q0
    exact ⟨Kg (by simp only [Ux,t,qy];rfl),hd⟩
  | j + 1,d,hd,hj=>by
    have m:=hd.1
    have o:=hd.2.1
    have t : decide (((j + 1 : Nat) : Int) ≥ 1) = true:=Q7 q0
    obtain ⟨r,g,l⟩:=f d[j + 1]! d[j]! (hd.2.2 _ hj) (hd.2.2 _ q0)
    unfold Sort.shiftDown
    by_cases c : lt d[j + 1]! d[j]! = true
    · rw [qp (by simp [c])]
      have h:=qn7 f n j _ (hd.swp (a:=j + 1) (b:=j) hj q0) q0
      refine ⟨?_,h.2⟩
      rw [Y3 (a':=((j : Int),(Sort.swp d (j + 1) j).toList)) ?_]
      · exact h.1
      · simp only [Ux,t,Q1,gx (d:=d) (k:=j + 1) q0,w1m j q0,gx (d:=d) (k:=j) q0,gxs (d:=d) (k:=j) q0,qj,g,l,c,Bool.not_true,qy,Int.toNat_natCast,gswp]
    · have c : lt d[j + 1]! d[j]! = false:=by simpa using c
      rw [qq (by simp [c])]
      refine ⟨Kg ?_,hd⟩
      simp only [Ux,t,Q1,gx (d:=d) (k:=j + 1) q0,w1m j q0,gx (d:=d) (k:=j) q0,qj,g,l,c,Bool.not_false]
theorem qn9 (s : Kx q lt P) {b n : Nat} (hb : b≤n) (c : Int) : ∀ (m j : Nat) (d : Array T),b - j = m→AllP n P d→1≤j→loop (Uy (b : Int) q c) ((j : Int),d.toList) = some (c,(Sort.shiftUp lt b j d).toList)∧AllP n P (Sort.shiftUp lt b j d):=by
  intro m
  induction m with
  | zero=>
    intro j d p hd u
    unfold Sort.shiftUp
    rw [qp q0]
    have t : decide ((j : Int) < (b : Int)) = false:=Q6 q0
    exact ⟨Kg (by simp only [Uy,t,qy]),hd⟩
  | succ m ih=>
    intro j d p hd u
    have o:=hd.1
    have v:=hd.2.1
    unfold Sort.shiftUp
    rw [qq q0]
    have t : decide ((j : Int) < (b : Int)) = true:=Q7 q0
    have w : w64 ((j : Int) - 1) = ((j - 1 : Nat) : Int):=by rw [Qm q0];omega
    obtain ⟨r,h,l⟩:=s d[j]! d[j - 1]! (hd.2.2 _ q0) (hd.2.2 _ q0)
    by_cases f : lt d[j]! d[j - 1]! = true
    · rw [qp (by simp [f])]
      have g:=ih (j + 1) _ q0 (hd.swp (a:=j) (b:=j - 1) q0 q0) q0
      refine ⟨?_,g.2⟩
      rw [Y3 (a':=(((j + 1 : Nat) : Int),(Sort.swp d j (j - 1)).toList)) ?_]
      · exact g.1
      · simp only [Uy,t,Q1,w,gx (d:=d) (k:=j) q0,gx (d:=d) (k:=j - 1) q0,gxs (d:=d) (k:=j - 1) q0,qj,h,l,f,Bool.not_true,qy,Int.toNat_natCast,gswp,w1p j q0]
    · have f : lt d[j]! d[j - 1]! = false:=by simpa using f
      rw [qq (by simp [f])]
      refine ⟨Kg ?_,hd⟩
      simp only [Uy,t,Q1,w,gx (d:=d) (k:=j) q0,gx (d:=d) (k:=j - 1) q0,qj,h,l,f,Bool.not_false]
theorem qm1 (l : Kx q lt P) {a b n : Nat} (hb : b≤n) : ∀ (s i : Nat) (d : Array T),s≤5→AllP n P d→a < i→i≤b→
    ∃ m,loop (J3 (b : Int) q (a : Int)) ((i : Int),((5 - s : Nat) : Int),d.toList) = some m∧(match m with | .inl b441=>some (false,b441) | .inr x1=>some x1) = some ((Sort.partialIns lt a b s i d).2,(Sort.partialIns lt a b s i d).1.toList)
  | 0,i,d,hs,hd,hi,hib=>by
    have t : decide (((5 - 0 : Nat) : Int) < 5) = false:=Q6 q0
    refine ⟨.inl d.toList,Kg (by simp only [J3,t,qy]),rfl⟩
  | s + 1,i,d,hs,hd,hi,hib=>by
    have ad:=hd.1
    have hn:=hd.2.1
    have t : decide (((5 - (s + 1) : Nat) : Int) < 5) = true:=Q7 q0
    rw [Sort.partialIns_succ]
    obtain ⟨p,l1,u1⟩:=qxc l hb hd (i : Int) ((5 - (s + 1) : Nat) : Int) _ i rfl q0 hib
    generalize Sort.scanSorted lt d b i = k at p l1 u1 ⊢
    by_cases hk : k = b
    · subst hk
      rw [qq rfl]
      refine ⟨.inr (true,d.toList),Kg ?_,rfl⟩
      simp only [J3,t,Q1,p,qj,beq_self_eq_true]
    · rw [qp hk]
      have z : ((k : Int) == (b : Int)) = false:=by simp;omega
      have e0 : w64 ((b : Int) - (a : Int)) = ((b - a : Nat) : Int):=wsub q0 q0
      by_cases h : b - a < 50
      · rw [qq h]
        have c : decide (((b - a : Nat) : Int) < 50) = true:=Q7 q0
        refine ⟨.inr (false,d.toList),Kg ?_,rfl⟩
        simp only [J3,t,Q1,p,qj,z,qy,e0,c]
      · rw [qp h]
        have c : decide (((b - a : Nat) : Int) < 50) = false:=Q6 q0
        have wk : w64 ((k : Int) - 1) = ((k - 1 : Nat) : Int):=by rw [Qm q0];omega
        have wa : w64 ((k : Int) - (a : Int)) = ((k - a : Nat) : Int):=wsub q0 q0
        have wb : w64 ((b : Int) - (k : Int)) = ((b - k : Nat) : Int):=wsub q0 q0
        have j:=hd.swp (a:=k) (b:=k - 1) q0 q0
        have down : (cond (decide (((k - a : Nat) : Int) ≥ 2)) ((loop (Ux q) (((k - 1 : Nat) : Int),(Sort.swp d k (k - 1)).toList)).bind fun x0=>some x0) (some (Sort.swp d k (k - 1)).toList)) = some (Sort.fixDown lt a k (Sort.swp d k (k - 1))).toList∧AllP n P (Sort.fixDown lt a k (Sort.swp d k (k - 1))):=by
          unfold Sort.fixDown
          by_cases o : k - a ≥ 2
          · have f : decide (((k - a : Nat) : Int) ≥ 2) = true:=Q7 q0
            obtain ⟨x,y⟩:=qn7 l n (k - 1) _ j q0
            rw [qq o,f,Q1,x];exact ⟨rfl,y⟩
          · have f : decide (((k - a : Nat) : Int) ≥ 2) = false:=Q6 q0
            rw [qp o,f,qy];exact ⟨rfl,j⟩
        obtain ⟨dn,g⟩:=down
        have u : AllP n P (Sort.fixUp lt b k (Sort.fixDown lt a k (Sort.swp d k (k - 1)))):=by
          unfold Sort.fixUp
          split
          · exact (qn9 l hb 0 _ (k + 1) _ rfl g q0).2
          · exact g
        obtain ⟨m,v,r⟩:=qm1 (a:=a) l hb s k _ q0 u q0 u1
        refine ⟨m,?_,r⟩
        rw [Y3 (a':=((k : Int),((5 - s : Nat) : Int),(Sort.fixUp lt b k (Sort.fixDown lt a k (Sort.swp d k (k - 1)))).toList)) ?_]
        · exact v
        · have w : w64 (((5 - (s + 1) : Nat) : Int) + 1) = ((5 - s : Nat) : Int):=by rw [Qm q0];omega
          simp only [J3,t,Q1,p,qj,z,qy,e0,c,wk,gx (d:=d) (k:=k) q0,gx (d:=d) (k:=k - 1) q0,gxs (d:=d) (k:=k - 1) q0,Int.toNat_natCast,gswp,wa,dn,wb,w1p k q0]
          unfold Sort.fixUp
          by_cases o : b - k ≥ 2
          · have f : decide (((b - k : Nat) : Int) ≥ 2) = true:=Q7 q0
            obtain ⟨x,y⟩:=qn9 l hb (k : Int) _ (k + 1) _ rfl g q0
            rw [qq o,f,Q1,x]
            simp only [qj,w]
          · have f : decide (((b - k : Nat) : Int) ≥ 2) = false:=Q6 q0
            rw [qp o,f,qy]
            simp only [qj,w]
theorem qvg (h : Kx q lt P) {a b n : Nat} (hb : b≤n) (g : a < b) {d : Array T} (hd : AllP n P d) :
    Ue q d.toList (a : Int) (b : Int) = some ((Sort.partialInsertionSort lt d a b).2,(Sort.partialInsertionSort lt d a b).1.toList):=by
  have j:=hd.2.1
  obtain ⟨m,c,f⟩:=qm1 (a:=a) h hb 5 (a + 1) d q0 hd q0 q0
  have c : loop (J3 (b : Int) q (a : Int)) (((a + 1 : Nat) : Int),0,d.toList) = some m:=c
  unfold Ue Sort.partialInsertionSort
  rw [w1p a q0,c]
  exact f
end
end Go.Sh
namespace Go.Sh
open Go Go.Am
theorem ql3 {α β : Type} {f : α→Option (α ⊕ β)} {a : α} (h : f a = none) : loop f a = none:=by
  apply Option.ext
  intro b
  rw [q91]
  constructor
  · rintro ⟨n,c⟩
    cases n with
    | zero=>simp [iter] at c
    | succ n=>simp [iter,h] at c
  · intro h;cases h
section
variable {T : Type} [Inhabited T] {P : T→Prop} {lt : T→T→Bool} {q : T→T→Option Int}
def Srt (lt : T→T→Bool) (a b : Nat) (d : Array T) (o : Option (List T)) : Prop:=∃ d' : Array T,o = some d'.toList∧Sort.PermIn a b d d'∧Sort.SortedIn lt a b d'
theorem qvj (hq : Kx q lt P) (hS : Sort.SWO lt) {n N : Nat} (af : List T→Int→Int→Int→Option (List T))
    (au : ∀ (a b f : Nat) (d : Array T),AllP n P d→a≤b→b≤n→f≤1000→Sort.Below lt a b d→Srt lt a b d (af d.toList (a : Int) (b : Int) (f : Int))∨(N≤b - a∧af d.toList (a : Int) (b : Int) (f : Int) = none)) :
    ∀ (m a b f : Nat) (wb wp : Bool) (d : Array T),b - a = m→AllP n P d→a≤b→b≤n→f≤1000→Sort.Below lt a b d→
      Srt lt a b d (loop (Zs q af) ((a : Int),(b : Int),(f : Int),wb,wp,d.toList))∨(N + 1≤b - a∧loop (Zs q af) ((a : Int),(b : Int),(f : Int),wb,wp,d.toList) = none):=by
  intro m
  induction m using Nat.strongRecOn with
  | _ m ih=>
    intro a b f wb wp d hm hd o hb hl hB
    have df:=hd.1
    have hn:=hd.2.1
    have e0 : w64 ((b : Int) - (a : Int)) = ((b - a : Nat) : Int):=wsub o q0
    by_cases dg : b - a≤12
    ·
      have t : decide (((b - a : Nat) : Int)≤12) = true:=Q7 q0
      obtain ⟨x,y⟩:=Sort.insertionSort_holds (lt:=lt) hS d a b o q0
      have s:=qsk hq hb o hd
      refine .inl ⟨_,Kg ?_,x,y⟩
      simp only [Zs,e0,t,Q1,s,qj,Uj hd (hd.perm o hb x)]
    have bq : decide (((b - a : Nat) : Int)≤12) = false:=Q6 q0
    by_cases h0 : f = 0
    ·
      have t : ((f : Int) == 0) = true:=by simp [h0]
      obtain ⟨x,y⟩:=Sort.heapSort_holds (lt:=lt) hS d a b o q0
      have s:=qsf hq hb (by omega : a < b) hd
      refine .inl ⟨_,Kg ?_,x,y⟩
      simp only [Zs,e0,bq,qy,t,Q1,s,qj,Uj hd (hd.perm o hb x)]
    have t0 : ((f : Int) == 0) = false:=by simp [h0]
    have hA : ∃ (l1 : Nat) (d1 : Array T),(cond (!wb) ((q1i q d.toList (a : Int) (b : Int)).bind fun bc=>(K3 bc.length d.toList.length).bind fun dd=>some (w64 ((f : Int) - 1),bc)) (some ((f : Int),d.toList))) = some ((l1 : Int),d1.toList)∧l1≤1000∧AllP n P d1∧Sort.PermIn a b d d1:=by
      cases wb with
      | true=>exact ⟨f,d,rfl,hl,hd,Sort.permIn_refl _ _ _⟩
      | false=>
        have x:=Sort.breakPatterns_holds d a b o q0
        have aa:=hd.perm o hb x
        have w : w64 ((f : Int) - 1) = ((f - 1 : Nat) : Int):=by rw [Qm q0];omega
        refine ⟨f - 1,_,?_,q0,aa,x⟩
        simp only [Bool.not_false,Q1,qpn (q:=q) hb (by omega : a < b) hd,qj,Uj hd aa,w]
    obtain ⟨l1,d1,eA,ar,aa,p1⟩:=hA
    have hC:=qqm hq aa (by omega : a < b) hb
    obtain ⟨c1,c2⟩:=Sort.choosePivot_holds lt d1 a b q0
    generalize (Sort.choosePivot lt d1 a b).1 = c at hC c1 c2
    generalize qff (Sort.choosePivot lt d1 a b).2 = h at hC
    have hR : ∃ (p : Nat) (h2 : Int) (d2 : Array T),(cond (h == 2) ((q1q q d1.toList (a : Int) (b : Int)).bind fun ba=>(K3 ba.length d1.toList.length).bind fun ct=>some (w64 ((w64 ((b : Int) - 1)) - (w64 ((c : Int) - (a : Int)))),(1 : Int),ba)) (some ((c : Int),h,d1.toList))) = some ((p : Int),h2,d2.toList)∧a≤p∧p < b∧AllP n P d2∧Sort.PermIn a b d1 d2:=by
      cases hh : (h == 2) with
      | false=>exact ⟨c,h,d1,rfl,c1,c2,aa,Sort.permIn_refl _ _ _⟩
      | true=>
        have x:=Sort.reverseRange_holds d1 a b o (by rw [aa.1];exact hb)
        have ac:=aa.perm o hb x
        have w1 : w64 ((b : Int) - 1) = ((b - 1 : Nat) : Int):=by rw [Qm q0];omega
        have w2 : w64 ((c : Int) - (a : Int)) = ((c - a : Nat) : Int):=wsub c1 q0
        have w3 : w64 (((b - 1 : Nat) : Int) - ((c - a : Nat) : Int)) = ((b - 1 - (c - a) : Nat) : Int):=wsub q0 q0
        refine ⟨b - 1 - (c - a),1,_,?_,q0,q0,ac,x⟩
        simp only [Q1,qx5 (q:=q) hb (by omega : a < b) aa,qj,Uj aa ac,w1,w2,w3]
    obtain ⟨p,h2,d2,eR,hp1,hp2,ac,p2⟩:=hR
    have bt : Sort.Below lt a b d2:=(hB.perm q0 p1).perm (by rw [aa.1];exact hb) p2
    have bm:=Sort.permIn_trans _ _ _ a b p1 p2
    have hP : ∀ cc : Bool,∃ ab : (List T) ⊕ (List T),(cond cc ((Ue q d2.toList (a : Int) (b : Int)).bind fun ag=>(K3 ag.2.length d2.toList.length).bind fun cv=>cond ag.1 (some (.inr ag.2)) (some (.inl ag.2))) (some (.inl d2.toList)) : Option ((List T) ⊕ (List T))) = some ab∧
        ((∃ l : Array T,ab = .inr l.toList∧Sort.PermIn a b d2 l∧Sort.SortedIn lt a b l)∨(∃ l : Array T,ab = .inl l.toList∧AllP n P l∧Sort.PermIn a b d2 l)):=by
      intro cc
      cases cc with
      | false=>exact ⟨_,rfl,.inr ⟨d2,rfl,ac,Sort.permIn_refl _ _ _⟩⟩
      | true=>
        obtain ⟨x,y⟩:=Sort.partialInsertionSort_holds (lt:=lt) hS d2 a b q0 (by rw [ac.1];exact hb) bt
        have u:=ac.perm o hb x
        have s:=qvg hq hb (by omega : a < b) ac
        simp only [Q1,s,qj,Uj ac u]
        cases hz : (Sort.partialInsertionSort lt d2 a b).2 with
        | true=>exact ⟨_,rfl,.inl ⟨_,rfl,x,y hz⟩⟩
        | false=>exact ⟨_,rfl,.inr ⟨_,rfl,u,x⟩⟩
    obtain ⟨ab,eP,bo⟩:=hP (wb && wp && (h2 == 1))
    have cn : ∀ {γ : Type} (X : Bool→Option γ),((cond wb (some wp) (some false)).bind fun bs=>(cond bs (some (h2 == 1)) (some false)).bind X) = X (wb && wp && (h2 == 1)):=by
      intro γ X;cases wb <;> cases wp <;> rfl
    have head : Zs q af ((a : Int),(b : Int),(f : Int),wb,wp,d.toList) = (match (generalizing:=false) ab with | .inl b377=>(cond (decide ((a : Int) > 0)) ((idx b377 (w64 ((a : Int) - 1))).bind fun av=>(idx b377 (p : Int)).bind fun ao=>(q av ao).bind fun al=>some (!(decide (al < 0)))) (some false)).bind fun bl=>cond bl ((q1n q b377 (a : Int) (b : Int) (p : Int)).bind fun an=>(K3 an.2.length b377.length).bind fun cy=>some (.inl (an.1,(b : Int),(l1 : Int),wb,wp,an.2))) ((q1m q b377 (a : Int) (b : Int) (p : Int)).bind fun g=>(K3 g.2.2.length b377.length).bind fun cx=>cond (decide ((w64 (g.1 - (a : Int))) < (w64 ((b : Int) - g.1)))) ((af g.2.2 (a : Int) g.1 (l1 : Int)).bind fun bb=>(K3 bb.length g.2.2.length).bind fun cs=>some (.inl (w64 (g.1 + 1),(b : Int),(l1 : Int),decide ((w64 (g.1 - (a : Int))) ≥ (w64 (Int.tdiv ((b - a : Nat) : Int) 8))),g.2.1,bb))) ((af g.2.2 (w64 (g.1 + 1)) (b : Int) (l1 : Int)).bind fun az=>(K3 az.length g.2.2.length).bind fun cu=>some (.inl ((a : Int),g.1,(l1 : Int),decide ((w64 ((b : Int) - g.1)) ≥ (w64 (Int.tdiv ((b - a : Nat) : Int) 8))),g.2.1,az)))) | .inr x1=>some (.inr x1)):=by
      simp only [Zs,e0,bq,qy,t0,eA,qj,hC,eR,cn,eP]
      clear eP bo hP au ih
      cases ab <;> rfl
    rcases bo with ⟨l,rfl,x,y⟩ | ⟨l,rfl,u,p3⟩
    · refine .inl ⟨l,Kg ?_,Sort.permIn_trans _ _ _ a b bm x,y⟩
      rw [head]
    have ay:=u.1
    have P3:=Sort.permIn_trans _ _ _ a b bm p3
    have B3 : Sort.Below lt a b l:=bt.perm (by rw [ac.1];exact hb) p3
    have bf : (cond (decide ((a : Int) > 0)) ((idx l.toList (w64 ((a : Int) - 1))).bind fun av=>(idx l.toList (p : Int)).bind fun ao=>(q av ao).bind fun al=>some (!(decide (al < 0)))) (some false)) = some (decide (a > 0) && !lt l[a - 1]! l[p]!):=by
      by_cases ha : a > 0
      · have ta : decide ((a : Int) > 0) = true:=Q7 q0
        have w : w64 ((a : Int) - 1) = ((a - 1 : Nat) : Int):=by rw [Qm q0];omega
        obtain ⟨r,h1,h2⟩:=hq l[a - 1]! l[p]! (u.2.2 _ q0) (u.2.2 _ q0)
        simp only [ta,Q1,w,gx (d:=l) (k:=a - 1) q0,gx (d:=l) (k:=p) q0,qj,h1,h2,Q7 ha,Bool.true_and]
      · have ta : decide ((a : Int) > 0) = false:=Q6 q0
        simp only [ta,qy,Q6 ha,Bool.false_and]
    simp only [bf,qj] at head
    by_cases hc : (decide (a > 0) && !lt l[a - 1]! l[p]!) = true
    ·
      rw [hc] at head
      have s:=qvh hq hb (by omega : a < b) (by omega : p < n) u
      simp only [Bool.and_eq_true,decide_eq_true_eq,Bool.not_eq_true'] at hc
      cases hx : Sort.partitionEqual lt l a b p with
      | mk j d4=>
        obtain ⟨g1,g2,bz,cm,ad⟩:=Sort.round_eq hS (Sort.partitionEqual_holds lt) hc.1 hp1 hp2 (by rw [ay];exact hb) B3 hc.2 hx
        have ck : ∀ i,a≤i→i < b→lt l[i]! l[p]! = false:=fun i hi cb=>by
          rcases B3 with h0 | hB
          · omega
          · exact hS.ntrans _ _ _ (hB i hi cb) hc.2
        obtain ⟨_,_,v,_,_⟩:=Sort.partitionEqual_holds lt hS l a b p hp1 hp2 (by rw [ay];exact hb) ck
        rw [hx] at v s
        have z:=u.perm o hb v
        simp only [Q1,s,qj,Uj u z] at head
        rw [Y3 head]
        rcases ih (b - j) q0 j b l1 wb wp d4 rfl z g2 hb ar cm with ⟨R,r0,r1,r2⟩ | ⟨r1,r2⟩
        · obtain ⟨q1,q2⟩:=ad _ r1 r2
          exact .inl ⟨R,r0,Sort.permIn_trans _ _ _ a b P3 q1,q2⟩
        · exact .inr ⟨q0,r2⟩
    ·
      have hc : (decide (a > 0) && !lt l[a - 1]! l[p]!) = false:=by simpa using hc
      rw [hc] at head
      have s:=qvi hq hb (by omega : a < b) (by omega : p < n) u
      cases hx : Sort.partition lt l a b p with
      | mk j r=>
      cases r with
      | mk ap d4=>
        obtain ⟨g1,g2,bz,bw,cg,bk,ax⟩:=Sort.round_part hS (Sort.partition_holds lt) hp1 hp2 (by rw [ay];exact hb) B3 hx
        obtain ⟨_,_,v,_,_⟩:=Sort.partition_holds lt hS l a b p hp1 hp2 (by rw [ay];exact hb)
        rw [hx] at v s
        have z:=u.perm o hb v
        have w1 : w64 ((j : Int) - (a : Int)) = ((j - a : Nat) : Int):=wsub g1 q0
        have w2 : w64 ((b : Int) - (j : Int)) = ((b - j : Nat) : Int):=wsub q0 q0
        simp only [qy,s,qj,Uj u z,w1,w2,w1p j q0] at head
        by_cases dm : j - a < b - j
        · have tl : decide (((j - a : Nat) : Int) < ((b - j : Nat) : Int)) = true:=Q7 q0
          simp only [tl,Q1] at head
          rcases au a j l1 d4 z g1 q0 ar bw with ⟨L,e,aq,bh⟩ | ⟨r1,r2⟩
          · have am:=z.perm g1 q0 aq
            obtain ⟨bg,ad⟩:=bk _ aq bh
            simp only [e,qj,Uj z am] at head
            rw [Y3 head]
            rcases ih (b - (j + 1)) q0 (j + 1) b l1 _ _ L rfl am q0 hb ar bg with ⟨R,r0,r1,r2⟩ | ⟨r1,r2⟩
            · obtain ⟨q1,q2⟩:=ad _ r1 r2
              exact .inl ⟨R,r0,Sort.permIn_trans _ _ _ a b P3 q1,q2⟩
            · exact .inr ⟨q0,r2⟩
          · simp only [r2,Option.bind_none] at head
            exact .inr ⟨q0,ql3 head⟩
        · have tl : decide (((j - a : Nat) : Int) < ((b - j : Nat) : Int)) = false:=Q6 q0
          simp only [tl,qy] at head
          rcases au (j + 1) b l1 d4 z q0 hb ar cg with ⟨L,e,aq,bh⟩ | ⟨r1,r2⟩
          · have am:=z.perm (by omega : j + 1≤b) hb aq
            obtain ⟨bg,ad⟩:=ax _ aq bh
            simp only [e,qj,Uj z am] at head
            rw [Y3 head]
            rcases ih (j - a) q0 a j l1 _ _ L rfl am g1 q0 ar bg with ⟨R,r0,r1,r2⟩ | ⟨r1,r2⟩
            · obtain ⟨q1,q2⟩:=ad _ r1 r2
              exact .inl ⟨R,r0,Sort.permIn_trans _ _ _ a b P3 q1,q2⟩
            · exact .inr ⟨q0,r2⟩
          · simp only [r2,Option.bind_none] at head
            exact .inr ⟨q0,ql3 head⟩
theorem qm2 (f : Kx q lt P) (g : Sort.SWO lt) {n : Nat} : ∀ (N a b c : Nat) (d : Array T),AllP n P d→a≤b→b≤n→c≤1000→Sort.Below lt a b d→
    Srt lt a b d (Zl N q d.toList (a : Int) (b : Int) (c : Int))∨(N≤b - a∧Zl N q d.toList (a : Int) (b : Int) (c : Int) = none)
  | 0,a,b,c,d,_,_,_,_,_=>.inr ⟨q0,rfl⟩
  | N + 1,a,b,c,d,hd,hab,hb,hl,hB=>by
    have h:=qvj f g (N:=N) (Zl N q) (fun a b c d k l j m o=>qm2 f g N a b c d k l j m o) _ a b c true true d rfl hd hab hb hl hB
    have e : Zl (N + 1) q d.toList (a : Int) (b : Int) (c : Int) = loop (Zs q (Zl N q)) ((a : Int),(b : Int),(c : Int),true,true,d.toList):=by
      show q11 (Zl N q) q d.toList (a : Int) (b : Int) (c : Int) = _
      unfold q11
      cases loop (Zs q (Zl N q)) ((a : Int),(b : Int),(c : Int),true,true,d.toList) <;> rfl
    rw [e]
    exact h
theorem qnv (s : Kx q lt P) (v : Sort.SWO lt) (xs : List T) (o : xs.length≤1000000) (z : ∀ x∈xs,P x) :
    ∃ ys,q2i q xs = some ys∧ys.Perm xs∧ys.Pairwise (fun x y=>lt y x = false):=by
  have hd : AllP xs.length P xs.toArray:=by
    refine ⟨qe,o,fun i hi=>?_⟩
    have : xs.toArray[i]! = xs[i]:=by simp [hi]
    rw [this];exact z _ (Kv hi)
  have hk : Sort.bitsLen xs.length≤20:=(Sort.bitsLen_le_iff _ 20).2 q0
  have c : ∀ N,_:=fun N=>qm2 s v N 0 xs.length (Sort.bitsLen xs.length) xs.toArray hd q0 q0 q0 (.inl rfl)
  have u:=c (xs.length + 1)
  rcases u with ⟨d',e,_,_⟩ | ⟨h,_⟩
  · obtain ⟨r,n⟩:=qt1 (f:=fun N=>Zl N q xs 0 (xs.length : Int) ((Sort.bitsLen xs.length : Nat) : Int)) e
    obtain ⟨N,g⟩:=qfo n
    have g : Zl N q xs 0 (xs.length : Int) ((Sort.bitsLen xs.length : Nat) : Int) = some r:=g
    rcases c N with ⟨a,b,x,y⟩ | ⟨_,b⟩
    · have b : Zl N q xs 0 (xs.length : Int) ((Sort.bitsLen xs.length : Nat) : Int) = some a.toList:=b
      rw [g] at b
      obtain rfl : r = a.toList:=qdy b
      have d : a.size = xs.length:=by rw [x.1];simp
      refine ⟨a.toList,?_,?_,?_⟩
      · unfold q2i
        rw [q2b,show ((xs.length : Int) % 18446744073709551616) = (xs.length : Int) by omega,ql0 _ o]
        simp only [qj,n]
        unfold K3
        rw [qq (by simp [d])]
        rfl
      · have:=x.2.2
        have p : a.extract 0 xs.length = a:=by rw [← d];simp
        have w : xs.toArray.extract 0 xs.length = xs.toArray:=by simp
        rw [p,w] at this
        exact this
      · rw [List.pairwise_iff_getElem]
        intro i j hi t l
        have k : i < a.size:=by simpa using hi
        have m : j < a.size:=by simpa using t
        have:=y i j q0 l q0
        rw [getElem!_pos a i k,getElem!_pos a j m] at this
        simpa using this
    · have b : Zl N q xs 0 (xs.length : Int) ((Sort.bitsLen xs.length : Nat) : Int) = none:=b
      rw [g] at b;cases b
  · omega
end
end Go.Sh
namespace Go.Sh
open Go Go.Am
theorem qyd : qdn = q5g:=rfl
theorem qxe : q2v = q3t:=by
  funext p0
  simp only [q2v,q3t,qyd]
  all_goals exact K2
theorem qn0 : q14 = q1h:=by
  funext p0
  simp only [q14,q1h,qxe]
  all_goals exact K2
theorem qxo : qa5 = Uc:=by
  funext p1 q1 a459
  simp only [qa5,Uc]
  all_goals exact K2
theorem qxn : qa4 = q1l:=by
  funext p2 p1 q1 a278
  simp only [qa4,q1l,qxo]
  all_goals exact K2
theorem qxm : qa3 = q2l:=by
  funext q1 p0 p1 p2
  simp only [qa3,q2l,qxn]
  all_goals exact K2
theorem qyc : qan = Uf:=by
  funext p2 p3 q1 a197
  simp only [qan,Uf]
  all_goals exact K2
theorem qn2 : q7q = q12:=by
  funext q1 p0 p1 p2 p3
  simp only [q7q,q12,qyc]
  all_goals exact K2
theorem qxk : qa1 = q1j:=by
  funext q1 p2 p1 a123
  simp only [qa1,q1j,qn2]
  all_goals exact K2
theorem qxl : qa2 = q1k:=by
  funext p1 q1 a191
  simp only [qa2,q1k,qn2]
  all_goals exact K2
theorem qxj : qa0 = q2k:=by
  funext q1 p0 p1 p2
  simp only [qa0,q2k,qxk,qxl]
  all_goals exact K2
theorem qxq : q21 = q2m:=by
  funext p0
  simp only [q21,q2m,qn0]
  all_goals exact K2
theorem qye : q22 = q2q:=by
  funext p0
  simp only [q22,q2q]
  all_goals exact K2
theorem qxh : q9y = Ut:=by
  funext p1 p2 r101 a153
  simp only [q9y,Ut,qye]
  all_goals exact K2
theorem qxg : q9x = q1i:=by
  funext q1 p0 p1 p2
  simp only [q9x,q1i,qxq,qxh]
  all_goals exact K2
theorem qxr : q4n = Uv:=by
  funext q1 p0 p1 p2 p3
  simp only [q4n,Uv]
  all_goals exact K2
theorem qn1 : q76 = Uu:=by
  funext q1 p0 p1 p2 p3 p4
  simp only [q76,Uu,qxr]
  all_goals exact K2
theorem qxp : q4l = Ud:=by
  funext q1 p0 p1 p2
  simp only [q4l,Ud,qn1]
  all_goals exact K2
theorem qxi : q9z = q2j:=by
  funext p0 p1 p2 p3
  simp only [q9z,q2j,qn1,qxp]
  all_goals exact K2
theorem qyb : qal = q2p:=by
  funext a119
  simp only [qal,q2p]
  all_goals exact K2
theorem qya : qak = q1q:=by
  funext q1 p0 p1 p2
  simp only [qak,q1q,qyb]
  all_goals exact K2
theorem qxu : qa6 = Uw:=by
  funext p2 a438 q1 a681
  simp only [qa6,Uw]
  all_goals exact K2
theorem qxv : qa7 = Ux:=by
  funext q1 a838
  simp only [qa7,Ux]
  all_goals exact K2
theorem qxw : qa8 = Uy:=by
  funext p2 q1 b684 a928
  simp only [qa8,Uy]
  all_goals exact K2
theorem qxt : q78 = J3:=by
  funext p2 q1 p1 a438
  have a : @q78.match_1.{1} = @J3.match_1.{1} qn:=by funext motive m f g;cases m <;> rfl
  unfold q78 J3
  rw [a]
  simp only [qxu,qxv,qxw]
theorem qxs : q77 = Ue:=by
  funext q1 p0 p1 p2
  have a : @q77.match_1.{1} = @Ue.match_1.{1} qn:=by funext motive m f g;cases m <;> rfl
  unfold q77 Ue
  rw [a]
  simp only [qxt]
theorem qy0 : qai = Uz:=by
  funext a318 p1 q1 a378
  simp only [qai,Uz]
  all_goals exact K2
theorem qy1 : qaj = q10:=by
  funext b381 a318 p1 q1 a463
  simp only [qaj,q10]
  all_goals exact K2
theorem qxz : qah = q1o:=by
  funext p1 q1 a318
  simp only [qah,q1o,qy0,qy1]
  all_goals exact K2
theorem qxy : qag = q1n:=by
  funext q1 p0 p1 p2 p3
  simp only [qag,q1n,qxz]
  all_goals exact K2
theorem qy2 : qab = q2n:=by
  funext p2 p0 p1 v101 p3 v103 q1 a163
  simp only [qab,q2n]
  all_goals exact K2
theorem qy3 : qac = q2o:=by
  funext b166 p0 p1 v101 p3 v103 q1 a249
  simp only [qac,q2o]
  all_goals exact K2
theorem qy5 : qae = Jd:=by
  funext a514 p1 q1 a572
  simp only [qae,Jd]
  all_goals exact K2
theorem qy6 : qaf = Je:=by
  funext b575 a514 p1 q1 a658
  simp only [qaf,Je]
  all_goals exact K2
theorem qy4 : qad = q1p:=by
  funext p1 q1 a514
  simp only [qad,q1p,qy5,qy6]
  all_goals exact K2
theorem qxx : qaa = q1m:=by
  funext q1 p0 p1 p2 p3
  simp only [qaa,q1m,qy2,qy3,qy4]
  all_goals exact K2
theorem qy8 : q7m = Zs:=by
  funext q1 rec a309
  have a : @q7m.match_1.{1} = @Zs.match_1.{1} qn:=by funext motive m f g;cases m <;> rfl
  unfold q7m Zs
  rw [a]
  simp only [qxm,qxj,qxg,qxi,qya,qxs,qxy,qxx]
theorem qy9 : q7n = q11:=by
  funext rec q1 p0 p1 p2 p3
  simp only [q7n,q11,qy8]
  all_goals exact K2
theorem qy7 : ∀ N q,q7l N q = Zl N q:=by
  intro N q
  induction N with
  | zero=>rfl
  | succ N ih=>
    funext a b c d
    show q7n (q7l N q) q a b c d = q11 (Zl N q) q a b c d
    rw [ih,qy9]
theorem qxf : q6w = q2i:=by
  funext q1 p0
  simp only [q6w,q2i,qn0,qy7]
  all_goals exact K2
end Go.Sh
namespace Go.Sh
open Go Go.Am
instance : Inhabited qn:=⟨⟨0,0,0⟩⟩
theorem q11z (q : qn→qn→Option Int) (xs : List qn) : q6w q xs = q2i q xs:=by rw [qxf]
def evs (s : List qk) (l : Int) : List qn:=s.flatMap fun t=>[{at_:=t.Lo,list_:=l,by_:=1},{at_:=t.Hi,list_:=l,by_:=-1}]
theorem q8x (s : List qk) (l : Int) : (evs s l).length = 2 * s.length:=by
  induction s with
  | nil=>rfl
  | cons t s ih=>simp only [evs,List.flatMap_cons,List.length_append,List.length_cons,List.length_nil] at ih ⊢;omega
theorem qcg {s : List qk} {l : Int} {e : qn} (h : e∈evs s l) : e.list_ = l∧(e.by_ = 1∨e.by_ = -1)∧∃ t∈s,e.at_ = t.Lo∨e.at_ = t.Hi:=by
  simp only [evs,List.mem_flatMap] at h
  obtain ⟨t,a,h⟩:=h
  simp only [List.mem_cons,List.not_mem_nil,or_false] at h
  rcases h with rfl | rfl
  · exact ⟨rfl,.inl rfl,t,a,.inl rfl⟩
  · exact ⟨rfl,.inr rfl,t,a,.inr rfl⟩
theorem qjd (s : List qk) (l : Int) (y : List qn) (hs : s.length≤1000) (base : List qn) (hb : base.length≤10000) :
    loop (q4v s (l,y)) (0,base) = some (base ++ evs s l):=by
  have:=J5 (f:=q4v s (l,y)) (σ:=List qn) (fun k c=>((k : Int),c)) s.length (fun k c=>c = base ++ evs (s.take k) l) (fun t=>t = base ++ evs s l) ?_ ?_ (k0:=0) (c0:=base) q0 (by simp [evs])
  · obtain ⟨b,h,rfl⟩:=this;exact h
  · rintro k c g rfl
    have a : decide ((k : Int) < (s.length : Int)) = true:=Q7 q0
    refine .inl ⟨base ++ evs (s.take (k + 1)) l,?_,rfl⟩
    have d : (evs (s.take k) l).length≤2000:=by rw [q8x,List.length_take];omega
    simp only [q4v,a,Q1,Qu g,qj]
    rw [Y7 (by rw [List.length_append];simp only [List.length_cons,List.length_nil];omega),qj,Qm q0,List.take_succ_eq_append_getElem g,List.append_assoc]
    have : evs (s.take k ++ [s[k]]) l = evs (s.take k) l ++ [{at_:=s[k].Lo,list_:=l,by_:=1},{at_:=s[k].Hi,list_:=l,by_:=-1}]:=by simp only [evs,List.flatMap_append,List.flatMap_cons,List.flatMap_nil,List.append_nil]
    rw [this];rfl
  · rintro c rfl
    have a : decide ((s.length : Int) < (s.length : Int)) = false:=Q6 q0
    exact ⟨_,by simp only [q4v,a,qy];rfl,by rw [List.take_length]⟩
def ltE (a b : qn) : Bool:=decide (a.at_ < b.at_)
def inE (e : qn) : Prop:=-1000000≤e.at_∧e.at_≤1000000
theorem swoE : Sort.SWO ltE where
  irrefl:=by intro x;simp [ltE]
  trans:=by intro x y z;simp only [ltE,decide_eq_true_eq];omega
  ntrans:=by intro x y z;simp only [ltE,decide_eq_false_iff_not];omega
theorem cmpE : Kx (fun a b=>qaw a b) ltE inE:=by
  rintro x y ⟨f,c⟩ ⟨g,d⟩
  refine ⟨x.at_ - y.at_,?_,?_⟩
  · show some (w64 (x.at_ - y.at_)) = _;rw [Qm q0]
  · unfold ltE;exact decide_eq_decide.2 q0
theorem q11y (p q : List qk) (hp : p.length≤500) (w : q.length≤500) (r : ∀ t∈p,vld t) (m : ∀ t∈q,vld t) :
    ∃ ys,qax [p,q] = some ([p,q],ys)∧ys.Perm (evs p 0 ++ evs q 1)∧ys.Pairwise (fun x y=>x.at_≤y.at_):=by
  have o : ∀ x∈evs p 0 ++ evs q 1,inE x:=by
    intro x u
    rcases List.mem_append.1 u with h | h
    · obtain ⟨_,_,t,f,h⟩:=qcg h
      obtain ⟨a,b,c⟩:=r t f
      unfold inE;rcases h with h | h <;> omega
    · obtain ⟨_,_,t,f,h⟩:=qcg h
      obtain ⟨a,b,c⟩:=m t f
      unfold inE;rcases h with h | h <;> omega
  have v:=q8x p 0
  have z:=q8x q 1
  obtain ⟨ys,s,j,l⟩:=qnv cmpE swoE (evs p 0 ++ evs q 1) (by rw [List.length_append];omega) o
  refine ⟨ys,?_,j,l.imp (fun {x y} h=>by simp only [ltE,decide_eq_false_iff_not] at h;omega)⟩
  have d : loop (q18 [p,q]) (0,[]) = some (evs p 0 ++ evs q 1):=by
    have s0 : q18 [p,q] (0,[]) = some (.inl (1,evs p 0)):=by
      have t : decide ((0 : Int) < (([p,q] : List (List qk)).length : Int)) = true:=rfl
      simp only [q18,t,Q1]
      have : idx [p,q] 0 = some p:=rfl
      rw [this]
      simp only [qj,qjd p 0 [] q0 [] qe,List.nil_append]
      rfl
    have k : q18 [p,q] (1,evs p 0) = some (.inl (2,evs p 0 ++ evs q 1)):=by
      have t : decide ((1 : Int) < (([p,q] : List (List qk)).length : Int)) = true:=rfl
      simp only [q18,t,Q1]
      have : idx [p,q] 1 = some q:=rfl
      rw [this]
      simp only [qj,qjd q 1 (evs p 0) q0 (evs p 0) q0]
      rfl
    have n : q18 [p,q] (2,evs p 0 ++ evs q 1) = some (.inr (evs p 0 ++ evs q 1)):=by
      have t : decide ((2 : Int) < (([p,q] : List (List qk)).length : Int)) = false:=rfl
      simp only [q18,t,qy]
    rw [Y3 s0,Y3 k,Kg n]
  unfold qax
  rw [d]
  simp only [qj,q11z,s]
  have le : K3 ys.length (evs p 0 ++ evs q 1).length = some ():=by unfold K3;rw [qq j.length_eq]
  have g : K3 ys.length ys.length = some ():=by unfold K3;rw [qq rfl]
  simp only [le,qj,qdd,g]
def cnt (l : Int) (c : Int→Bool) : List qn→Int
  | []=>0
  | e::es=>(if e.list_ = l∧c e.at_ = true then e.by_ else 0) + cnt l c es
theorem q2g (l : Int) (c : Int→Bool) (a b : List qn) : cnt l c (a ++ b) = cnt l c a + cnt l c b:=by
  induction a with
  | nil=>simp [cnt]
  | cons e a ih=>simp only [List.cons_append,cnt,ih];omega
theorem qiz {l : Int} {c : Int→Bool} {a b : List qn} (h : a.Perm b) : cnt l c a = cnt l c b:=by
  induction h with
  | nil=>rfl
  | cons x _ ih=>simp only [cnt,ih]
  | swap x y l=>simp only [cnt];omega
  | trans _ _ ih1 ih2=>rw [ih1,ih2]
theorem qiw {l : Int} {c b : Int→Bool} : ∀ {a : List qn},(∀ e∈a,c e.at_ = b e.at_)→cnt l c a = cnt l b a
  | [],_=>rfl
  | e::a,h=>by simp only [cnt,h e qe,qiw (fun e d=>h e (List.mem_cons_of_mem _ d))]
theorem qiy {l : Int} {c : Int→Bool} : ∀ {a : List qn},(∀ e∈a,c e.at_ = false)→cnt l c a = 0
  | [],_=>rfl
  | e::a,h=>by
    simp only [cnt,qiy (fun e b=>h e (List.mem_cons_of_mem _ b)),h e qe]
    simp
theorem q8n {s : List qk} {l l' : Int} {c : Int→Bool} (h : l≠l') : cnt l c (evs s l') = 0:=by
  induction s with
  | nil=>rfl
  | cons t s ih=>
    have : evs (t::s) l' = [{at_:=t.Lo,list_:=l',by_:=1},{at_:=t.Hi,list_:=l',by_:=-1}] ++ evs s l':=rfl
    rw [this,q2g,ih]
    have a : ¬ l' = l:=fun e=>h e.symm
    simp [cnt,a]
theorem qix {s : List qk} {l : Int} (v : ∀ t∈s,vld t) (x : Int) : 0≤cnt l (fun a=>decide (a≤x)) (evs s l)∧(0 < cnt l (fun a=>decide (a≤x)) (evs s l)↔has s x):=by
  induction s with
  | nil=>exact ⟨Int.le_refl 0,by simp [evs,cnt,has]⟩
  | cons t s ih=>
    obtain ⟨g,d⟩:=ih (fun t b=>v t (List.mem_cons_of_mem _ b))
    have c:=v t qe
    have : evs (t::s) l = [{at_:=t.Lo,list_:=l,by_:=1},{at_:=t.Hi,list_:=l,by_:=-1}] ++ evs s l:=rfl
    rw [this,q2g,Zv,← d]
    obtain ⟨j,h,f⟩:=c
    simp only [cnt,true_and,decide_eq_true_eq]
    split <;> split <;> omega
theorem qj0 {s : List qk} {l : Int} : cnt l (fun _=>true) (evs s l) = 0:=by
  induction s with
  | nil=>rfl
  | cons t s ih=>
    have : evs (t::s) l = [{at_:=t.Lo,list_:=l,by_:=1},{at_:=t.Hi,list_:=l,by_:=-1}] ++ evs s l:=rfl
    rw [this,q2g,ih]
    simp [cnt]
theorem qes {l : Int} {c : Int→Bool} : ∀ {a : List qn},(∀ e∈a,e.by_ = 1∨e.by_ = -1)→-(a.length : Int)≤cnt l c a∧cnt l c a≤(a.length : Int)
  | [],_=>by simp [cnt]
  | e::a,h=>by
    obtain ⟨f,d⟩:=qes (l:=l) (c:=c) (fun e b=>h e (List.mem_cons_of_mem _ b))
    have:=h e qe
    simp only [cnt,List.length_cons]
    split <;> omega
end Go.Sh
namespace Go.Sh
open Go Go.Am
theorem qqr (at_ a : Int) (inn : Bool) (out : List qk) (h : out.length≤10000) :
    qay at_ inn a out = some (inn,a,if inn = true∧a≠at_ then addS out a at_ else out):=by
  unfold qay
  cases inn with
  | false=>rfl
  | true=>
    by_cases f : a = at_
    · simp [f]
    · have hb : (a == at_) = false:=by simpa using f
      simp only [Bool.not_true,qy,qj,hb]
      rw [qq ⟨trivial,f⟩]
      rcases qde out with rfl | ⟨d,t,rfl⟩
      · rfl
      · have l : (d ++ [t]).length = d.length + 1:=by simp
        have g : decide (((d ++ [t]).length : Int) > 0) = true:=Q7 q0
        have k : w64 (((d ++ [t]).length : Int) - 1) = (d.length : Int):=by rw [Qm q0];omega
        have j : idx (d ++ [t]) (d.length : Int) = some t:=by
          rw [Qu q0];simp
        simp only [g,Q1,k,j,qj]
        by_cases b : t.Hi = a
        · subst b
          simp only [beq_self_eq_true,Q1,qbj,Int.toNat_natCast,qn5]
        · have c : (t.Hi == a) = false:=by simpa using b
          simp only [c,qy,qbk b]
          rw [Y7 (by simp;omega)]
          rfl
open Classical in
structure qp0 (f : Bool→Bool→Bool) (p q : List qk) (ys : List qn) (k : Nat) (c : List Int × Int × Bool × List qk) : Prop where
  opn : c.1 = [cnt 0 (fun _=>true) (ys.take k),cnt 1 (fun _=>true) (ys.take k)]
  inn : c.2.2.1 = f (decide (0 < cnt 0 (fun _=>true) (ys.take k))) (decide (0 < cnt 1 (fun _=>true) (ys.take k)))
  lst : ∀ (h : k - 1 < ys.length),0 < k→c.2.1 = ys[k - 1].at_
  can : Can c.2.2.2
  his : ∀ t∈c.2.2.2,t.Hi≤c.2.1
  zro : k = 0→c.2.2.2 = []
  pts : ∀ x,has c.2.2.2 x↔0 < k∧x < c.2.1∧f (decide (has p x)) (decide (has q x)) = true
  len : c.2.2.2.length≤k
theorem qp2 (c : List qk) (a b : Int) : (addS c a b).length≤c.length + 1:=by
  rcases qde c with rfl | ⟨d,t,rfl⟩
  · simp [qhq]
  · by_cases h : t.Hi = a
    · subst h;rw [qbj];simp
    · rw [qbk h];simp
theorem qiv {p q : List qk} {ys : List qn} (hp : ∀ t∈p,vld t) (n : ∀ t∈q,vld t) (b : ys.Perm (evs p 0 ++ evs q 1)) (hs : ys.Pairwise (fun x y=>x.at_≤y.at_)) (k : Nat) (x : Int)
    (f : ∀ i (h : i < ys.length),i < k→ys[i].at_≤x) (o : ∀ i (h : i < ys.length),k≤i→x < ys[i].at_) :
    (0 < cnt 0 (fun _=>true) (ys.take k)↔has p x)∧(0 < cnt 1 (fun _=>true) (ys.take k)↔has q x):=by
  have key : ∀ l,cnt l (fun _=>true) (ys.take k) = cnt l (fun a=>decide (a≤x)) (evs p 0) + cnt l (fun a=>decide (a≤x)) (evs q 1):=by
    intro l
    rw [← q2g,← qiz b]
    conv=>rhs;rw [← List.take_append_drop k ys]
    rw [q2g]
    have d : cnt l (fun a=>decide (a≤x)) (ys.drop k) = 0:=by
      refine qiy fun e c=>?_
      obtain ⟨i,hi,rfl⟩:=List.mem_iff_getElem.1 c
      rw [List.getElem_drop]
      rw [List.length_drop] at hi
      have:=o (k + i) q0 q0
      exact Q6 q0
    have j : cnt l (fun a=>decide (a≤x)) (ys.take k) = cnt l (fun _=>true) (ys.take k):=by
      refine qiw fun e c=>?_
      obtain ⟨i,hi,rfl⟩:=List.mem_iff_getElem.1 c
      rw [List.getElem_take]
      rw [List.length_take] at hi
      exact Q7 (f i q0 q0)
    rw [d,j];omega
  rw [key 0,key 1,q8n (l:=0) (l':=1) qx,q8n (l:=1) (l':=0) qx]
  have m:=qix (l:=0) hp x
  have g:=qix (l:=1) n x
  rw [Int.add_zero,Int.zero_add]
  exact ⟨m.2,g.2⟩
open Classical in
theorem qkq (f : Bool→Bool→Bool) (hf : f false false = false) (p2 : Bool→Bool→Option Bool) (hp2 : ∀ a b,p2 a b = some (f a b)) (p q : List qk)
    (hp : p.length≤500) (hq : q.length≤500) (vp : ∀ t∈p,vld t) (vq : ∀ t∈q,vld t) :
    ∃ out,q3g p q p2 = some out∧Can out∧∀ x,has out x↔f (decide (has p x)) (decide (has q x)) = true:=by
  obtain ⟨ys,e1,g,hs⟩:=q11y p q hp hq vp vq
  have bh : ys.length≤2000:=by rw [g.length_eq,List.length_append,q8x,q8x];omega
  have w : ∀ i j (hi : i < ys.length) (hj : j < ys.length),i≤j→ys[i].at_≤ys[j].at_:=by
    intro i j hi hj bi
    rcases Nat.lt_or_ge i j with h | h
    · exact List.pairwise_iff_getElem.1 hs i j hi hj h
    · obtain rfl : i = j:=by omega
      exact Int.le_refl _
  have y : ∀ e∈ys,(e.list_ = 0∨e.list_ = 1)∧(e.by_ = 1∨e.by_ = -1):=by
    intro e he
    rcases List.mem_append.1 (g.mem_iff.1 he) with h | h
    · obtain ⟨a,b,_⟩:=qcg h;exact ⟨.inl a,b⟩
    · obtain ⟨a,b,_⟩:=qcg h;exact ⟨.inr a,b⟩
  have:=J5 (f:=q4w ([p,q],ys) p2) (σ:=List Int × Int × Bool × List qk) (fun k c=>((k : Int),c)) ys.length (qp0 f p q ys) (fun out=>Can out∧∀ x,has out x↔f (decide (has p x)) (decide (has q x)) = true) ?_ ?_ (k0:=0) (c0:=([0,0],0,false,[])) q0 ?_
  · obtain ⟨out,r,m⟩:=this
    refine ⟨out,?_,m⟩
    unfold q3g
    have r : loop (q4w ([p,q],ys) p2) (0,[0,0],0,false,[]) = some out:=r
    rw [e1]
    simp only [qj,r]
    rfl
  · rintro k ⟨opn,d,inn,out⟩ hk ⟨s1,s2,s3,s4,s5,s6,s7,s8⟩
    simp only at s1 s2 s3 s4 s5 s6 s7 s8
    have aa : decide ((k : Int) < (ys.length : Int)) = true:=Q7 q0
    have aw:=qqr ys[k].at_ d inn out q0
    have hm:=y ys[k] (Kv hk)
    have bb : ys.take (k + 1) = ys.take k ++ [ys[k]]:=List.take_succ_eq_append_getElem hk
    have ai : ∀ e∈ys.take k,e.by_ = 1∨e.by_ = -1:=fun e he=>(y e (List.mem_of_mem_take he)).2
    have b0:=qes (l:=0) (c:=fun _=>true) ai
    have b1:=qes (l:=1) (c:=fun _=>true) ai
    have au : (ys.take k).length = k:=by rw [List.length_take];omega
    rw [au] at b0 b1
    have ac : ∃ v,idxA 2 opn ys[k].list_ = some v∧opn.set ys[k].list_.toNat (w64 (v + ys[k].by_)) = [cnt 0 (fun _=>true) (ys.take (k + 1)),cnt 1 (fun _=>true) (ys.take (k + 1))]:=by
      subst s1
      rw [bb,q2g,q2g]
      rcases hm.1 with h | h
      · refine ⟨cnt 0 (fun _=>true) (ys.take k),by rw [h];rfl,?_⟩
        rw [h,Qm q0]
        simp [cnt,h]
      · refine ⟨cnt 1 (fun _=>true) (ys.take k),by rw [h];rfl,?_⟩
        rw [h,Qm q0]
        simp [cnt,h]
    obtain ⟨v,o1,o2⟩:=ac
    refine .inl ⟨([cnt 0 (fun _=>true) (ys.take (k + 1)),cnt 1 (fun _=>true) (ys.take (k + 1))],ys[k].at_,f (decide (0 < cnt 0 (fun _=>true) (ys.take (k + 1)))) (decide (0 < cnt 1 (fun _=>true) (ys.take (k + 1)))),if inn = true∧d≠ys[k].at_ then addS out d ys[k].at_ else out),?_,?_⟩
    · have x0 : ∀ a b : Int,idxA 2 [a,b] 0 = some a:=fun a b=>rfl
      have x1 : ∀ a b : Int,idxA 2 [a,b] 1 = some b:=fun a b=>rfl
      simp only [q4w,aa,Q1,Qu hk,qj,aw,o1,o2,x0,x1,hp2,Bool.not_true,qy]
      rw [Qm q0]
      rfl
    · have ab : ∀ x,(0 < k→d≤x)→∀ i (h : i < ys.length),i < k→ys[i].at_≤x:=by
        intro x o i hi al
        have:=s3 q0 q0
        have:=w i (k - 1) hi q0 q0
        have:=o q0
        omega
      have ae : ∀ x,x < ys[k].at_→∀ i (h : i < ys.length),k≤i→x < ys[i].at_:=by
        intro x o i hi al
        have:=w k i hk hi al
        omega
      have hF : ∀ x,(0 < k→d≤x)→x < ys[k].at_→f (decide (has p x)) (decide (has q x)) = inn:=by
        intro x o ar
        obtain ⟨c1,c2⟩:=qiv vp vq g hs k x (ab x o) (ae x ar)
        rw [s2,decide_eq_decide.2 c1,decide_eq_decide.2 c2]
      have n : 0 < k→d≤ys[k].at_:=by
        intro u
        rw [s3 q0 u]
        exact w (k - 1) k q0 hk q0
      have z : k = 0→inn = false:=by
        intro u
        subst u
        rw [s2];exact hf
      by_cases s : inn = true∧d≠ys[k].at_
      · have ao : 0 < k:=by
          rcases Nat.eq_zero_or_pos k with h | h
          · rw [z h] at s;cases s.1
          · exact h
        have hl:=n ao
        have bc : d < ys[k].at_:=by have:=s.2;omega
        obtain ⟨d1,d2,d3,d4⟩:=qhr s4 s5 bc
        constructor
        · rfl
        · rfl
        · intro h _;rfl
        · simp only [qq s];exact d1
        · simp only [qq s];exact d3
        · omega
        · intro x
          simp only [qq s]
          rw [d2,s7]
          constructor
          · rintro (⟨u,r,m⟩ | ⟨r,m⟩)
            · exact ⟨q0,q0,m⟩
            · exact ⟨q0,m,by rw [hF x (fun _=>r) m];exact s.1⟩
          · rintro ⟨u,r,m⟩
            by_cases o : x < d
            · exact .inl ⟨ao,o,m⟩
            · exact .inr ⟨q0,r⟩
        · simp only [qq s]
          have:=qp2 out d ys[k].at_
          omega
      · constructor
        · rfl
        · rfl
        · intro h _;rfl
        · simp only [qp s];exact s4
        · simp only [qp s]
          intro t ht
          rcases Nat.eq_zero_or_pos k with h | h
          · rw [s6 h] at ht;cases ht
          · have:=s5 t ht;have:=n h;omega
        · omega
        · intro x
          simp only [qp s]
          rw [s7]
          constructor
          · rintro ⟨u,r,m⟩
            exact ⟨q0,by have:=n u;omega,m⟩
          · rintro ⟨u,r,m⟩
            by_cases o : 0 < k∧x < d
            · exact ⟨o.1,o.2,m⟩
            · have am : 0 < k→d≤x:=fun h=>by
                refine Int.not_lt.1 fun h'=>o ⟨h,h'⟩
              have:=hF x am r
              rw [this] at m
              refine absurd ⟨m,?_⟩ s
              intro e
              rcases Nat.eq_zero_or_pos k with h | h
              · rw [z h] at m;cases m
              · have:=am h;omega
        · simp only [qp s];omega
  · rintro ⟨opn,d,inn,out⟩ ⟨s1,s2,s3,s4,s5,s6,s7,s8⟩
    simp only at s1 s2 s3 s4 s5 s6 s7 s8
    have aa : decide ((ys.length : Int) < (ys.length : Int)) = false:=Q6 q0
    refine ⟨out,by simp only [q4w,aa,qy],s4,fun x=>?_⟩
    rw [s7]
    constructor
    · rintro ⟨_,_,h⟩;exact h
    · intro h
      by_cases o : 0 < ys.length∧x < d
      · exact ⟨o.1,o.2,h⟩
      · obtain ⟨c1, c2⟩ := qiv vp vq g hs ys.length x (fun i hi _ => by
            have:=s3 q0 q0
            have:=w i (ys.length - 1) hi q0 q0
            have : d≤x:=Int.not_lt.1 fun h'=>o ⟨q0,h'⟩
            omega) (fun i hi bs=>q0)
        have az : ∀ l,cnt l (fun _=>true) (ys.take ys.length) = 0:=by
          intro l
          rw [List.take_length,qiz g,q2g]
          by_cases u : l = 0
          · subst u;rw [qj0,q8n qx];rfl
          · rw [q8n u]
            by_cases r : l = 1
            · subst r;rw [qj0];rfl
            · rw [q8n r];rfl
        rw [az] at c1 c2
        have n1 : ¬ has p x:=fun h=>absurd (c1.2 h) qx
        have n2 : ¬ has q x:=fun h=>absurd (c2.2 h) qx
        rw [Q6 n1,Q6 n2,hf] at h
        cases h
  · constructor
    · simp [cnt]
    · simp [cnt,hf]
    · intro h u;omega
    · exact ⟨fun t ht=>(by cases ht),.nil⟩
    · intro t ht;cases ht
    · intro _;rfl
    · intro x;simp [has]
    · simp
end Go.Sh
namespace Go.Sh
open Go Go.Am
theorem qem {s : List qk} (h : Yv s = 0) : s.length≤400∧Good s:=by
  unfold Yv at h
  split at h
  · cases h
  · split at h
    · rename_i b a;exact ⟨q0,a⟩
    · cases h
def dst (x : Int) (t : qk) : Int:=max (max (t.Lo - x) (x - t.Hi + 1)) 0
end Go.Sh
namespace Go.Sh
open Go Go.Am
noncomputable def Jf (kind : Int) (p q : List qk) : List qk:=(qco kind p q).getD []
theorem q5j (kind : Int) (p q : List qk) (hp : p.length≤100000) (c : q.length≤100000) : qco kind p q = some (Jf kind p q)∧qe2 kind p q (Jf kind p q):=by
  obtain ⟨out,b,a⟩:=qsw kind p q hp c
  unfold Jf
  rw [b];exact ⟨rfl,a⟩
noncomputable def opS (kind : Int) (p q : List qk) : List qk × Int:=
  if Yv p≠0 then ([],Yv p) else if Yv q≠0 then ([],Yv q) else if 400 < (Jf kind p q).length then ([],4) else (Jf kind p q,0)
open Classical in
theorem qsp (kind : Int) (f : Bool→Bool→Bool) (c : f false false = false) (n : ∀ a b : Prop,(f (decide a) (decide b) = true↔Y2 kind a b)) (p2 : Bool→Bool→Option Bool) (hp2 : ∀ a b,p2 a b = some (f a b))
    (p q : List qk) (hp : p.length≤500) (h : q.length≤500) (k : ∀ t∈p,vld t) (g : ∀ t∈q,vld t) : q3g p q p2 = some (Jf kind p q):=by
  obtain ⟨out,l,m,d⟩:=qkq f c p2 hp2 p q hp h k g
  obtain ⟨_,j⟩:=q5j kind p q q0 q0
  rw [l]
  congr 1
  refine q59 m j.can fun x=>?_
  rw [d,j.pts,n]
open Classical in
theorem qql (kind : Int) (f : Bool→Bool→Bool) (g : f false false = false) (o : ∀ a b : Prop,(f (decide a) (decide b) = true↔Y2 kind a b)) (p2 : Bool→Bool→Option Bool) (hp2 : ∀ a b,p2 a b = some (f a b))
    (p q : List qk) : qav p q p2 = some (opS kind p q):=by
  unfold qav opS
  simp only [qen,qj]
  by_cases c : Yv p = 0
  · have h : (Yv p != 0) = false:=by simpa using c
    simp only [h,qy]
    simp only [c,ne_eq,not_true_eq_false,if_false]
    by_cases d : Yv q = 0
    · have k : (Yv q != 0) = false:=by simpa using d
      obtain ⟨r,n⟩:=qem c
      obtain ⟨s,m⟩:=qem d
      simp only [k,qy,d,not_true_eq_false,if_false,qsp kind f g o p2 hp2 p q q0 q0 n.1 m.1,qj]
      by_cases l : 400 < (Jf kind p q).length
      · have j : decide (((Jf kind p q).length : Int) > 400) = true:=Q7 q0
        rw [j,qq l];rfl
      · have j : decide (((Jf kind p q).length : Int) > 400) = false:=Q6 q0
        rw [j,qp l];rfl
    · have k : (Yv q != 0) = true:=by simpa using d
      simp only [k,Q1,d,not_false_eq_true,if_true]
  · have h : (Yv p != 0) = true:=by simpa using c
    simp only [h,Q1,c,ne_eq,not_false_eq_true,if_true]
theorem q13b (p q : List qk) : q81 p q = some (opS 2 p q):=by
  classical
  unfold q81
  rw [qql 2 (fun a b=>a || b) rfl (by intro a b;by_cases c : a <;> by_cases hb : b <;> simp [Y2,c,hb]) _ (by intro a b;cases a <;> rfl)]
  rfl
theorem qsh (s : List qk) (b : qk→Option Bool) (c : qk→Bool) (h : ∀ t,b t = some (c t)) (q : s.length≤1000000) :
    ∃ r,q9w s b = some r∧decide (r ≥ 0) = s.any c:=by
  have:=J5 (f:=q3a s b) (σ:=Unit) (fun k _=>(k : Int)) s.length (fun k _=>∀ i (h : i < s.length),i < k→c s[i] = false)
    (fun m=>∃ r : Int,(match m with | .inl b22=>some (-1) | .inr x1=>some x1) = some r∧decide (r ≥ 0) = s.any c) ?_ ?_ (k0:=0) (c0:=()) q0 (fun i _ hi=>q0)
  · obtain ⟨m,g,r,p,l⟩:=this
    have g : loop (q3a s b) 0 = some m:=g
    exact ⟨r,by unfold q9w;rw [g];exact p,l⟩
  · rintro k _ j hi
    have hb : decide ((k : Int) < (s.length : Int)) = true:=Q7 q0
    cases d : c s[k] with
    | true=>
      refine .inr ⟨.inr (k : Int),?_,(k : Int),rfl,?_⟩
      · simp only [q3a,hb,Q1,Qu j,qj,h,d]
      · have : s.any c = true:=List.any_eq_true.2 ⟨s[k],Kv j,d⟩
        rw [this];exact Q7 q0
    | false=>
      refine .inl ⟨(),?_,?_⟩
      · simp only [q3a,hb,Q1,Qu j,qj,h,d,qy]
        rw [Qm q0];rfl
      · intro i a o
        by_cases e : i = k
        · subst e;exact d
        · exact hi i a q0
  · rintro _ hi
    have hb : decide ((s.length : Int) < (s.length : Int)) = false:=Q6 q0
    refine ⟨.inl (),by simp only [q3a,hb,qy],-1,rfl,?_⟩
    have : s.any c = false:=by
      rw [List.any_eq_false]
      intro t n
      obtain ⟨i,a,rfl⟩:=List.mem_iff_getElem.1 n
      simp [hi i a a]
    rw [this];rfl
theorem qqz (s : List qk) (a : qk→Option Bool) (c : qk→Bool) (h : ∀ t,a t = some (c t)) (f : s.length≤1000000) : q9t s a = some (s.any c):=by
  obtain ⟨r,b,d⟩:=qsh s a c h f
  unfold q9t
  rw [b,qj,d]
open Classical in
noncomputable def qfs (s : List qk) : List qk × Int:=if 400 < s.length then ([],4) else if ∀ t∈s,vld t then (Jf 2 s [],0) else ([],8)
theorem qtd (s : List qk) (k : s.length≤400) (g : ∀ t∈s,vld t) (p2 : Bool→Bool→Option Bool) (hp2 : ∀ a b,p2 a b = some a) : q3g s [] p2 = some (Jf 2 s []):=by
  classical
  obtain ⟨out,c,h,d⟩:=qkq (fun a _=>a) rfl p2 hp2 s [] q0 qe g (fun t f=>by cases f)
  obtain ⟨_,j⟩:=q5j 2 s [] q0 qe
  rw [c]
  congr 1
  refine q59 h j.can fun x=>?_
  rw [d,j.pts]
  simp [Y2,q1r]
theorem qtc (s : List qk) : q80 s = some (qfs s):=by
  classical
  unfold q80 qfs
  by_cases f : 400 < s.length
  · have e : decide ((s.length : Int) > 400) = true:=Q7 q0
    rw [e,qq f];rfl
  · have e : decide ((s.length : Int) > 400) = false:=Q6 q0
    rw [e,qp f,qy,qqz s _ (fun t=>!decide (vld t)) (fun t=>by show (q3h t).bind _ = _;rw [qos];rfl) q0,qj]
    by_cases c : ∀ t∈s,vld t
    · have : (s.any fun t=>!decide (vld t)) = false:=by
        rw [List.any_eq_false];intro t d;simp [c t d]
      rw [this,qy,qq c,qtd s q0 c (fun j g=>qau j g) (fun a b=>rfl)]
      rfl
    · have : (s.any fun t=>!decide (vld t)) = true:=by
        rw [List.any_eq_true]
        obtain ⟨t,c⟩:=Classical.not_forall.1 c
        obtain ⟨d,h⟩:=Classical.not_imp.1 c
        exact ⟨t,d,by simp [h]⟩
      rw [this,Q1,qp c]
def lenL : List qk→Int
  | []=>0
  | t::s=>(t.Hi - t.Lo) + lenL s
theorem qky (a b : List qk) : lenL (a ++ b) = lenL a + lenL b:=by
  induction a with
  | nil=>simp [lenL]
  | cons t a ih=>simp only [List.cons_append,lenL,ih];omega
theorem qkz : ∀ {s : List qk},(∀ t∈s,vld t)→0≤lenL s∧lenL s≤2000000 * (s.length : Int)
  | [],_=>by simp [lenL]
  | t::s,h=>by
    obtain ⟨c,g⟩:=qkz (fun t a=>h t (List.mem_cons_of_mem _ a))
    obtain ⟨f,d,b⟩:=h t qe
    simp only [lenL,List.length_cons]
    omega
noncomputable def qfn (s : List qk) : Int × Int:=if Yv s = 0 then (lenL s,0) else (0,Yv s)
theorem qt0 (s : List qk) (o : s.length≤400) (h : ∀ t∈s,vld t) : loop (qat s) (0,0) = some (lenL s)∧loop (q9b s) (0,0) = some (lenL s):=by
  have d : ∀ k,0≤lenL (s.take k)∧lenL (s.take k)≤800000000:=by
    intro k
    have:=qkz (s:=s.take k) (fun t n=>h t (List.mem_of_mem_take n))
    have : (s.take k).length≤400:=by rw [List.length_take];omega
    omega
  constructor
  · have:=J5 (f:=qat s) (σ:=Int) (fun k c=>(c,(k : Int))) s.length (fun k c=>c = lenL (s.take k)) (fun r=>r = lenL s) ?_ ?_ (k0:=0) (c0:=0) q0 (by simp [lenL])
    · obtain ⟨b,g,rfl⟩:=this;exact g
    · rintro k c a rfl
      have hb : decide ((k : Int) < (s.length : Int)) = true:=Q7 q0
      obtain ⟨m,l,j⟩:=h _ (Kv a)
      have:=d k
      refine .inl ⟨lenL (s.take (k + 1)),?_,rfl⟩
      simp only [qat,hb,Q1,Qu a,qj]
      rw [Qm (x:=s[k].Hi - s[k].Lo) q0,Qm (x:=lenL (s.take k) + _) q0,Qm q0,List.take_succ_eq_append_getElem a,qky]
      simp only [lenL,Int.add_zero];rfl
    · rintro c rfl
      have hb : decide ((s.length : Int) < (s.length : Int)) = false:=Q6 q0
      exact ⟨_,by simp only [qat,hb,qy];rfl,by rw [List.take_length]⟩
  · have:=J5 (f:=q9b s) (σ:=Int) (fun k c=>(c,(k : Int))) s.length (fun k c=>c = lenL (s.take k)) (fun r=>r = lenL s) ?_ ?_ (k0:=0) (c0:=0) q0 (by simp [lenL])
    · obtain ⟨b,g,rfl⟩:=this;exact g
    · rintro k c a rfl
      have hb : decide ((k : Int) < (s.length : Int)) = true:=Q7 q0
      obtain ⟨m,l,j⟩:=h _ (Kv a)
      have:=d k
      refine .inl ⟨lenL (s.take (k + 1)),?_,rfl⟩
      simp only [q9b,hb,Q1,Qu a,qj]
      rw [Qm (x:=lenL (s.take k) + s[k].Hi) q0,Qm (x:=lenL (s.take k) + s[k].Hi - _) q0,Qm q0,List.take_succ_eq_append_getElem a,qky]
      have : lenL (s.take k) + s[k].Hi - s[k].Lo = lenL (s.take k) + lenL [s[k]]:=by simp only [lenL];omega
      rw [this];rfl
    · rintro c rfl
      have hb : decide ((s.length : Int) < (s.length : Int)) = false:=Q6 q0
      exact ⟨_,by simp only [q9b,hb,qy];rfl,by rw [List.take_length]⟩
theorem q146 (s : List qk) : qo0 s = some (qfn s)∧qm8 s = some (qfn s):=by
  unfold qo0 qm8 qfn
  simp only [qen,qvu,qj]
  by_cases h : Yv s = 0
  · obtain ⟨d,c⟩:=qem h
    obtain ⟨a,b⟩:=qt0 s d c.1
    have e : (Yv s != 0) = false:=by simpa using h
    simp only [e,qy,a,b,qj]
    simp only [h,if_true]
    exact ⟨trivial,trivial⟩
  · have e : (Yv s != 0) = true:=by simpa using h
    simp only [e,Q1,qp h]
    exact ⟨trivial,trivial⟩
end Go.Sh
set_option maxHeartbeats 4000000
namespace Go.Sh
open Go Go.Am
def sg (a b : Int) : Int:=if a < b then -1 else 0
theorem J9 {a b : Int} : decide (sg a b < 0) = decide (a < b):=by
  unfold sg;by_cases h : a < b <;> simp [h]
def qO (a b : Int) : Option Int:=some (sg a b)
theorem Jh (a b : Int) : qO a b = some (sg a b):=rfl
theorem Jg (a b : Int) : Zc a b = some (decide (a < b)):=by
  unfold Zc q8m
  have : (a != a) = false:=by simp
  simp []
theorem q11i : qdn = q5g:=rfl
theorem qzl : (fun a=>q2v a) = (fun a=>q3t a):=by
  funext a
  simp only [q2v,q3t,q11i]
  all_goals exact K2
theorem qzm  : ∀ a,q2v a = q3t a:=fun a=>(congrFun qzl a)
theorem qzk : (fun a=>q14 a) = (fun a=>q1h a):=by
  funext a
  simp only [q14,q1h,qzm]
  all_goals exact K2
theorem qnj  : ∀ a,q14 a = q1h a:=fun a=>(congrFun qzk a)
theorem q105 : (fun a=>q75 a) = (fun a=>Uc a qO):=by
  funext a a443
  simp only [q75,Uc,Jg,Jh,qj,J9]
  all_goals exact K2
theorem q106  : ∀ a,q75 a = Uc a qO:=fun a=>(congrFun q105 a)
theorem q103 : (fun p2 a=>q74 p2 a) = (fun p2 a=>q1l p2 a qO):=by
  funext p2 a a270
  simp only [q74,q1l,q106]
  all_goals exact K2
theorem q104  : ∀ p2 a,q74 p2 a = q1l p2 a qO:=fun p2 a=>(congrFun (congrFun q103 p2) a)
theorem q101 : (fun b a p2=>q73 b a p2) = (fun b a p2=>q2l qO b a p2):=by
  funext b a p2
  simp only [q73,q2l,q104]
  all_goals exact K2
theorem q102  : ∀ b a p2,q73 b a p2 = q2l qO b a p2:=fun b a p2=>(congrFun (congrFun (congrFun q101 b) a) p2)
theorem q11g : (fun p2 p3=>q7r p2 p3) = (fun p2 p3=>Uf p2 p3 qO):=by
  funext p2 p3 a193
  simp only [q7r,Uf,Jg,Jh,qj,J9]
  all_goals exact K2
theorem q11h  : ∀ p2 p3,q7r p2 p3 = Uf p2 p3 qO:=fun p2 p3=>(congrFun (congrFun q11g p2) p3)
theorem q11f : (fun b a p2 p3=>q4s b a p2 p3) = (fun b a p2 p3=>q12 qO b a p2 p3):=by
  funext b a p2 p3
  simp only [q4s,q12,q11h]
  all_goals exact K2
theorem qnl  : ∀ b a p2 p3,q4s b a p2 p3 = q12 qO b a p2 p3:=fun b a p2 p3=>(congrFun (congrFun (congrFun (congrFun q11f b) a) p2) p3)
theorem qzx : (fun p2 a=>q71 p2 a) = (fun p2 a=>q1j qO p2 a):=by
  funext p2 a a123
  simp only [q71,q1j,qnl]
  all_goals exact K2
theorem qzy  : ∀ p2 a,q71 p2 a = q1j qO p2 a:=fun p2 a=>(congrFun (congrFun qzx p2) a)
theorem qzz : (fun a=>q72 a) = (fun a=>q1k a qO):=by
  funext a a191
  simp only [q72,q1k,qnl]
  all_goals exact K2
theorem q100  : ∀ a,q72 a = q1k a qO:=fun a=>(congrFun qzz a)
theorem qzv : (fun b a p2=>q70 b a p2) = (fun b a p2=>q2k qO b a p2):=by
  funext b a p2
  simp only [q70,q2k,qzy,q100]
  all_goals exact K2
theorem qzw  : ∀ b a p2,q70 b a p2 = q2k qO b a p2:=fun b a p2=>(congrFun (congrFun (congrFun qzv b) a) p2)
theorem q10a : (fun a=>q21 a) = (fun a=>q2m a):=by
  funext a
  simp only [q21,q2m,qnj]
  all_goals exact K2
theorem q10b  : ∀ a,q21 a = q2m a:=fun a=>(congrFun q10a a)
theorem q11j : (fun a=>q22 a) = (fun a=>q2q a):=by
  funext a
  simp only [q22,q2q]
  all_goals exact K2
theorem q11k  : ∀ a,q22 a = q2q a:=fun a=>(congrFun q11j a)
theorem qzr : (fun b p2 a=>q6y b p2 a) = (fun b p2 a=>Ut b p2 a):=by
  funext b p2 a a153
  simp only [q6y,Ut,q11k]
  all_goals exact K2
theorem qzs  : ∀ b p2 a,q6y b p2 a = Ut b p2 a:=fun b p2 a=>(congrFun (congrFun (congrFun qzr b) p2) a)
theorem qzp : (fun b a p2=>q6x b a p2) = (fun b a p2=>q1i qO b a p2):=by
  funext b a p2
  simp only [q6x,q1i,q10b,qzs]
  all_goals exact K2
theorem qzq  : ∀ b a p2,q6x b a p2 = q1i qO b a p2:=fun b a p2=>(congrFun (congrFun (congrFun qzp b) a) p2)
theorem q10c : (fun b a p2 p3=>q3c b a p2 p3) = (fun b a p2 p3=>Uv qO b a p2 p3):=by
  funext b a p2 p3
  simp only [q3c,Uv,Jg,Jh,qj,J9]
  all_goals exact K2
theorem q10d  : ∀ b a p2 p3,q3c b a p2 p3 = Uv qO b a p2 p3:=fun b a p2 p3=>(congrFun (congrFun (congrFun (congrFun q10c b) a) p2) p3)
theorem q107 : (fun b a p2 p3 p4=>q4m b a p2 p3 p4) = (fun b a p2 p3 p4=>Uu qO b a p2 p3 p4):=by
  funext b a p2 p3 p4
  simp only [q4m,Uu,q10d]
  all_goals exact K2
theorem qnk  : ∀ b a p2 p3 p4,q4m b a p2 p3 p4 = Uu qO b a p2 p3 p4:=fun b a p2 p3 p4=>(congrFun (congrFun (congrFun (congrFun (congrFun q107 b) a) p2) p3) p4)
theorem q108 : (fun b a p2=>q3b b a p2) = (fun b a p2=>Ud qO b a p2):=by
  funext b a p2
  simp only [q3b,Ud,qnk]
  all_goals exact K2
theorem q109  : ∀ b a p2,q3b b a p2 = Ud qO b a p2:=fun b a p2=>(congrFun (congrFun (congrFun q108 b) a) p2)
theorem qzt : (fun b a p2=>q6z b a p2) = (fun b a p2=>q2j b a p2 qO):=by
  funext b a p2
  simp only [q6z,q2j,qnk,q109]
  all_goals exact K2
theorem qzu  : ∀ b a p2,q6z b a p2 = q2j b a p2 qO:=fun b a p2=>(congrFun (congrFun (congrFun qzt b) a) p2)
theorem q11e : qam = q2p:=by
  funext a119
  simp only [qam,q2p]
  all_goals exact K2
theorem q11c : (fun b a p2=>q7p b a p2) = (fun b a p2=>q1q qO b a p2):=by
  funext b a p2
  simp only [q7p,q1q,q11e]
  all_goals exact K2
theorem q11d  : ∀ b a p2,q7p b a p2 = q1q qO b a p2:=fun b a p2=>(congrFun (congrFun (congrFun q11c b) a) p2)
theorem q10i : (fun p2 a=>q79 p2 a) = (fun p2 a=>Uw p2 a qO):=by
  funext p2 a a667
  simp only [q79,Uw,Jg,Jh,qj,J9]
  all_goals exact K2
theorem q10j  : ∀ p2 a,q79 p2 a = Uw p2 a qO:=fun p2 a=>(congrFun (congrFun q10i p2) a)
theorem q10k : qa9 = Ux qO:=by
  funext a822
  simp only [qa9,Ux,Jg,Jh,qj,J9]
  all_goals exact K2
theorem q10l : (fun p2 a=>q7a p2 a) = (fun p2 a=>Uy p2 qO a):=by
  funext p2 a a912
  simp only [q7a,Uy,Jg,Jh,qj,J9]
  all_goals exact K2
theorem q10m  : ∀ p2 a,q7a p2 a = Uy p2 qO a:=fun p2 a=>(congrFun (congrFun q10l p2) a)
theorem q10g : (fun p2 a=>q4p p2 a) = (fun p2 a=>J3 p2 qO a):=by
  funext p2 a a432
  have b : @q4p.match_1.{1} = @J3.match_1.{1} Int:=by funext motive m f g;cases m <;> rfl
  unfold q4p J3;rw [b]
  simp only [q10j,q10k,q10m]
  all_goals repeat' first | with_reducible rfl | (congr 1) | funext _
  done
theorem q10h  : ∀ p2 a,q4p p2 a = J3 p2 qO a:=fun p2 a=>(congrFun (congrFun q10g p2) a)
theorem q10e : (fun b a p2=>q4o b a p2) = (fun b a p2=>Ue qO b a p2):=by
  funext b a p2
  have c : @q4o.match_1.{1} = @Ue.match_1.{1} Int:=by funext motive m f g;cases m <;> rfl
  unfold q4o Ue;rw [c]
  simp only [q10h]
  all_goals repeat' first | with_reducible rfl | (congr 1) | funext _
  done
theorem q10f  : ∀ b a p2,q4o b a p2 = Ue qO b a p2:=fun b a p2=>(congrFun (congrFun (congrFun q10e b) a) p2)
theorem q10s : (fun a b=>q7d a b) = (fun a b=>Uz a b qO):=by
  funext a b a360
  simp only [q7d,Uz,Jg,Jh,qj,J9]
  all_goals exact K2
theorem q10t  : ∀ a b,q7d a b = Uz a b qO:=fun a b=>(congrFun (congrFun q10s a) b)
theorem q10u : (fun b a c=>q7e b a c) = (fun b a c=>q10 b a c qO):=by
  funext b a c a439
  simp only [q7e,q10,Jg,Jh,qj,J9]
  all_goals exact K2
theorem q10v  : ∀ b a c,q7e b a c = q10 b a c qO:=fun b a c=>(congrFun (congrFun (congrFun q10u b) a) c)
theorem q10q : (fun a=>q7c a) = (fun a=>q1o a qO):=by
  funext a a304
  simp only [q7c,q1o,q10t,q10v]
  all_goals exact K2
theorem q10r  : ∀ a,q7c a = q1o a qO:=fun a=>(congrFun q10q a)
theorem q10o : (fun b a p2 p3=>q7b b a p2 p3) = (fun b a p2 p3=>q1n qO b a p2 p3):=by
  funext b a p2 p3
  simp only [q7b,q1n,q10r]
  all_goals exact K2
theorem q10p  : ∀ b a p2 p3,q7b b a p2 p3 = q1n qO b a p2 p3:=fun b a p2 p3=>(congrFun (congrFun (congrFun (congrFun q10o b) a) p2) p3)
theorem q10x : (fun p2 d c b p3 a=>q7g p2 d c b p3 a) = (fun p2 d c b p3 a=>q2n p2 d c b p3 a qO):=by
  funext p2 d c b p3 a a159
  simp only [q7g,q2n,Jg,Jh,qj,J9]
  all_goals exact K2
theorem q10y  : ∀ p2 d c b p3 a,q7g p2 d c b p3 a = q2n p2 d c b p3 a qO:=fun p2 d c b p3 a=>(congrFun (congrFun (congrFun (congrFun (congrFun (congrFun q10x p2) d) c) b) p3) a)
theorem q10z : (fun b f d c p3 a=>q7h b f d c p3 a) = (fun b f d c p3 a=>q2o b f d c p3 a qO):=by
  funext b f d c p3 a a239
  simp only [q7h,q2o,Jg,Jh,qj,J9]
  all_goals exact K2
theorem q110  : ∀ b f d c p3 a,q7h b f d c p3 a = q2o b f d c p3 a qO:=fun b f d c p3 a=>(congrFun (congrFun (congrFun (congrFun (congrFun (congrFun q10z b) f) d) c) p3) a)
theorem q113 : (fun a b=>q7j a b) = (fun a b=>Jd a b qO):=by
  funext a b a542
  simp only [q7j,Jd,Jg,Jh,qj,J9]
  all_goals exact K2
theorem q114  : ∀ a b,q7j a b = Jd a b qO:=fun a b=>(congrFun (congrFun q113 a) b)
theorem q115 : (fun b a c=>q7k b a c) = (fun b a c=>Je b a c qO):=by
  funext b a c a622
  simp only [q7k,Je,Jg,Jh,qj,J9]
  all_goals exact K2
theorem q116  : ∀ b a c,q7k b a c = Je b a c qO:=fun b a c=>(congrFun (congrFun (congrFun q115 b) a) c)
theorem q111 : (fun a=>q7i a) = (fun a=>q1p a qO):=by
  funext a a488
  simp only [q7i,q1p,q114,q116]
  all_goals exact K2
theorem q112  : ∀ a,q7i a = q1p a qO:=fun a=>(congrFun q111 a)
theorem q10n : (fun b a p2 p3=>q7f b a p2 p3) = (fun b a p2 p3=>q1m qO b a p2 p3):=by
  funext b a p2 p3
  simp only [q7f,q1m,q10y,q110,q112]
  all_goals exact K2
theorem q10w  : ∀ b a p2 p3,q7f b a p2 p3 = q1m qO b a p2 p3:=fun b a p2 p3=>(congrFun (congrFun (congrFun (congrFun q10n b) a) p2) p3)
theorem q118 : (fun a=>q4q a) = (fun a=>Zs qO a):=by
  funext a a305
  have b : @q4q.match_1.{1} = @Zs.match_1.{1} Int:=by funext motive m f g;cases m <;> rfl
  unfold q4q Zs;rw [b]
  simp only [q102,qzw,qzq,qzu,q11d,q10f,q10p,q10w,Jg,Jh,qj,J9]
  all_goals repeat' first | with_reducible rfl | (congr 1) | funext _
  done
theorem q119  : ∀ a,q4q a = Zs qO a:=fun a=>(congrFun q118 a)
theorem q11a : (fun a c b p2 p3=>q4r a c b p2 p3) = (fun a c b p2 p3=>q11 a qO c b p2 p3):=by
  funext a c b p2 p3
  simp only [q4r,q11,q119]
  all_goals exact K2
theorem q11b  : ∀ a c b p2 p3,q4r a c b p2 p3 = q11 a qO c b p2 p3:=fun a c b p2 p3=>(congrFun (congrFun (congrFun (congrFun (congrFun q11a a) c) b) p2) p3)
theorem q117 : ∀ N,q7o N = Zl N qO:=by
  intro N
  induction N with
  | zero=>rfl
  | succ N ih=>
    funext a b c d
    show q4r (q7o N) a b c d = q11 (Zl N qO) qO a b c d
    rw [ih,q11b]
theorem qzn : (fun a=>U4 a) = (fun a=>q2i qO a):=by
  funext a
  simp only [U4,q2i,qnj,q117]
  all_goals exact K2
theorem qzo  : ∀ a,U4 a = q2i qO a:=fun a=>(congrFun qzn a)
end Go.Sh
