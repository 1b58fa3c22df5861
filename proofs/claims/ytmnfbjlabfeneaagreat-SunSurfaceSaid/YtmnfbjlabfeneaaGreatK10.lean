/- Pg4 Pg5 Pg6 Pj1 Pj2 Pl4 Pj3 Po1 -/
import Derived.Test.YtmnfbjlabfeneaaGreatK9
namespace Go.Sh
open Go Go.Am
section
variable {T : Type} [Inhabited T] {P : T→Prop} {lt : T→T→Bool} {q : T→T→Option Int}
theorem qhv {f : Int→Option (Int ⊕ Int)} (p : T→Bool) (d : Array T) (j : Nat)
    (b : ∀ k : Nat,k≤1000002→f (k : Int) = if (decide (k≤j) && p d[k]!) = true then some (.inl ((k + 1 : Nat) : Int)) else some (.inr (k : Int))) (g : j≤1000000) :
    ∀ (m i : Nat),j + 1 - i = m→i≤1000002→loop f (i : Int) = some ((Sort.scanUp p d j i : Nat) : Int):=by
  intro m
  induction m with
  | zero=>
    intro i c hi;unfold Sort.scanUp;have a : ¬ (decide (i≤j) && p d[i]!) = true:=by simp;omega
    rw [qs a];exact Kd (by rw [b i hi,qs a])
  | succ m ih=>
    intro i c hi;unfold Sort.scanUp;by_cases a : (decide (i≤j) && p d[i]!) = true
    · rw [qq a,Kp (by rw [b i hi,qq a])];exact ih (i + 1) q0 q0
    · rw [qs a];exact Kd (by rw [b i hi,qs a])
theorem qdw {f : Int→Option (Int ⊕ Int)} (p : T→Bool) (d : Array T) (i n : Nat) (hi : 1≤i)
    (b : ∀ k : Nat,k < n→f (k : Int) = if (decide (i≤k) && p d[k]!) = true then some (.inl ((k - 1 : Nat) : Int)) else some (.inr (k : Int))) :
    ∀ (j : Nat),j < n→loop f (j : Int) = some ((Sort.scanDown p d i j : Nat) : Int)
  | 0,hj=>by
    have a : ¬ (decide (i≤0) && p d[0]!) = true:=by simp;omega
    exact Kd (by rw [b 0 hj,qs a];rfl)
  | j + 1,hj=>by
    unfold Sort.scanDown
    by_cases a : (decide (i≤j + 1) && p d[j + 1]!) = true
    · rw [qq a,Kp (by rw [b (j + 1) hj,qq a])]
      exact qdw p d i n hi b j q0
    · rw [qs a]
      exact Kd (by rw [b (j + 1) hj,qs a])
theorem qnv (hq : Ku q lt P) {n : Nat} {d : Array T} (hd : AllP n P d) {a j : Nat} (b : a < n) (m : j < n) (x : Int) (k : Nat) (l : k≤1000002) :
    Jk (x,(j : Int),d.toList) (a : Int) q (k : Int) = if (decide (k≤j) && (fun x=>lt x d[a]!) d[k]!) = true then some (.inl ((k + 1 : Nat) : Int)) else some (.inr (k : Int)):=by
  have g:=hd.1;by_cases h : k≤j
  · obtain ⟨r,f,c⟩:=hq d[k]! d[a]! (hd.2.2 _ q0) (hd.2.2 _ b);have t : decide ((k : Int)≤(j : Int)) = true:=Qb q0;simp only [Jk,t,qz,gx (d:=d) (k:=k) q0,gx (d:=d) (k:=a) q0,qj,f,c,w1p k q0];simp only [Qb h,Bool.true_and,Bool.cond_eq_ite]
  · have t : decide ((k : Int)≤(j : Int)) = false:=Q8 q0;simp only [Jk,t,qy,qj];simp [h]
theorem qnw (hq : Ku q lt P) {n : Nat} {d : Array T} (hd : AllP n P d) {a i : Nat} (c : a < n) (hi : 1≤i) (x y : Int) (k : Nat) (l : k < n) :
    Jl (i : Int) (x,y,d.toList) (a : Int) q (k : Int) = if (decide (i≤k) && (fun x=>!lt x d[a]!) d[k]!) = true then some (.inl ((k - 1 : Nat) : Int)) else some (.inr (k : Int)):=by
  have g:=hd.1;have j:=hd.2.1;by_cases h : i≤k
  · obtain ⟨r,f,b⟩:=hq d[k]! d[a]! (hd.2.2 _ q0) (hd.2.2 _ c);have t : decide ((i : Int)≤(k : Int)) = true:=Qb q0;have w : w64 ((k : Int) - 1) = ((k - 1 : Nat) : Int):=by rw [qv q0];omega
    simp only [Jl,t,qz,gx (d:=d) (k:=k) q0,gx (d:=d) (k:=a) q0,qj,f,b,w];simp only [Qb h,Bool.true_and,Bool.cond_eq_ite]
  · have t : decide ((i : Int)≤(k : Int)) = false:=Q8 q0;simp only [Jl,t,qy,qj];simp [h]
theorem qyl (hq : Ku q lt P) {n : Nat} {d : Array T} (hd : AllP n P d) {a j : Nat} (b : a < n) (m : j < n) (x : Int) (k : Nat) (l : k≤1000002) :
    q11 (x,(j : Int),d.toList) (a : Int) q (k : Int) = if (decide (k≤j) && (fun x=>!lt d[a]! x) d[k]!) = true then some (.inl ((k + 1 : Nat) : Int)) else some (.inr (k : Int)):=by
  have g:=hd.1;by_cases h : k≤j
  · obtain ⟨r,f,c⟩:=hq d[a]! d[k]! (hd.2.2 _ b) (hd.2.2 _ q0);have t : decide ((k : Int)≤(j : Int)) = true:=Qb q0;simp only [q11,t,qz,gx (d:=d) (k:=k) q0,gx (d:=d) (k:=a) q0,qj,f,c,w1p k q0];simp only [Qb h,Bool.true_and,Bool.cond_eq_ite]
  · have t : decide ((k : Int)≤(j : Int)) = false:=Q8 q0;simp only [q11,t,qy,qj];simp [h]
theorem qym (hq : Ku q lt P) {n : Nat} {d : Array T} (hd : AllP n P d) {a i : Nat} (c : a < n) (hi : 1≤i) (x y : Int) (k : Nat) (l : k < n) :
    q12 (i : Int) (x,y,d.toList) (a : Int) q (k : Int) = if (decide (i≤k) && (fun x=>lt d[a]! x) d[k]!) = true then some (.inl ((k - 1 : Nat) : Int)) else some (.inr (k : Int)):=by
  have g:=hd.1;have j:=hd.2.1;by_cases h : i≤k
  · obtain ⟨r,f,b⟩:=hq d[a]! d[k]! (hd.2.2 _ c) (hd.2.2 _ q0);have t : decide ((i : Int)≤(k : Int)) = true:=Qb q0;have w : w64 ((k : Int) - 1) = ((k - 1 : Nat) : Int):=by rw [qv q0];omega
    simp only [q12,t,qz,gx (d:=d) (k:=k) q0,gx (d:=d) (k:=a) q0,qj,f,b,w];simp only [Qb h,Bool.true_and,Bool.cond_eq_ite]
  · have t : decide ((i : Int)≤(k : Int)) = false:=Q8 q0;simp only [q12,t,qy,qj];simp [h]
theorem qyg (hq : Ku q lt P) (a n : Nat) (s : a < n) : ∀ (m i j : Nat) (d : Array T),j + 1 - i = m→AllP n P d→1≤i→i≤n + 1→j < n→
    loop (q1y (a : Int) q) ((i : Int),(j : Int),d.toList) = some (((Sort.partLoop lt a i j d).1 : Int),(Sort.partLoop lt a i j d).2.toList)∧AllP n P (Sort.partLoop lt a i j d).2∧(Sort.partLoop lt a i j d).1 < n:=by
  intro m
  induction m using Nat.strongRecOn with
  | _ m ih=>
    intro i j d hm hd hi y r;have aa:=hd.1;have hn:=hd.2.1;rw [Sort.partLoop_eq];have p:=qhv (f:=Jk ((i : Int),(j : Int),d.toList) (a : Int) q) (fun x=>lt x d[a]!) d j (fun k l=>qnv hq hd s r _ k l) q0 _ i rfl q0;have g1:=Sort.scanUp_ge (fun x=>lt x d[a]!) d j i;have z:=(Sort.scanUp_spec (fun x=>lt x d[a]!) d j _ i rfl).2.1;generalize Sort.scanUp (fun x=>lt x d[a]!) d j i = c at p g1 z ⊢;have o:=qdw (f:=Jl (c : Int) ((i : Int),(j : Int),d.toList) (a : Int) q) (fun x=>!lt x d[a]!) d c n q0 (fun k l=>qnw hq hd s q0 _ _ k l) j r;have v:=Sort.scanDown_le (fun x=>!lt x d[a]!) d c j;generalize Sort.scanDown (fun x=>!lt x d[a]!) d c j = g at o v ⊢;by_cases u : c > g
    · rw [qq u];have t : decide ((c : Int) > (g : Int)) = true:=Qb q0;refine ⟨Kd ?_,hd,by show g < n;omega⟩;simp only [q1y,p,o,qj,t,qz]
    · rw [qs u];have t : decide ((c : Int) > (g : Int)) = false:=Q8 q0;have h:=ih ((g - 1) + 1 - (c + 1)) q0 (c + 1) (g - 1) _ rfl (hd.swp (a:=c) (b:=g) q0 q0) q0 q0 q0;refine ⟨?_,h.2⟩;rw [Kp (a':=(((c + 1 : Nat) : Int),((g - 1 : Nat) : Int),(Sort.swp d c g).toList)) ?_]
      · exact h.1
      · have w : w64 ((g : Int) - 1) = ((g - 1 : Nat) : Int):=by rw [qv q0];omega
        simp only [q1y,p,o,qj,t,qy,gx (d:=d) (k:=c) q0,gx (d:=d) (k:=g) q0,gxs (d:=d) (k:=g) q0,Int.toNat_natCast,gswp,w,w1p c q0]
theorem qyf (hq : Ku q lt P) (a n : Nat) (r : a < n) : ∀ (m i j : Nat) (d : Array T),j + 1 - i = m→AllP n P d→1≤i→i≤n + 1→j < n→
    loop (q1x (a : Int) q) ((i : Int),(j : Int),d.toList) = some (((Sort.partEqLoop lt a i j d).1 : Int),(Sort.partEqLoop lt a i j d).2.toList):=by
  intro m
  induction m using Nat.strongRecOn with
  | _ m ih=>
    intro i j d hm hd hi v p;have z:=hd.1;have hn:=hd.2.1;rw [Sort.partEqLoop_eq];have o:=qhv (f:=q11 ((i : Int),(j : Int),d.toList) (a : Int) q) (fun x=>!lt d[a]! x) d j (fun k h=>qyl hq hd r p _ k h) q0 _ i rfl q0;have g1:=Sort.scanUp_ge (fun x=>!lt d[a]! x) d j i;have y:=(Sort.scanUp_spec (fun x=>!lt d[a]! x) d j _ i rfl).2.1;generalize Sort.scanUp (fun x=>!lt d[a]! x) d j i = c at o g1 y ⊢;have l:=qdw (f:=q12 (c : Int) ((i : Int),(j : Int),d.toList) (a : Int) q) (fun x=>lt d[a]! x) d c n q0 (fun k h=>qym hq hd r q0 _ _ k h) j p;have u:=Sort.scanDown_le (fun x=>lt d[a]! x) d c j;generalize Sort.scanDown (fun x=>lt d[a]! x) d c j = g at l u ⊢;by_cases s : c > g
    · rw [qq s];have t : decide ((c : Int) > (g : Int)) = true:=Qb q0;refine Kd ?_;simp only [q1x,o,l,qj,t,qz]
    · rw [qs s];have t : decide ((c : Int) > (g : Int)) = false:=Q8 q0;rw [Kp (a':=(((c + 1 : Nat) : Int),((g - 1 : Nat) : Int),(Sort.swp d c g).toList)) ?_]
      · exact ih ((g - 1) + 1 - (c + 1)) q0 (c + 1) (g - 1) _ rfl (hd.swp (a:=c) (b:=g) q0 q0) q0 q0 q0
      · have w : w64 ((g : Int) - 1) = ((g - 1 : Nat) : Int):=by rw [qv q0];omega
        simp only [q1x,o,l,qj,t,qy,gx (d:=d) (k:=c) q0,gx (d:=d) (k:=g) q0,gxs (d:=d) (k:=g) q0,Int.toNat_natCast,gswp,w,w1p c q0]
theorem qyi (hq : Ku q lt P) {a b n p : Nat} (hb : b≤n) (c : a < b) (hp : p < n) {d : Array T} (hd : AllP n P d) :
    q1w q d.toList (a : Int) (b : Int) (p : Int) = some (((Sort.partitionEqual lt d a b p).1 : Int),(Sort.partitionEqual lt d a b p).2.toList):=by
  have f:=hd.1;have g:=hd.2.1;have w : w64 ((b : Int) - 1) = ((b - 1 : Nat) : Int):=by rw [qv q0];omega
  have s:=qyf hq a n q0 _ (a + 1) (b - 1) _ rfl (hd.swp (a:=a) (b:=p) q0 hp) q0 q0 q0;unfold q1w Sort.partitionEqual;simp only [gx (d:=d) (k:=p) q0,gx (d:=d) (k:=a) q0,gxs (d:=d) (k:=p) q0,qj,Int.toNat_natCast,gswp,w,w1p a q0,s]
theorem qyj (hq : Ku q lt P) {a b n p : Nat} (hb : b≤n) (s : a < b) (hp : p < n) {d : Array T} (hd : AllP n P d) :
    q1v q d.toList (a : Int) (b : Int) (p : Int) = some (((Sort.partition lt d a b p).1 : Int),(Sort.partition lt d a b p).2.1,(Sort.partition lt d a b p).2.2.toList):=by
  have aa:=hd.1;have hn:=hd.2.1;have w : w64 ((b : Int) - 1) = ((b - 1 : Nat) : Int):=by rw [qv q0];omega
  have h:=hd.swp (a:=a) (b:=p) q0 hp
  have e1 : q2z (b : Int) d.toList (a : Int) d[p]! (p : Int) d[a]! q = Jk ((0 : Int),((b - 1 : Nat) : Int),(Sort.swp d a p).toList) (a : Int) q:=by
    funext k;simp only [q2z,Jk,w,Int.toNat_natCast,gswp]
  have z : ∀ c : Int,q30 c d.toList (a : Int) d[p]! (p : Int) d[a]! q = Jl c ((0 : Int),(0 : Int),(Sort.swp d a p).toList) (a : Int) q:=by
    intro c;funext k;simp only [q30,Jl,Int.toNat_natCast,gswp]
  unfold q1v Sort.partition;simp only [gx (d:=d) (k:=p) q0,gx (d:=d) (k:=a) q0,gxs (d:=d) (k:=p) q0,qj,e1,z,Int.toNat_natCast,gswp,w,w1p a q0];generalize Sort.swp d a p = D at h ⊢;have ac:=h.1;have o:=qhv (f:=Jk ((0 : Int),((b - 1 : Nat) : Int),D.toList) (a : Int) q) (fun x=>lt x D[a]!) D (b - 1) (fun k j=>qnv hq h q0 q0 _ k j) q0 _ (a + 1) rfl q0;have g1:=Sort.scanUp_ge (fun x=>lt x D[a]!) D (b - 1) (a + 1);generalize Sort.scanUp (fun x=>lt x D[a]!) D (b - 1) (a + 1) = c at o g1 ⊢;have l:=qdw (f:=Jl (c : Int) ((0 : Int),(0 : Int),D.toList) (a : Int) q) (fun x=>!lt x D[a]!) D c n q0 (fun k j=>qnw hq h q0 q0 _ _ k j) (b - 1) q0;have v:=Sort.scanDown_le (fun x=>!lt x D[a]!) D c (b - 1);generalize Sort.scanDown (fun x=>!lt x D[a]!) D c (b - 1) = g at l v ⊢;simp only [o,l,qj];by_cases r : c > g
  · have t : decide ((c : Int) > (g : Int)) = true:=Qb q0;simp only [qq r,t,qz,gx (d:=D) (k:=a) q0,gx (d:=D) (k:=g) q0,gxs (d:=D) (k:=a) q0,qj,Int.toNat_natCast,gswp]
  · have t : decide ((c : Int) > (g : Int)) = false:=Q8 q0;have w2 : w64 ((g : Int) - 1) = ((g - 1 : Nat) : Int):=by rw [qv q0];omega
    obtain ⟨s3,m,u⟩:=qyg hq a n q0 _ (c + 1) (g - 1) _ rfl (h.swp (a:=c) (b:=g) q0 q0) q0 q0 q0;simp only [qs r,t,qy,gx (d:=D) (k:=c) q0,gx (d:=D) (k:=g) q0,gxs (d:=D) (k:=g) q0,qj,Int.toNat_natCast,gswp,w2,w1p c q0,s3];generalize Sort.partLoop lt a (c + 1) (g - 1) (Sort.swp D c g) = R at m u ⊢;have y:=m.1;simp only [gx (d:=R.2) (k:=a) q0,gx (d:=R.2) (k:=R.1) q0,gxs (d:=R.2) (k:=a) q0,qj,gswp]
theorem q10o (hq : Ku q lt P) {b n : Nat} (hb : b≤n) {d : Array T} (hd : AllP n P d) (x y : Int) : ∀ (m i : Nat),b - i = m→1≤i→i≤b→
    loop (Uy (b : Int) (x,y,d.toList) q) (i : Int) = some ((Sort.scanSorted lt d b i : Nat) : Int)∧i≤Sort.scanSorted lt d b i∧Sort.scanSorted lt d b i≤b:=by
  have l:=hd.1;have o:=hd.2.1;intro m
  induction m with
  | zero=>
    intro i j hi a;unfold Sort.scanSorted;rw [qs (by simp;omega)];have t : decide ((i : Int) < (b : Int)) = false:=Q8 q0;exact ⟨Kd (by simp only [Uy,t,qy,qj]),Nat.le_refl _,a⟩
  | succ m ih=>
    intro i j hi a;unfold Sort.scanSorted;have t : decide ((i : Int) < (b : Int)) = true:=Qb q0;have w : w64 ((i : Int) - 1) = ((i - 1 : Nat) : Int):=by rw [qv q0];omega
    obtain ⟨r,h,g⟩:=hq d[i]! d[i - 1]! (hd.2.2 _ q0) (hd.2.2 _ q0);by_cases c : lt d[i]! d[i - 1]! = true
    · rw [qs (by simp [c])];refine ⟨Kd ?_,Nat.le_refl _,a⟩;simp only [Uy,t,qz,w,gx (d:=d) (k:=i) q0,gx (d:=d) (k:=i - 1) q0,qj,h,g,c,Bool.not_true,qy]
    · have c : lt d[i]! d[i - 1]! = false:=by simpa using c
      rw [qq (by simp [c];omega)];have f:=ih (i + 1) q0 q0 q0;refine ⟨?_,q0,f.2.2⟩;rw [Kp (a':=((i + 1 : Nat) : Int)) ?_]
      · exact f.1
      · simp only [Uy,t,qz,w,gx (d:=d) (k:=i) q0,gx (d:=d) (k:=i - 1) q0,qj,h,g,c,Bool.not_false,w1p i q0]
theorem qp4 (hq : Ku q lt P) (n : Nat) : ∀ (j : Nat) (d : Array T),AllP n P d→j < n→loop (Uz q) ((j : Int),d.toList) = some (Sort.shiftDown lt j d).toList∧AllP n P (Sort.shiftDown lt j d)
  | 0,d,hd,hj=>by
    have t : decide (((0 : Nat) : Int) ≥ 1) = false:=Q8 q0
    exact ⟨Kd (by simp only [Uz,t,qy];rfl),hd⟩
  | j + 1,d,hd,hj=>by
    have l:=hd.1
    have m:=hd.2.1
    have t : decide (((j + 1 : Nat) : Int) ≥ 1) = true:=Qb q0
    obtain ⟨r,h,f⟩:=hq d[j + 1]! d[j]! (hd.2.2 _ hj) (hd.2.2 _ q0)
    unfold Sort.shiftDown
    by_cases c : lt d[j + 1]! d[j]! = true
    · rw [qs (by simp [c])]
      have g:=qp4 hq n j _ (hd.swp (a:=j + 1) (b:=j) hj q0) q0
      refine ⟨?_,g.2⟩
      rw [Kp (a':=((j : Int),(Sort.swp d (j + 1) j).toList)) ?_]
      · exact g.1
      · simp only [Uz,t,qz,gx (d:=d) (k:=j + 1) q0,w1m j q0,gx (d:=d) (k:=j) q0,gxs (d:=d) (k:=j) q0,qj,h,f,c,Bool.not_true,qy,Int.toNat_natCast,gswp]
    · have c : lt d[j + 1]! d[j]! = false:=by simpa using c
      rw [qq (by simp [c])]
      refine ⟨Kd ?_,hd⟩
      simp only [Uz,t,qz,gx (d:=d) (k:=j + 1) q0,w1m j q0,gx (d:=d) (k:=j) q0,qj,h,f,c,Bool.not_false]
theorem qp6 (hq : Ku q lt P) {b n : Nat} (hb : b≤n) (c : Int) : ∀ (m j : Nat) (d : Array T),b - j = m→AllP n P d→1≤j→loop (q10 (b : Int) q c) ((j : Int),d.toList) = some (c,(Sort.shiftUp lt b j d).toList)∧AllP n P (Sort.shiftUp lt b j d):=by
  intro m
  induction m with
  | zero=>
    intro j d o hd p;unfold Sort.shiftUp;rw [qs q0];have t : decide ((j : Int) < (b : Int)) = false:=Q8 q0;exact ⟨Kd (by simp only [q10,t,qy]),hd⟩
  | succ m ih=>
    intro j d o hd p;have s:=hd.1;have u:=hd.2.1;unfold Sort.shiftUp;rw [qq q0];have t : decide ((j : Int) < (b : Int)) = true:=Qb q0;have w : w64 ((j : Int) - 1) = ((j - 1 : Nat) : Int):=by rw [qv q0];omega
    obtain ⟨r,l,h⟩:=hq d[j]! d[j - 1]! (hd.2.2 _ q0) (hd.2.2 _ q0);by_cases f : lt d[j]! d[j - 1]! = true
    · rw [qs (by simp [f])];have g:=ih (j + 1) _ q0 (hd.swp (a:=j) (b:=j - 1) q0 q0) q0;refine ⟨?_,g.2⟩;rw [Kp (a':=(((j + 1 : Nat) : Int),(Sort.swp d j (j - 1)).toList)) ?_]
      · exact g.1
      · simp only [q10,t,qz,w,gx (d:=d) (k:=j) q0,gx (d:=d) (k:=j - 1) q0,gxs (d:=d) (k:=j - 1) q0,qj,l,h,f,Bool.not_true,qy,Int.toNat_natCast,gswp,w1p j q0]
    · have f : lt d[j]! d[j - 1]! = false:=by simpa using f
      rw [qq (by simp [f])];refine ⟨Kd ?_,hd⟩;simp only [q10,t,qz,w,gx (d:=d) (k:=j) q0,gx (d:=d) (k:=j - 1) q0,qj,l,h,f,Bool.not_false]
theorem qny (hq : Ku q lt P) {a b n : Nat} (hb : b≤n) : ∀ (s i : Nat) (d : Array T),s≤5→AllP n P d→a < i→i≤b→
    ∃ m,loop (J4 (b : Int) q (a : Int)) ((i : Int),((5 - s : Nat) : Int),d.toList) = some m∧(match m with | .inl b441=>some (false,b441) | .inr x1=>some x1) = some ((Sort.partialIns lt a b s i d).2,(Sort.partialIns lt a b s i d).1.toList)
  | 0,i,d,hs,hd,hi,hib=>by
    have t : decide (((5 - 0 : Nat) : Int) < 5) = false:=Q8 q0
    refine ⟨.inl d.toList,Kd (by simp only [J4,t,qy]),rfl⟩
  | s + 1,i,d,hs,hd,hi,hib=>by
    have ae:=hd.1
    have hn:=hd.2.1
    have t : decide (((5 - (s + 1) : Nat) : Int) < 5) = true:=Qb q0
    rw [Sort.partialIns_succ]
    obtain ⟨o,l1,u1⟩:=q10o hq hb hd (i : Int) ((5 - (s + 1) : Nat) : Int) _ i rfl q0 hib
    generalize Sort.scanSorted lt d b i = k at o l1 u1 ⊢
    by_cases z : k = b
    · subst z
      rw [qq rfl]
      refine ⟨.inr (true,d.toList),Kd ?_,rfl⟩
      simp only [J4,t,qz,o,qj,beq_self_eq_true]
    · rw [qs z]
      have tk : ((k : Int) == (b : Int)) = false:=by simp;omega
      have v : w64 ((b : Int) - (a : Int)) = ((b - a : Nat) : Int):=wsub q0 q0
      by_cases l : b - a < 50
      · rw [qq l]
        have g : decide (((b - a : Nat) : Int) < 50) = true:=Qb q0
        refine ⟨.inr (false,d.toList),Kd ?_,rfl⟩
        simp only [J4,t,qz,o,qj,tk,qy,v,g]
      · rw [qs l]
        have g : decide (((b - a : Nat) : Int) < 50) = false:=Q8 q0
        have wk : w64 ((k : Int) - 1) = ((k - 1 : Nat) : Int):=by rw [qv q0];omega
        have wa : w64 ((k : Int) - (a : Int)) = ((k - a : Nat) : Int):=wsub q0 q0
        have wb : w64 ((b : Int) - (k : Int)) = ((b - k : Nat) : Int):=wsub q0 q0
        have j:=hd.swp (a:=k) (b:=k - 1) q0 q0
        have down : (cond (decide (((k - a : Nat) : Int) ≥ 2)) ((loop (Uz q) (((k - 1 : Nat) : Int),(Sort.swp d k (k - 1)).toList)).bind fun x0=>some x0) (some (Sort.swp d k (k - 1)).toList)) = some (Sort.fixDown lt a k (Sort.swp d k (k - 1))).toList∧AllP n P (Sort.fixDown lt a k (Sort.swp d k (k - 1))):=by
          unfold Sort.fixDown;by_cases h : k - a ≥ 2
          · have f : decide (((k - a : Nat) : Int) ≥ 2) = true:=Qb q0;obtain ⟨x,y⟩:=qp4 hq n (k - 1) _ j q0;rw [qq h,f,qz,x];exact ⟨rfl,y⟩
          · have f : decide (((k - a : Nat) : Int) ≥ 2) = false:=Q8 q0;rw [qs h,f,qy];exact ⟨rfl,j⟩
        obtain ⟨dn,c⟩:=down
        have p : AllP n P (Sort.fixUp lt b k (Sort.fixDown lt a k (Sort.swp d k (k - 1)))):=by
          unfold Sort.fixUp;split
          · exact (qp6 hq hb 0 _ (k + 1) _ rfl c q0).2
          · exact c
        obtain ⟨m,r,u⟩:=qny (a:=a) hq hb s k _ q0 p q0 u1
        refine ⟨m,?_,u⟩
        rw [Kp (a':=((k : Int),((5 - s : Nat) : Int),(Sort.fixUp lt b k (Sort.fixDown lt a k (Sort.swp d k (k - 1)))).toList)) ?_]
        · exact r
        · have w5 : w64 (((5 - (s + 1) : Nat) : Int) + 1) = ((5 - s : Nat) : Int):=by rw [qv q0];omega
          simp only [J4,t,qz,o,qj,tk,qy,v,g,wk,gx (d:=d) (k:=k) q0,gx (d:=d) (k:=k - 1) q0,gxs (d:=d) (k:=k - 1) q0,Int.toNat_natCast,gswp,wa,dn,wb,w1p k q0]
          unfold Sort.fixUp
          by_cases h : b - k ≥ 2
          · have f : decide (((b - k : Nat) : Int) ≥ 2) = true:=Qb q0
            obtain ⟨x,y⟩:=qp6 hq hb (k : Int) _ (k + 1) _ rfl c q0
            rw [qq h,f,qz,x]
            simp only [qj,w5]
          · have f : decide (((b - k : Nat) : Int) ≥ 2) = false:=Q8 q0
            rw [qs h,f,qy]
            simp only [qj,w5]
theorem qyh (hq : Ku q lt P) {a b n : Nat} (hb : b≤n) (g : a < b) {d : Array T} (hd : AllP n P d) :
    Uh q d.toList (a : Int) (b : Int) = some ((Sort.partialInsertionSort lt d a b).2,(Sort.partialInsertionSort lt d a b).1.toList):=by
  have h:=hd.2.1;obtain ⟨m,c,f⟩:=qny (a:=a) hq hb 5 (a + 1) d q0 hd q0 q0;have c : loop (J4 (b : Int) q (a : Int)) (((a + 1 : Nat) : Int),0,d.toList) = some m:=c;unfold Uh Sort.partialInsertionSort;rw [w1p a q0,c];exact f
end
end Go.Sh
namespace Go.Sh
open Go Go.Am
theorem qmx {α β : Type} {f : α→Option (α ⊕ β)} {a : α} (h : f a = none) : loop f a = none:=by
  apply Option.ext;intro b;rw [q6j];constructor
  · rintro ⟨n,c⟩
    cases n with
    | zero=>simp [iter] at c
    | succ n=>simp [iter,h] at c
  · intro h;cases h
section
variable {T : Type} [Inhabited T] {P : T→Prop} {lt : T→T→Bool} {q : T→T→Option Int}
def Srt (lt : T→T→Bool) (a b : Nat) (d : Array T) (o : Option (List T)) : Prop:=∃ d' : Array T,o = some d'.toList∧Sort.PermIn a b d d'∧Sort.SortedIn lt a b d'
theorem qyk (hq : Ku q lt P) (hS : Sort.SWO lt) {n N : Nat} (af : List T→Int→Int→Int→Option (List T))
    (am : ∀ (a b f : Nat) (d : Array T),AllP n P d→a≤b→b≤n→f≤1000→Sort.Below lt a b d→Srt lt a b d (af d.toList (a : Int) (b : Int) (f : Int))∨(N≤b - a∧af d.toList (a : Int) (b : Int) (f : Int) = none)) :
    ∀ (m a b f : Nat) (wb wp : Bool) (d : Array T),b - a = m→AllP n P d→a≤b→b≤n→f≤1000→Sort.Below lt a b d→
      Srt lt a b d (loop (Zp q af) ((a : Int),(b : Int),(f : Int),wb,wp,d.toList))∨(N + 1≤b - a∧loop (Zp q af) ((a : Int),(b : Int),(f : Int),wb,wp,d.toList) = none):=by
  intro m
  induction m using Nat.strongRecOn with
  | _ m ih=>
    intro a b f wb wp d hm hd o hb hl hB;have de:=hd.1;have hn:=hd.2.1;have e0 : w64 ((b : Int) - (a : Int)) = ((b - a : Nat) : Int):=wsub o q0;by_cases dd : b - a≤12
    ·
      have t : decide (((b - a : Nat) : Int)≤12) = true:=Qb q0;obtain ⟨x,y⟩:=Sort.insertionSort_holds (lt:=lt) hS d a b o q0;have s:=qvt hq hb o hd;refine .inl ⟨_,Kd ?_,x,y⟩;simp only [Zp,e0,t,qz,s,qj,Uj hd (hd.perm o hb x)]
    have bl : decide (((b - a : Nat) : Int)≤12) = false:=Q8 q0;by_cases h0 : f = 0
    ·
      have t : ((f : Int) == 0) = true:=by simp [h0]
      obtain ⟨x,y⟩:=Sort.heapSort_holds (lt:=lt) hS d a b o q0;have s:=qvb hq hb (by omega : a < b) hd;refine .inl ⟨_,Kd ?_,x,y⟩;simp only [Zp,e0,bl,qy,t,qz,s,qj,Uj hd (hd.perm o hb x)]
    have t0 : ((f : Int) == 0) = false:=by simp [h0]
    have hA : ∃ (l1 : Nat) (d1 : Array T),(cond (!wb) ((q1r q d.toList (a : Int) (b : Int)).bind fun ba=>(K1 ba.length d.toList.length).bind fun cv=>some (w64 ((f : Int) - 1),ba)) (some ((f : Int),d.toList))) = some ((l1 : Int),d1.toList)∧l1≤1000∧AllP n P d1∧Sort.PermIn a b d d1:=by
      cases wb with
      | true=>exact ⟨f,d,rfl,hl,hd,Sort.permIn_refl _ _ _⟩
      | false=>
        have x:=Sort.breakPatterns_holds d a b o q0;have z:=hd.perm o hb x;have w : w64 ((f : Int) - 1) = ((f - 1 : Nat) : Int):=by rw [qv q0];omega
        refine ⟨f - 1,_,?_,q0,z,x⟩;simp only [Bool.not_false,qz,qru (q:=q) hb (by omega : a < b) hd,qj,Uj hd z,w]
    obtain ⟨l1,d1,eA,an,z,p1⟩:=hA;have hC:=qsu hq z (by omega : a < b) hb;obtain ⟨c1,c2⟩:=Sort.choosePivot_holds lt d1 a b q0;generalize (Sort.choosePivot lt d1 a b).1 = c at hC c1 c2;generalize qg8 (Sort.choosePivot lt d1 a b).2 = h at hC
    have hR : ∃ (p : Nat) (h2 : Int) (d2 : Array T),(cond (h == 2) ((q1z q d1.toList (a : Int) (b : Int)).bind fun bd=>(K1 bd.length d1.toList.length).bind fun cr=>some (w64 ((w64 ((b : Int) - 1)) - (w64 ((c : Int) - (a : Int)))),(1 : Int),bd)) (some ((c : Int),h,d1.toList))) = some ((p : Int),h2,d2.toList)∧a≤p∧p < b∧AllP n P d2∧Sort.PermIn a b d1 d2:=by
      cases hh : (h == 2) with
      | false=>exact ⟨c,h,d1,rfl,c1,c2,z,Sort.permIn_refl _ _ _⟩
      | true=>
        have x:=Sort.reverseRange_holds d1 a b o (by rw [z.1];exact hb);have ac:=z.perm o hb x;have w1 : w64 ((b : Int) - 1) = ((b - 1 : Nat) : Int):=by rw [qv q0];omega
        have w2 : w64 ((c : Int) - (a : Int)) = ((c - a : Nat) : Int):=wsub c1 q0;have w3 : w64 (((b - 1 : Nat) : Int) - ((c - a : Nat) : Int)) = ((b - 1 - (c - a) : Nat) : Int):=wsub q0 q0;refine ⟨b - 1 - (c - a),1,_,?_,q0,q0,ac,x⟩;simp only [qz,q10d (q:=q) hb (by omega : a < b) z,qj,Uj z ac,w1,w2,w3]
    obtain ⟨p,h2,d2,eR,hp1,hp2,ac,p2⟩:=hR;have bu : Sort.Below lt a b d2:=(hB.perm q0 p1).perm (by rw [z.1];exact hb) p2;have bo:=Sort.permIn_trans _ _ _ a b p1 p2
    have hP : ∀ cc : Bool,∃ ab : (List T) ⊕ (List T),(cond cc ((Uh q d2.toList (a : Int) (b : Int)).bind fun ag=>(K1 ag.2.length d2.toList.length).bind fun dc=>cond ag.1 (some (.inr ag.2)) (some (.inl ag.2))) (some (.inl d2.toList)) : Option ((List T) ⊕ (List T))) = some ab∧
        ((∃ l : Array T,ab = .inr l.toList∧Sort.PermIn a b d2 l∧Sort.SortedIn lt a b l)∨(∃ l : Array T,ab = .inl l.toList∧AllP n P l∧Sort.PermIn a b d2 l)):=by
      intro cc
      cases cc with
      | false=>exact ⟨_,rfl,.inr ⟨d2,rfl,ac,Sort.permIn_refl _ _ _⟩⟩
      | true=>
        obtain ⟨x,y⟩:=Sort.partialInsertionSort_holds (lt:=lt) hS d2 a b q0 (by rw [ac.1];exact hb) bu;have u:=ac.perm o hb x;have s:=qyh hq hb (by omega : a < b) ac;simp only [qz,s,qj,Uj ac u]
        cases hz : (Sort.partialInsertionSort lt d2 a b).2 with
        | true=>exact ⟨_,rfl,.inl ⟨_,rfl,x,y hz⟩⟩
        | false=>exact ⟨_,rfl,.inr ⟨_,rfl,u,x⟩⟩
    obtain ⟨ab,eP,bq⟩:=hP (wb && wp && (h2 == 1))
    have cn : ∀ {γ : Type} (X : Bool→Option γ),((cond wb (some wp) (some false)).bind fun bs=>(cond bs (some (h2 == 1)) (some false)).bind X) = X (wb && wp && (h2 == 1)):=by
      intro γ X;cases wb <;> cases wp <;> rfl
    have head : Zp q af ((a : Int),(b : Int),(f : Int),wb,wp,d.toList) = (match (generalizing:=false) ab with | .inl b377=>(cond (decide ((a : Int) > 0)) ((idx b377 (w64 ((a : Int) - 1))).bind fun av=>(idx b377 (p : Int)).bind fun ao=>(q av ao).bind fun ar=>some (!(decide (ar < 0)))) (some false)).bind fun bp=>cond bp ((q1w q b377 (a : Int) (b : Int) (p : Int)).bind fun al=>(K1 al.2.length b377.length).bind fun da=>some (.inl (al.1,(b : Int),(l1 : Int),wb,wp,al.2))) ((q1v q b377 (a : Int) (b : Int) (p : Int)).bind fun g=>(K1 g.2.2.length b377.length).bind fun cq=>cond (decide ((w64 (g.1 - (a : Int))) < (w64 ((b : Int) - g.1)))) ((af g.2.2 (a : Int) g.1 (l1 : Int)).bind fun az=>(K1 az.length g.2.2.length).bind fun cy=>some (.inl (w64 (g.1 + 1),(b : Int),(l1 : Int),decide ((w64 (g.1 - (a : Int))) ≥ (w64 (Int.tdiv ((b - a : Nat) : Int) 8))),g.2.1,az))) ((af g.2.2 (w64 (g.1 + 1)) (b : Int) (l1 : Int)).bind fun bc=>(K1 bc.length g.2.2.length).bind fun cx=>some (.inl ((a : Int),g.1,(l1 : Int),decide ((w64 ((b : Int) - g.1)) ≥ (w64 (Int.tdiv ((b - a : Nat) : Int) 8))),g.2.1,bc)))) | .inr x1=>some (.inr x1)):=by
      simp only [Zp,e0,bl,qy,t0,eA,qj,hC,eR,cn,eP]
      clear eP bq hP am ih
      cases ab <;> rfl
    rcases bq with ⟨l,rfl,x,y⟩ | ⟨l,rfl,u,p3⟩
    · refine .inl ⟨l,Kd ?_,Sort.permIn_trans _ _ _ a b bo x,y⟩;rw [head]
    have ax:=u.1;have P3:=Sort.permIn_trans _ _ _ a b bo p3;have B3 : Sort.Below lt a b l:=bu.perm (by rw [ac.1];exact hb) p3
    have bh : (cond (decide ((a : Int) > 0)) ((idx l.toList (w64 ((a : Int) - 1))).bind fun av=>(idx l.toList (p : Int)).bind fun ao=>(q av ao).bind fun ar=>some (!(decide (ar < 0)))) (some false)) = some (decide (a > 0) && !lt l[a - 1]! l[p]!):=by
      by_cases ha : a > 0
      · have ta : decide ((a : Int) > 0) = true:=Qb q0;have w : w64 ((a : Int) - 1) = ((a - 1 : Nat) : Int):=by rw [qv q0];omega
        obtain ⟨r,h1,h2⟩:=hq l[a - 1]! l[p]! (u.2.2 _ q0) (u.2.2 _ q0);simp only [ta,qz,w,gx (d:=l) (k:=a - 1) q0,gx (d:=l) (k:=p) q0,qj,h1,h2,Qb ha,Bool.true_and]
      · have ta : decide ((a : Int) > 0) = false:=Q8 q0;simp only [ta,qy,Q8 ha,Bool.false_and]
    simp only [bh,qj] at head;by_cases hc : (decide (a > 0) && !lt l[a - 1]! l[p]!) = true
    ·
      rw [hc] at head;have s:=qyi hq hb (by omega : a < b) (by omega : p < n) u;simp only [Bool.and_eq_true,decide_eq_true_eq,Bool.not_eq_true'] at hc
      cases hx : Sort.partitionEqual lt l a b p with
      | mk j d4=>
        obtain ⟨g1,g2,ca,cl,ad⟩:=Sort.round_eq hS (Sort.partitionEqual_holds lt) hc.1 hp1 hp2 (by rw [ax];exact hb) B3 hc.2 hx
        have ce : ∀ i,a≤i→i < b→lt l[i]! l[p]! = false:=fun i hi bz=>by
          rcases B3 with h0 | hB
          · omega
          · exact hS.ntrans _ _ _ (hB i hi bz) hc.2
        obtain ⟨_,_,v,_,_⟩:=Sort.partitionEqual_holds lt hS l a b p hp1 hp2 (by rw [ax];exact hb) ce;rw [hx] at v s;have aa:=u.perm o hb v;simp only [qz,s,qj,Uj u aa] at head;rw [Kp head];rcases ih (b - j) q0 j b l1 wb wp d4 rfl aa g2 hb an cl with ⟨R,r0,r1,r2⟩ | ⟨r1,r2⟩
        · obtain ⟨q1,q2⟩:=ad _ r1 r2;exact .inl ⟨R,r0,Sort.permIn_trans _ _ _ a b P3 q1,q2⟩
        · exact .inr ⟨q0,r2⟩
    ·
      have hc : (decide (a > 0) && !lt l[a - 1]! l[p]!) = false:=by simpa using hc
      rw [hc] at head;have s:=qyj hq hb (by omega : a < b) (by omega : p < n) u
      cases hx : Sort.partition lt l a b p with
      | mk j r=>
      cases r with
      | mk ap d4=>
        obtain ⟨g1,g2,ca,bw,cd,bg,ay⟩:=Sort.round_part hS (Sort.partition_holds lt) hp1 hp2 (by rw [ax];exact hb) B3 hx;obtain ⟨_,_,v,_,_⟩:=Sort.partition_holds lt hS l a b p hp1 hp2 (by rw [ax];exact hb);rw [hx] at v s;have aa:=u.perm o hb v;have w1 : w64 ((j : Int) - (a : Int)) = ((j - a : Nat) : Int):=wsub g1 q0;have w2 : w64 ((b : Int) - (j : Int)) = ((b - j : Nat) : Int):=wsub q0 q0;simp only [qy,s,qj,Uj u aa,w1,w2,w1p j q0] at head;by_cases dk : j - a < b - j
        · have tl : decide (((j - a : Nat) : Int) < ((b - j : Nat) : Int)) = true:=Qb q0;simp only [tl,qz] at head;rcases am a j l1 d4 aa g1 q0 an bw with ⟨L,e,aq,bi⟩ | ⟨r1,r2⟩
          · have au:=aa.perm g1 q0 aq;obtain ⟨bj,ad⟩:=bg _ aq bi;simp only [e,qj,Uj aa au] at head;rw [Kp head];rcases ih (b - (j + 1)) q0 (j + 1) b l1 _ _ L rfl au q0 hb an bj with ⟨R,r0,r1,r2⟩ | ⟨r1,r2⟩
            · obtain ⟨q1,q2⟩:=ad _ r1 r2;exact .inl ⟨R,r0,Sort.permIn_trans _ _ _ a b P3 q1,q2⟩
            · exact .inr ⟨q0,r2⟩
          · simp only [r2,Option.bind_none] at head;exact .inr ⟨q0,qmx head⟩
        · have tl : decide (((j - a : Nat) : Int) < ((b - j : Nat) : Int)) = false:=Q8 q0;simp only [tl,qy] at head;rcases am (j + 1) b l1 d4 aa q0 hb an cd with ⟨L,e,aq,bi⟩ | ⟨r1,r2⟩
          · have au:=aa.perm (by omega : j + 1≤b) hb aq;obtain ⟨bj,ad⟩:=ay _ aq bi;simp only [e,qj,Uj aa au] at head;rw [Kp head];rcases ih (j - a) q0 a j l1 _ _ L rfl au g1 q0 an bj with ⟨R,r0,r1,r2⟩ | ⟨r1,r2⟩
            · obtain ⟨q1,q2⟩:=ad _ r1 r2;exact .inl ⟨R,r0,Sort.permIn_trans _ _ _ a b P3 q1,q2⟩
            · exact .inr ⟨q0,r2⟩
          · simp only [r2,Option.bind_none] at head;exact .inr ⟨q0,qmx head⟩
theorem qnz (hq : Ku q lt P) (f : Sort.SWO lt) {n : Nat} : ∀ (N a b c : Nat) (d : Array T),AllP n P d→a≤b→b≤n→c≤1000→Sort.Below lt a b d→
    Srt lt a b d (Zi N q d.toList (a : Int) (b : Int) (c : Int))∨(N≤b - a∧Zi N q d.toList (a : Int) (b : Int) (c : Int) = none)
  | 0,a,b,c,d,_,_,_,_,_=>.inr ⟨q0,rfl⟩
  | N + 1,a,b,c,d,hd,hab,hb,hl,hB=>by
    have h:=qyk hq f (N:=N) (Zi N q) (fun a b c d l g j k m=>qnz hq f N a b c d l g j k m) _ a b c true true d rfl hd hab hb hl hB
    have e : Zi (N + 1) q d.toList (a : Int) (b : Int) (c : Int) = loop (Zp q (Zi N q)) ((a : Int),(b : Int),(c : Int),true,true,d.toList):=by
      show q13 (Zi N q) q d.toList (a : Int) (b : Int) (c : Int) = _;unfold q13;cases loop (Zp q (Zi N q)) ((a : Int),(b : Int),(c : Int),true,true,d.toList) <;> rfl
    rw [e]
    exact h
theorem qpo (hq : Ku q lt P) (v : Sort.SWO lt) (xs : List T) (n : xs.length≤1000000) (u : ∀ x∈xs,P x) :
    ∃ ys,q2u q xs = some ys∧ys.Perm xs∧ys.Pairwise (fun x y=>lt y x = false):=by
  have hd : AllP xs.length P xs.toArray:=by
    refine ⟨qe,n,fun i hi=>?_⟩;have : xs.toArray[i]! = xs[i]:=by simp [hi]
    rw [this];exact u _ (Y7 hi)
  have hk : Sort.bitsLen xs.length≤20:=(Sort.bitsLen_le_iff _ 20).2 q0;have c : ∀ N,_:=fun N=>qnz hq v N 0 xs.length (Sort.bitsLen xs.length) xs.toArray hd q0 q0 q0 (.inl rfl);have z:=c (xs.length + 1);rcases z with ⟨d',e,_,_⟩ | ⟨h,_⟩
  · obtain ⟨r,o⟩:=qw5 (f:=fun N=>Zi N q xs 0 (xs.length : Int) ((Sort.bitsLen xs.length : Nat) : Int)) e;obtain ⟨N,g⟩:=qgk o;have g : Zi N q xs 0 (xs.length : Int) ((Sort.bitsLen xs.length : Nat) : Int) = some r:=g;rcases c N with ⟨a,b,x,y⟩ | ⟨_,b⟩
    · have b : Zi N q xs 0 (xs.length : Int) ((Sort.bitsLen xs.length : Nat) : Int) = some a.toList:=b;rw [g] at b;obtain rfl : r = a.toList:=qbv b;have d : a.size = xs.length:=by rw [x.1];simp
      refine ⟨a.toList,?_,?_,?_⟩
      · unfold q2u;rw [Jc,show ((xs.length : Int) % 18446744073709551616) = (xs.length : Int) by omega,qmt _ n];simp only [qj,o];unfold K1;rw [qq (by simp [d])];rfl
      · have:=x.2.2;have s : a.extract 0 xs.length = a:=by rw [← d];simp
        have p : xs.toArray.extract 0 xs.length = xs.toArray:=by simp
        rw [s,p] at this;exact this
      · rw [List.pairwise_iff_getElem];intro i j hi t k;have l : i < a.size:=by simpa using hi
        have m : j < a.size:=by simpa using t
        have:=y i j q0 k q0;rw [getElem!_pos a i l,getElem!_pos a j m] at this;simpa using this
    · have b : Zi N q xs 0 (xs.length : Int) ((Sort.bitsLen xs.length : Nat) : Int) = none:=b;rw [g] at b;cases b
  · omega
end
end Go.Sh
namespace Go.Sh
open Go Go.Am
theorem q11o : qec = q6b:=rfl
theorem q10p : q35 = q4c:=by
  funext p0;simp only [q35,q4c,q11o]
  all_goals exact K0
theorem qou : q19 = q1q:=by
  funext p0;simp only [q19,q1q,q10p]
  all_goals exact K0
theorem q10z : qan = Uf:=by
  funext p1 q1 a459;simp only [qan,Uf]
  all_goals exact K0
theorem q10y : qam = q1u:=by
  funext p2 p1 q1 a278;simp only [qam,q1u,q10z]
  all_goals exact K0
theorem q10x : qal = q2x:=by
  funext q1 p0 p1 p2;simp only [qal,q2x,q10y]
  all_goals exact K0
theorem q11n : qb5 = Ui:=by
  funext p2 p3 q1 a197;simp only [qb5,Ui]
  all_goals exact K0
theorem qow : q8a = q14:=by
  funext q1 p0 p1 p2 p3;simp only [q8a,q14,q11n]
  all_goals exact K0
theorem q10v : qaj = q1s:=by
  funext q1 p2 p1 a123;simp only [qaj,q1s,qow]
  all_goals exact K0
theorem q10w : qak = q1t:=by
  funext p1 q1 a191;simp only [qak,q1t,qow]
  all_goals exact K0
theorem q10u : qai = q2w:=by
  funext q1 p0 p1 p2;simp only [qai,q2w,q10v,q10w]
  all_goals exact K0
theorem q111 : q2b = q2y:=by
  funext p0;simp only [q2b,q2y,qou]
  all_goals exact K0
theorem q11p : q2c = q32:=by
  funext p0;simp only [q2c,q32]
  all_goals exact K0
theorem q10s : qag = Uv:=by
  funext p1 p2 r101 a153;simp only [qag,Uv,q11p]
  all_goals exact K0
theorem q10r : qaf = q1r:=by
  funext q1 p0 p1 p2;simp only [qaf,q1r,q111,q10s]
  all_goals exact K0
theorem q112 : q56 = Ux:=by
  funext q1 p0 p1 p2 p3;simp only [q56,Ux]
  all_goals exact K0
theorem qov : q7q = Uw:=by
  funext q1 p0 p1 p2 p3 p4;simp only [q7q,Uw,q112]
  all_goals exact K0
theorem q110 : q54 = Ug:=by
  funext q1 p0 p1 p2;simp only [q54,Ug,qov]
  all_goals exact K0
theorem q10t : qah = q2v:=by
  funext p0 p1 p2 p3;simp only [qah,q2v,qov,q110]
  all_goals exact K0
theorem q11m : qb3 = q31:=by
  funext a119;simp only [qb3,q31]
  all_goals exact K0
theorem q11l : qb2 = q1z:=by
  funext q1 p0 p1 p2;simp only [qb2,q1z,q11m]
  all_goals exact K0
theorem q115 : qao = Uy:=by
  funext p2 a438 q1 a681;simp only [qao,Uy]
  all_goals exact K0
theorem q116 : qap = Uz:=by
  funext q1 a838;simp only [qap,Uz]
  all_goals exact K0
theorem q117 : qaq = q10:=by
  funext p2 q1 b684 a928;simp only [qaq,q10]
  all_goals exact K0
theorem q114 : q7s = J4:=by
  funext p2 q1 p1 a438;have a : @q7s.match_1.{1} = @J4.match_1.{1} qk:=by funext motive m f g;cases m <;> rfl
  unfold q7s J4;rw [a];simp only [q115,q116,q117]
theorem q113 : q7r = Uh:=by
  funext q1 p0 p1 p2;have a : @q7r.match_1.{1} = @Uh.match_1.{1} qk:=by funext motive m f g;cases m <;> rfl
  unfold q7r Uh;rw [a];simp only [q114]
theorem q11b : qb0 = q11:=by
  funext a318 p1 q1 a378;simp only [qb0,q11]
  all_goals exact K0
theorem q11c : qb1 = q12:=by
  funext b381 a318 p1 q1 a463;simp only [qb1,q12]
  all_goals exact K0
theorem q11a : qaz = q1x:=by
  funext p1 q1 a318;simp only [qaz,q1x,q11b,q11c]
  all_goals exact K0
theorem q119 : qay = q1w:=by
  funext q1 p0 p1 p2 p3;simp only [qay,q1w,q11a]
  all_goals exact K0
theorem q11d : qat = q2z:=by
  funext p2 p0 p1 v101 p3 v103 q1 a163;simp only [qat,q2z]
  all_goals exact K0
theorem q11e : qau = q30:=by
  funext b166 p0 p1 v101 p3 v103 q1 a249;simp only [qau,q30]
  all_goals exact K0
theorem q11g : qaw = Jk:=by
  funext a514 p1 q1 a572;simp only [qaw,Jk]
  all_goals exact K0
theorem q11h : qax = Jl:=by
  funext b575 a514 p1 q1 a658;simp only [qax,Jl]
  all_goals exact K0
theorem q11f : qav = q1y:=by
  funext p1 q1 a514;simp only [qav,q1y,q11g,q11h]
  all_goals exact K0
theorem q118 : qas = q1v:=by
  funext q1 p0 p1 p2 p3;simp only [qas,q1v,q11d,q11e,q11f]
  all_goals exact K0
theorem q11j : q86 = Zp:=by
  funext q1 rec a309;have a : @q86.match_1.{1} = @Zp.match_1.{1} qk:=by funext motive m f g;cases m <;> rfl
  unfold q86 Zp;rw [a];simp only [q10x,q10u,q10r,q10t,q11l,q113,q119,q118]
theorem q11k : q87 = q13:=by
  funext rec q1 p0 p1 p2 p3;simp only [q87,q13,q11j]
  all_goals exact K0
theorem q11i : ∀ N q,q85 N q = Zi N q:=by
  intro N q
  induction N with
  | zero=>rfl
  | succ N ih=>
    funext a b c d;show q87 (q85 N q) q a b c d = q13 (Zi N q) q a b c d;rw [ih,q11k]
theorem q10q : q7g = q2u:=by
  funext q1 p0;simp only [q7g,q2u,qou,q11i]
  all_goals exact K0
end Go.Sh
namespace Go.Sh
open Go Go.Am
instance : Inhabited qk:=⟨⟨0,0,0⟩⟩
theorem q15g (q : qk→qk→Option Int) (xs : List qk) : q7g q xs = q2u q xs:=by rw [q10q]
def evs (s : List qo) (l : Int) : List qk:=s.flatMap fun t=>[{at_:=t.Lo,list_:=l,by_:=1},{at_:=t.Hi,list_:=l,by_:=-1}]
theorem q99 (s : List qo) (l : Int) : (evs s l).length = 2 * s.length:=by
  induction s with
  | nil=>rfl
  | cons t s ih=>simp only [evs,List.flatMap_cons,List.length_append,List.length_cons,List.length_nil] at ih ⊢;omega
theorem qd3 {s : List qo} {l : Int} {e : qk} (h : e∈evs s l) : e.list_ = l∧(e.by_ = 1∨e.by_ = -1)∧∃ t∈s,e.at_ = t.Lo∨e.at_ = t.Hi:=by
  simp only [evs,List.mem_flatMap] at h;obtain ⟨t,a,h⟩:=h;simp only [List.mem_cons,List.not_mem_nil,or_false] at h;rcases h with rfl | rfl
  · exact ⟨rfl,.inl rfl,t,a,.inl rfl⟩
  · exact ⟨rfl,.inr rfl,t,a,.inr rfl⟩
theorem qkl (s : List qo) (l : Int) (y : List qk) (hs : s.length≤1000) (base : List qk) (hb : base.length≤10000) :
    loop (q5n s (l,y)) (0,base) = some (base ++ evs s l):=by
  have:=U7 (f:=q5n s (l,y)) (σ:=List qk) (fun k c=>((k : Int),c)) s.length (fun k c=>c = base ++ evs (s.take k) l) (fun t=>t = base ++ evs s l) ?_ ?_ (k0:=0) (c0:=base) q0 (by simp [evs])
  · obtain ⟨b,h,rfl⟩:=this;exact h
  · rintro k c d rfl;have a : decide ((k : Int) < (s.length : Int)) = true:=Qb q0;refine .inl ⟨base ++ evs (s.take (k + 1)) l,?_,rfl⟩;have g : (evs (s.take k) l).length≤2000:=by rw [q99,List.length_take];omega
    simp only [q5n,a,qz,Qw d,qj];rw [Y8 (by rw [List.length_append];simp only [List.length_cons,List.length_nil];omega),qj,qv q0,List.take_succ_eq_append_getElem d,List.append_assoc];have : evs (s.take k ++ [s[k]]) l = evs (s.take k) l ++ [{at_:=s[k].Lo,list_:=l,by_:=1},{at_:=s[k].Hi,list_:=l,by_:=-1}]:=by simp only [evs,List.flatMap_append,List.flatMap_cons,List.flatMap_nil,List.append_nil]
    rw [this];rfl
  · rintro c rfl;have a : decide ((s.length : Int) < (s.length : Int)) = false:=Q8 q0;exact ⟨_,by simp only [q5n,a,qy];rfl,by rw [List.take_length]⟩
def ltE (a b : qk) : Bool:=decide (a.at_ < b.at_)
def inE (e : qk) : Prop:=-1000000≤e.at_∧e.at_≤1000000
theorem swoE : Sort.SWO ltE where
  irrefl:=by intro x;simp [ltE]
  trans:=by intro x y z;simp only [ltE,decide_eq_true_eq];omega
  ntrans:=by intro x y z;simp only [ltE,decide_eq_false_iff_not];omega
theorem cmpE : Ku (fun x0 x1=>qbe x0 x1) ltE inE:=by
  rintro x y ⟨a,c⟩ ⟨b,d⟩;refine ⟨x.at_ - y.at_,?_,?_⟩
  · show some (w64 (x.at_ - y.at_)) = _;rw [qv q0]
  · unfold ltE;exact decide_eq_decide.2 q0
theorem q15f (p q : List qo) (hp : p.length≤500) (hq : q.length≤500) (u : ∀ t∈p,vld t) (k : ∀ t∈q,vld t) :
    ∃ ys,qbf [p,q] = some ([p,q],ys)∧ys.Perm (evs p 0 ++ evs q 1)∧ys.Pairwise (fun x y=>x.at_≤y.at_):=by
  have o : ∀ x∈evs p 0 ++ evs q 1,inE x:=by
    intro x n;rcases List.mem_append.1 n with h | h
    · obtain ⟨_,_,t,g,h⟩:=qd3 h;obtain ⟨a,b,c⟩:=u t g;unfold inE;rcases h with h | h <;> omega
    · obtain ⟨_,_,t,g,h⟩:=qd3 h;obtain ⟨a,b,c⟩:=k t g;unfold inE;rcases h with h | h <;> omega
  have v:=q99 p 0;have z:=q99 q 1;obtain ⟨ys,s,j,l⟩:=qpo cmpE swoE (evs p 0 ++ evs q 1) (by rw [List.length_append];omega) o;refine ⟨ys,?_,j,l.imp (fun {x y} h=>by simp only [ltE,decide_eq_false_iff_not] at h;omega)⟩
  have d : loop (q1f [p,q]) (0,[]) = some (evs p 0 ++ evs q 1):=by
    have s0 : q1f [p,q] (0,[]) = some (.inl (1,evs p 0)):=by
      have t : decide ((0 : Int) < (([p,q] : List (List qo)).length : Int)) = true:=rfl;simp only [q1f,t,qz];have : idx [p,q] 0 = some p:=rfl;rw [this];simp only [qj,qkl p 0 [] q0 [] qe,List.nil_append];rfl
    have m : q1f [p,q] (1,evs p 0) = some (.inl (2,evs p 0 ++ evs q 1)):=by
      have t : decide ((1 : Int) < (([p,q] : List (List qo)).length : Int)) = true:=rfl;simp only [q1f,t,qz];have : idx [p,q] 1 = some q:=rfl;rw [this];simp only [qj,qkl q 1 (evs p 0) q0 (evs p 0) q0];rfl
    have r : q1f [p,q] (2,evs p 0 ++ evs q 1) = some (.inr (evs p 0 ++ evs q 1)):=by
      have t : decide ((2 : Int) < (([p,q] : List (List qo)).length : Int)) = false:=rfl;simp only [q1f,t,qy]
    rw [Kp s0,Kp m,Kd r]
  unfold qbf;rw [d];simp only [qj,q15g,s];have le : K1 ys.length (evs p 0 ++ evs q 1).length = some ():=by unfold K1;rw [qq j.length_eq]
  have f : K1 ys.length ys.length = some ():=by unfold K1;rw [qq rfl]
  simp only [le,qj,qe5,f]
def cnt (l : Int) (c : Int→Bool) : List qk→Int
  | []=>0
  | e::es=>(if e.list_ = l∧c e.at_ = true then e.by_ else 0) + cnt l c es
theorem q2p (l : Int) (c : Int→Bool) (a b : List qk) : cnt l c (a ++ b) = cnt l c a + cnt l c b:=by
  induction a with
  | nil=>simp [cnt]
  | cons e a ih=>simp only [List.cons_append,cnt,ih];omega
theorem qk4 {l : Int} {c : Int→Bool} {a b : List qk} (h : a.Perm b) : cnt l c a = cnt l c b:=by
  induction h with
  | nil=>rfl
  | cons x _ ih=>simp only [cnt,ih]
  | swap x y l=>simp only [cnt];omega
  | trans _ _ ih1 ih2=>rw [ih1,ih2]
theorem qk1 {l : Int} {c b : Int→Bool} : ∀ {a : List qk},(∀ e∈a,c e.at_ = b e.at_)→cnt l c a = cnt l b a
  | [],_=>rfl
  | e::a,h=>by simp only [cnt,h e qe,qk1 (fun e d=>h e (List.mem_cons_of_mem _ d))]
theorem qk3 {l : Int} {c : Int→Bool} : ∀ {a : List qk},(∀ e∈a,c e.at_ = false)→cnt l c a = 0
  | [],_=>rfl
  | e::a,h=>by
    simp only [cnt,qk3 (fun e b=>h e (List.mem_cons_of_mem _ b)),h e qe]
    simp
theorem q91 {s : List qo} {l l' : Int} {c : Int→Bool} (h : l≠l') : cnt l c (evs s l') = 0:=by
  induction s with
  | nil=>rfl
  | cons t s ih=>
    have : evs (t::s) l' = [{at_:=t.Lo,list_:=l',by_:=1},{at_:=t.Hi,list_:=l',by_:=-1}] ++ evs s l':=rfl;rw [this,q2p,ih];have a : ¬ l' = l:=fun e=>h e.symm;simp [cnt,a]
theorem qk2 {s : List qo} {l : Int} (v : ∀ t∈s,vld t) (x : Int) : 0≤cnt l (fun a=>decide (a≤x)) (evs s l)∧(0 < cnt l (fun a=>decide (a≤x)) (evs s l)↔has s x):=by
  induction s with
  | nil=>exact ⟨Int.le_refl 0,by simp [evs,cnt,has]⟩
  | cons t s ih=>
    obtain ⟨f,c⟩:=ih (fun t d=>v t (List.mem_cons_of_mem _ d));have b:=v t qe;have : evs (t::s) l = [{at_:=t.Lo,list_:=l,by_:=1},{at_:=t.Hi,list_:=l,by_:=-1}] ++ evs s l:=rfl;rw [this,q2p,Zv,← c];obtain ⟨j,h,g⟩:=b;simp only [cnt,true_and,decide_eq_true_eq];split <;> split <;> omega
theorem qk5 {s : List qo} {l : Int} : cnt l (fun _=>true) (evs s l) = 0:=by
  induction s with
  | nil=>rfl
  | cons t s ih=>
    have : evs (t::s) l = [{at_:=t.Lo,list_:=l,by_:=1},{at_:=t.Hi,list_:=l,by_:=-1}] ++ evs s l:=rfl;rw [this,q2p,ih];simp [cnt]
theorem qfj {l : Int} {c : Int→Bool} : ∀ {a : List qk},(∀ e∈a,e.by_ = 1∨e.by_ = -1)→-(a.length : Int)≤cnt l c a∧cnt l c a≤(a.length : Int)
  | [],_=>by simp [cnt]
  | e::a,h=>by
    obtain ⟨d,f⟩:=qfj (l:=l) (c:=c) (fun e b=>h e (List.mem_cons_of_mem _ b))
    have:=h e qe
    simp only [cnt,List.length_cons]
    split <;> omega
end Go.Sh
namespace Go.Sh
open Go Go.Am
theorem qsw (at_ a : Int) (inn : Bool) (out : List qo) (h : out.length≤10000) :
    qbg at_ inn a out = some (inn,a,if inn = true∧a≠at_ then addS out a at_ else out):=by
  unfold qbg
  cases inn with
  | false=>rfl
  | true=>
    by_cases b : a = at_
    · simp [b]
    · have hb : (a == at_) = false:=by simpa using b
      simp only [Bool.not_true,qy,qj,hb];rw [qq ⟨trivial,b⟩];rcases qe6 out with rfl | ⟨d,t,rfl⟩
      · rfl
      · have l : (d ++ [t]).length = d.length + 1:=by simp
        have j : decide (((d ++ [t]).length : Int) > 0) = true:=Qb q0;have g : w64 (((d ++ [t]).length : Int) - 1) = (d.length : Int):=by rw [qv q0];omega
        have k : idx (d ++ [t]) (d.length : Int) = some t:=by
          rw [Qw q0];simp
        simp only [j,qz,g,k,qj];by_cases c : t.Hi = a
        · subst c;simp only [beq_self_eq_true,qz,qc1,Int.toNat_natCast,qoz]
        · have f : (t.Hi == a) = false:=by simpa using c
          simp only [f,qy,qc2 c];rw [Y8 (by simp;omega)];rfl
open Classical in
structure qra (f : Bool→Bool→Bool) (p q : List qo) (ys : List qk) (k : Nat) (c : List Int × Int × Bool × List qo) : Prop where
  opn : c.1 = [cnt 0 (fun _=>true) (ys.take k),cnt 1 (fun _=>true) (ys.take k)]
  inn : c.2.2.1 = f (decide (0 < cnt 0 (fun _=>true) (ys.take k))) (decide (0 < cnt 1 (fun _=>true) (ys.take k)))
  lst : ∀ (h : k - 1 < ys.length),0 < k→c.2.1 = ys[k - 1].at_
  can : Can c.2.2.2
  his : ∀ t∈c.2.2.2,t.Hi≤c.2.1
  zro : k = 0→c.2.2.2 = []
  pts : ∀ x,has c.2.2.2 x↔0 < k∧x < c.2.1∧f (decide (has p x)) (decide (has q x)) = true
  len : c.2.2.2.length≤k
theorem qrb (c : List qo) (a b : Int) : (addS c a b).length≤c.length + 1:=by
  rcases qe6 c with rfl | ⟨d,t,rfl⟩
  · simp [qj1]
  · by_cases h : t.Hi = a
    · subst h;rw [qc1];simp
    · rw [qc2 h];simp
theorem qk0 {p q : List qo} {ys : List qk} (hp : ∀ t∈p,vld t) (hq : ∀ t∈q,vld t) (b : ys.Perm (evs p 0 ++ evs q 1)) (_ : ys.Pairwise (fun x y=>x.at_≤y.at_)) (k : Nat) (x : Int)
    (f : ∀ i (h : i < ys.length),i < k→ys[i].at_≤x) (d : ∀ i (h : i < ys.length),k≤i→x < ys[i].at_) :
    (0 < cnt 0 (fun _=>true) (ys.take k)↔has p x)∧(0 < cnt 1 (fun _=>true) (ys.take k)↔has q x):=by
  have key : ∀ l,cnt l (fun _=>true) (ys.take k) = cnt l (fun a=>decide (a≤x)) (evs p 0) + cnt l (fun a=>decide (a≤x)) (evs q 1):=by
    intro l;rw [← q2p,← qk4 b]
    conv=>rhs;rw [← List.take_append_drop k ys]
    rw [q2p]
    have m : cnt l (fun a=>decide (a≤x)) (ys.drop k) = 0:=by
      refine qk3 fun e c=>?_;obtain ⟨i,hi,rfl⟩:=List.mem_iff_getElem.1 c;rw [List.getElem_drop];rw [List.length_drop] at hi;have:=d (k + i) q0 q0;exact Q8 q0
    have n : cnt l (fun a=>decide (a≤x)) (ys.take k) = cnt l (fun _=>true) (ys.take k):=by
      refine qk1 fun e c=>?_;obtain ⟨i,hi,rfl⟩:=List.mem_iff_getElem.1 c;rw [List.getElem_take];rw [List.length_take] at hi;exact Qb (f i q0 q0)
    rw [m,n];omega
  rw [key 0,key 1,q91 (l:=0) (l':=1) Q3,q91 (l:=1) (l':=0) Q3];have j:=qk2 (l:=0) hp x;have g:=qk2 (l:=1) hq x;rw [Int.add_zero,Int.zero_add];exact ⟨j.2,g.2⟩
open Classical in
theorem qvx (f : Bool→Bool→Bool) (hf : f false false = false) (p2 : Bool→Bool→Option Bool) (hp2 : ∀ a b,p2 a b = some (f a b)) (p q : List qo)
    (hp : p.length≤500) (hq : q.length≤500) (vp : ∀ t∈p,vld t) (vq : ∀ t∈q,vld t) :
    ∃ out,q8i p q p2 = some out∧Can out∧∀ x,has out x↔f (decide (has p x)) (decide (has q x)) = true:=by
  obtain ⟨ys,e1,g,hs⟩:=q15f p q hp hq vp vq;have bg : ys.length≤2000:=by rw [g.length_eq,List.length_append,q99,q99];omega
  have y : ∀ i j (hi : i < ys.length) (hj : j < ys.length),i≤j→ys[i].at_≤ys[j].at_:=by
    intro i j hi hj bo;rcases Nat.lt_or_ge i j with h | h
    · exact List.pairwise_iff_getElem.1 hs i j hi hj h
    · obtain rfl : i = j:=by omega
      exact Int.le_refl _
  have z : ∀ e∈ys,(e.list_ = 0∨e.list_ = 1)∧(e.by_ = 1∨e.by_ = -1):=by
    intro e he;rcases List.mem_append.1 (g.mem_iff.1 he) with h | h
    · obtain ⟨a,b,_⟩:=qd3 h;exact ⟨.inl a,b⟩
    · obtain ⟨a,b,_⟩:=qd3 h;exact ⟨.inr a,b⟩
  have:=U7 (f:=q5o ([p,q],ys) p2) (σ:=List Int × Int × Bool × List qo) (fun k c=>((k : Int),c)) ys.length (qra f p q ys) (fun out=>Can out∧∀ x,has out x↔f (decide (has p x)) (decide (has q x)) = true) ?_ ?_ (k0:=0) (c0:=([0,0],0,false,[])) q0 ?_
  · obtain ⟨out,r,m⟩:=this;refine ⟨out,?_,m⟩;unfold q8i;have r : loop (q5o ([p,q],ys) p2) (0,[0,0],0,false,[]) = some out:=r;rw [e1];simp only [qj,r];rfl
  · rintro k ⟨opn,d,inn,out⟩ hk ⟨s1,s2,s3,s4,s5,s6,s7,s8⟩;simp only at s1 s2 s3 s4 s5 s6 s7 s8;have af : decide ((k : Int) < (ys.length : Int)) = true:=Qb q0;have bf:=qsw ys[k].at_ d inn out q0;have hm:=z ys[k] (Y7 hk);have bd : ys.take (k + 1) = ys.take k ++ [ys[k]]:=List.take_succ_eq_append_getElem hk;have al : ∀ e∈ys.take k,e.by_ = 1∨e.by_ = -1:=fun e he=>(z e (List.mem_of_mem_take he)).2;have b0:=qfj (l:=0) (c:=fun _=>true) al;have b1:=qfj (l:=1) (c:=fun _=>true) al;have av : (ys.take k).length = k:=by rw [List.length_take];omega
    rw [av] at b0 b1
    have ae : ∃ v,idxA 2 opn ys[k].list_ = some v∧opn.set ys[k].list_.toNat (w64 (v + ys[k].by_)) = [cnt 0 (fun _=>true) (ys.take (k + 1)),cnt 1 (fun _=>true) (ys.take (k + 1))]:=by
      subst s1;rw [bd,q2p,q2p];rcases hm.1 with h | h
      · refine ⟨cnt 0 (fun _=>true) (ys.take k),by rw [h];rfl,?_⟩;rw [h,qv q0];simp [cnt,h]
      · refine ⟨cnt 1 (fun _=>true) (ys.take k),by rw [h];rfl,?_⟩;rw [h,qv q0];simp [cnt,h]
    obtain ⟨v,o1,o2⟩:=ae;refine .inl ⟨([cnt 0 (fun _=>true) (ys.take (k + 1)),cnt 1 (fun _=>true) (ys.take (k + 1))],ys[k].at_,f (decide (0 < cnt 0 (fun _=>true) (ys.take (k + 1)))) (decide (0 < cnt 1 (fun _=>true) (ys.take (k + 1)))),if inn = true∧d≠ys[k].at_ then addS out d ys[k].at_ else out),?_,?_⟩
    · have x0 : ∀ a b : Int,idxA 2 [a,b] 0 = some a:=fun a b=>rfl;have x1 : ∀ a b : Int,idxA 2 [a,b] 1 = some b:=fun a b=>rfl;simp only [q5o,af,qz,Qw hk,qj,bf,o1,o2,x0,x1,hp2];rw [qv q0];rfl
    · have ad : ∀ x,(0 < k→d≤x)→∀ i (h : i < ys.length),i < k→ys[i].at_≤x:=by
        intro x o i hi ap;have:=s3 q0 q0;have:=y i (k - 1) hi q0 q0;have:=o q0;omega
      have ac : ∀ x,x < ys[k].at_→∀ i (h : i < ys.length),k≤i→x < ys[i].at_:=by
        intro x o i hi ap;have:=y k i hk hi ap;omega
      have hF : ∀ x,(0 < k→d≤x)→x < ys[k].at_→f (decide (has p x)) (decide (has q x)) = inn:=by
        intro x o au;obtain ⟨c1,c2⟩:=qk0 vp vq g hs k x (ad x o) (ac x au);rw [s2,decide_eq_decide.2 c1,decide_eq_decide.2 c2]
      have n : 0 < k→d≤ys[k].at_:=by
        intro u;rw [s3 q0 u];exact y (k - 1) k q0 hk q0
      have aa : k = 0→inn = false:=by
        intro u;subst u;rw [s2];exact hf
      by_cases s : inn = true∧d≠ys[k].at_
      · have ak : 0 < k:=by
          rcases Nat.eq_zero_or_pos k with h | h
          · rw [aa h] at s;cases s.1
          · exact h
        have hl:=n ak;have bc : d < ys[k].at_:=by have:=s.2;omega
        obtain ⟨d1,d2,d3,d4⟩:=qj2 s4 s5 bc;constructor
        · rfl
        · rfl
        · intro h _;rfl
        · simp only [qq s];exact d1
        · simp only [qq s];exact d3
        · omega
        · intro x;simp only [qq s];rw [d2,s7];constructor
          · rintro (⟨u,r,m⟩ | ⟨r,m⟩)
            · exact ⟨q0,q0,m⟩
            · exact ⟨q0,m,by rw [hF x (fun _=>r) m];exact s.1⟩
          · rintro ⟨u,r,m⟩;by_cases o : x < d
            · exact .inl ⟨ak,o,m⟩
            · exact .inr ⟨q0,r⟩
        · simp only [qq s];have:=qrb out d ys[k].at_;omega
      · constructor
        · rfl
        · rfl
        · intro h _;rfl
        · simp only [qs s];exact s4
        · simp only [qs s];intro t ht;rcases Nat.eq_zero_or_pos k with h | h
          · rw [s6 h] at ht;cases ht
          · have:=s5 t ht;have:=n h;omega
        · omega
        · intro x;simp only [qs s];rw [s7];constructor
          · rintro ⟨u,r,m⟩;exact ⟨q0,by have:=n u;omega,m⟩
          · rintro ⟨u,r,m⟩;by_cases o : 0 < k∧x < d
            · exact ⟨o.1,o.2,m⟩
            · have am : 0 < k→d≤x:=fun h=>by
                refine Int.not_lt.1 fun h'=>o ⟨h,h'⟩
              have:=hF x am r;rw [this] at m;refine absurd ⟨m,?_⟩ s;intro e;rcases Nat.eq_zero_or_pos k with h | h
              · rw [aa h] at m;cases m
              · have:=am h;omega
        · simp only [qs s];omega
  · rintro ⟨opn,d,inn,out⟩ ⟨s1,s2,s3,s4,s5,s6,s7,s8⟩;simp only at s1 s2 s3 s4 s5 s6 s7 s8;have af : decide ((ys.length : Int) < (ys.length : Int)) = false:=Q8 q0;refine ⟨out,by simp only [q5o,af,qy],s4,fun x=>?_⟩;rw [s7];constructor
    · rintro ⟨_,_,h⟩;exact h
    · intro h;by_cases o : 0 < ys.length∧x < d
      · exact ⟨o.1,o.2,h⟩
      · obtain ⟨c1, c2⟩ := qk0 vp vq g hs ys.length x (fun i hi _ => by
            have:=s3 q0 q0;have:=y i (ys.length - 1) hi q0 q0;have : d≤x:=Int.not_lt.1 fun h'=>o ⟨q0,h'⟩
            omega) (fun i hi bl=>q0)
        have az : ∀ l,cnt l (fun _=>true) (ys.take ys.length) = 0:=by
          intro l;rw [List.take_length,qk4 g,q2p];by_cases u : l = 0
          · subst u;rw [qk5,q91 Q3];rfl
          · rw [q91 u];by_cases r : l = 1
            · subst r;rw [qk5];rfl
            · rw [q91 r];rfl
        rw [az] at c1 c2;have n1 : ¬ has p x:=fun h=>absurd (c1.2 h) Q3;have n2 : ¬ has q x:=fun h=>absurd (c2.2 h) Q3;rw [Q8 n1,Q8 n2,hf] at h;cases h
  · constructor
    · simp [cnt]
    · simp [cnt,hf]
    · intro h u;omega
    · exact ⟨fun t ht=>(by cases ht),.nil⟩
    · intro t ht;cases ht
    · intro _;rfl
    · intro x;simp [has]
    · simp
end Go.Sh
namespace Go.Sh
open Go Go.Am
theorem qss {s : List qo} (h : Us s = 0) : s.length≤400∧Good s:=by
  unfold Us at h;split at h
  · cases h
  · split at h
    · rename_i b a;exact ⟨q0,a⟩
    · cases h
def dst (x : Int) (t : qo) : Int:=max (max (t.Lo - x) (x - t.Hi + 1)) 0
def qf2 (s : List qo) (x m : Int) : Prop:=(∃ t∈s,m = dst x t)∧∀ t∈s,m≤dst x t
theorem qf2.unique {s : List qo} {x m n : Int} (h : qf2 s x m) (b : qf2 s x n) : m = n:=by
  obtain ⟨⟨t,f,e⟩,c⟩:=h;obtain ⟨⟨u,d,g⟩,a⟩:=b;have:=c u d;have:=a t f;omega
end Go.Sh
namespace Go.Sh
open Go Go.Am
noncomputable def q4i (kind : Int) (p q : List qo) : List qo:=(qdf kind p q).getD []
theorem q9f (kind : Int) (p q : List qo) (hp : p.length≤100000) (hq : q.length≤100000) : qdf kind p q = some (q4i kind p q)∧qf1 kind p q (q4i kind p q):=by
  obtain ⟨out,a,b⟩:=qw3 kind p q hp hq;unfold q4i;rw [a];exact ⟨rfl,b⟩
theorem qvq (s : List qo) (b : qo→Option Bool) (c : qo→Bool) (h : ∀ t,b t = some (c t)) (q : s.length≤1000000) :
    ∃ r,qae s b = some r∧decide (r ≥ 0) = s.any c:=by
  have:=U7 (f:=q3j s b) (σ:=Unit) (fun k _=>(k : Int)) s.length (fun k _=>∀ i (h : i < s.length),i < k→c s[i] = false)
    (fun m=>∃ r : Int,(match m with | .inl b22=>some (-1) | .inr x1=>some x1) = some r∧decide (r ≥ 0) = s.any c) ?_ ?_ (k0:=0) (c0:=()) q0 (fun i _ hi=>q0)
  · obtain ⟨m,j,r,l,o⟩:=this;have j : loop (q3j s b) 0 = some m:=j;exact ⟨r,by unfold qae;rw [j];exact l,o⟩
  · rintro k _ g hi;have hb : decide ((k : Int) < (s.length : Int)) = true:=Qb q0
    cases d : c s[k] with
    | true=>
      refine .inr ⟨.inr (k : Int),?_,(k : Int),rfl,?_⟩
      · simp only [q3j,hb,qz,Qw g,qj,h,d]
      · have : s.any c = true:=List.any_eq_true.2 ⟨s[k],Y7 g,d⟩;rw [this];exact Qb q0
    | false=>
      refine .inl ⟨(),?_,?_⟩
      · simp only [q3j,hb,qz,Qw g,qj,h,d,qy];rw [qv q0];rfl
      · intro i a p;by_cases e : i = k
        · subst e;exact d
        · exact hi i a q0
  · rintro _ hi;have hb : decide ((s.length : Int) < (s.length : Int)) = false:=Q8 q0;refine ⟨.inl (),by simp only [q3j,hb,qy],-1,rfl,?_⟩
    have : s.any c = false:=by
      rw [List.any_eq_false];intro t n;obtain ⟨i,a,rfl⟩:=List.mem_iff_getElem.1 n;simp [hi i a a]
    rw [this];rfl
theorem qte (s : List qo) (a : qo→Option Bool) (c : qo→Bool) (h : ∀ t,a t = some (c t)) (b : s.length≤1000000) : qac s a = some (s.any c):=by
  obtain ⟨r,f,d⟩:=qvq s a c h b;unfold qac;rw [f,qj,d]
open Classical in
noncomputable def qgn (s : List qo) : List qo × Int:=if 400 < s.length then ([],4) else if ∀ t∈s,vld t then (q4i 2 s [],0) else ([],8)
theorem qwl (s : List qo) (k : s.length≤400) (c : ∀ t∈s,vld t) (p2 : Bool→Bool→Option Bool) (hp2 : ∀ a b,p2 a b = some a) : q8i s [] p2 = some (q4i 2 s []):=by
  classical
  obtain ⟨out,f,d,h⟩:=qvx (fun a _=>a) rfl p2 hp2 s [] q0 qe c (fun t g=>by cases g);obtain ⟨_,j⟩:=q9f 2 s [] q0 qe;rw [f];congr 1;refine q8z d j.can fun x=>?_;rw [h,j.pts];simp [Yg,q20]
theorem qwk (s : List qo) : q8h s = some (qgn s):=by
  classical
  unfold q8h qgn;by_cases f : 400 < s.length
  · have e : decide ((s.length : Int) > 400) = true:=Qb q0;rw [e,qq f];rfl
  · have e : decide ((s.length : Int) > 400) = false:=Q8 q0;rw [e,qs f,qy,qte s _ (fun t=>!decide (vld t)) (fun t=>by show (q3p t).bind _ = _;rw [qqr];rfl) q0,qj];by_cases c : ∀ t∈s,vld t
    · have : (s.any fun t=>!decide (vld t)) = false:=by
        rw [List.any_eq_false];intro t d;simp [c t d]
      rw [this,qy,qq c,qwl s q0 c (fun x0 x1=>qbd x0 x1) (fun a b=>rfl)];rfl
    · have : (s.any fun t=>!decide (vld t)) = true:=by
        rw [List.any_eq_true];obtain ⟨t,c⟩:=Classical.not_forall.1 c;obtain ⟨d,h⟩:=Classical.not_imp.1 c;exact ⟨t,d,by simp [h]⟩
      rw [this,qz,qs c]
def lenL : List qo→Int
  | []=>0
  | t::s=>(t.Hi - t.Lo) + lenL s
theorem qmr (a b : List qo) : lenL (a ++ b) = lenL a + lenL b:=by
  induction a with
  | nil=>simp [lenL]
  | cons t a ih=>simp only [List.cons_append,lenL,ih];omega
theorem qms : ∀ {s : List qo},(∀ t∈s,vld t)→0≤lenL s∧lenL s≤2000000 * (s.length : Int)
  | [],_=>by simp [lenL]
  | t::s,h=>by
    obtain ⟨d,b⟩:=qms (fun t a=>h t (List.mem_cons_of_mem _ a))
    obtain ⟨g,f,c⟩:=h t qe
    simp only [lenL,List.length_cons]
    omega
noncomputable def qgj (s : List qo) : Int × Int:=if Us s = 0 then (lenL s,0) else (0,Us s)
theorem qw4 (s : List qo) (o : s.length≤400) (g : ∀ t∈s,vld t) : loop (qbc s) (0,0) = some (lenL s)∧loop (q9p s) (0,0) = some (lenL s):=by
  have d : ∀ k,0≤lenL (s.take k)∧lenL (s.take k)≤800000000:=by
    intro k;have:=qms (s:=s.take k) (fun t n=>g t (List.mem_of_mem_take n));have : (s.take k).length≤400:=by rw [List.length_take];omega
    omega
  constructor
  · have:=U7 (f:=qbc s) (σ:=Int) (fun k c=>(c,(k : Int))) s.length (fun k c=>c = lenL (s.take k)) (fun r=>r = lenL s) ?_ ?_ (k0:=0) (c0:=0) q0 (by simp [lenL])
    · obtain ⟨b,h,rfl⟩:=this;exact h
    · rintro k c a rfl;have hb : decide ((k : Int) < (s.length : Int)) = true:=Qb q0;obtain ⟨m,l,j⟩:=g _ (Y7 a);have:=d k;refine .inl ⟨lenL (s.take (k + 1)),?_,rfl⟩;simp only [qbc,hb,qz,Qw a,qj];rw [qv (x:=s[k].Hi - s[k].Lo) q0,qv (x:=lenL (s.take k) + _) q0,qv q0,List.take_succ_eq_append_getElem a,qmr];simp only [lenL,Int.add_zero];rfl
    · rintro c rfl;have hb : decide ((s.length : Int) < (s.length : Int)) = false:=Q8 q0;exact ⟨_,by simp only [qbc,hb,qy];rfl,by rw [List.take_length]⟩
  · have:=U7 (f:=q9p s) (σ:=Int) (fun k c=>(c,(k : Int))) s.length (fun k c=>c = lenL (s.take k)) (fun r=>r = lenL s) ?_ ?_ (k0:=0) (c0:=0) q0 (by simp [lenL])
    · obtain ⟨b,h,rfl⟩:=this;exact h
    · rintro k c a rfl;have hb : decide ((k : Int) < (s.length : Int)) = true:=Qb q0;obtain ⟨m,l,j⟩:=g _ (Y7 a);have:=d k;refine .inl ⟨lenL (s.take (k + 1)),?_,rfl⟩;simp only [q9p,hb,qz,Qw a,qj];rw [qv (x:=lenL (s.take k) + s[k].Hi) q0,qv (x:=lenL (s.take k) + s[k].Hi - _) q0,qv q0,List.take_succ_eq_append_getElem a,qmr];have : lenL (s.take k) + s[k].Hi - s[k].Lo = lenL (s.take k) + lenL [s[k]]:=by simp only [lenL];omega
      rw [this];rfl
    · rintro c rfl;have hb : decide ((s.length : Int) < (s.length : Int)) = false:=Q8 q0;exact ⟨_,by simp only [q9p,hb,qy];rfl,by rw [List.take_length]⟩
theorem q17m (s : List qo) : qps s = some (qgj s)∧qo6 s = some (qgj s):=by
  unfold qps qo6 qgj;simp only [qjw,qyx,qj];by_cases h : Us s = 0
  · obtain ⟨c,d⟩:=qss h;obtain ⟨a,b⟩:=qw4 s c d.1;have e : (Us s != 0) = false:=by simpa using h
    simp only [e,qy,a,b,qj];simp only [h,if_true];exact ⟨trivial,trivial⟩
  · have e : (Us s != 0) = true:=by simpa using h
    simp only [e,qz,qs h];exact ⟨trivial,trivial⟩
end Go.Sh
set_option maxHeartbeats 4000000
namespace Go.Sh
open Go Go.Am
def sg (a b : Int) : Int:=if a < b then -1 else 0
theorem Ja {a b : Int} : decide (sg a b < 0) = decide (a < b):=by
  unfold sg;by_cases h : a < b <;> simp [h]
def qO (a b : Int) : Option Int:=some (sg a b)
theorem Jo (a b : Int) : qO a b = some (sg a b):=rfl
theorem Jn (a b : Int) : Zc a b = some (decide (a < b)):=by
  unfold Zc q90;have : (a != a) = false:=by simp
  simp []
theorem q14r : qec = q6b:=rfl
theorem q12u : (fun a=>q35 a) = (fun a=>q4c a):=by
  funext a;simp only [q35,q4c,q14r]
  all_goals exact K0
theorem q12v  : ∀ a,q35 a = q4c a:=fun a=>(congrFun q12u a)
theorem q12t : (fun a=>q19 a) = (fun a=>q1q a):=by
  funext a;simp only [q19,q1q,q12v]
  all_goals exact K0
theorem qpg  : ∀ a,q19 a = q1q a:=fun a=>(congrFun q12t a)
theorem q13e : (fun a=>q7p a) = (fun a=>Uf a qO):=by
  funext a a443;simp only [q7p,Uf,Jn,Jo,qj,Ja]
  all_goals exact K0
theorem q13f  : ∀ a,q7p a = Uf a qO:=fun a=>(congrFun q13e a)
theorem q13c : (fun p2 a=>q7o p2 a) = (fun p2 a=>q1u p2 a qO):=by
  funext p2 a a270;simp only [q7o,q1u,q13f]
  all_goals exact K0
theorem q13d  : ∀ p2 a,q7o p2 a = q1u p2 a qO:=fun p2 a=>(congrFun (congrFun q13c p2) a)
theorem q13a : (fun b a p2=>q7n b a p2) = (fun b a p2=>q2x qO b a p2):=by
  funext b a p2;simp only [q7n,q2x,q13d]
  all_goals exact K0
theorem q13b  : ∀ b a p2,q7n b a p2 = q2x qO b a p2:=fun b a p2=>(congrFun (congrFun (congrFun q13a b) a) p2)
theorem q14p : (fun p2 p3=>q8b p2 p3) = (fun p2 p3=>Ui p2 p3 qO):=by
  funext p2 p3 a193;simp only [q8b,Ui,Jn,Jo,qj,Ja]
  all_goals exact K0
theorem q14q  : ∀ p2 p3,q8b p2 p3 = Ui p2 p3 qO:=fun p2 p3=>(congrFun (congrFun q14p p2) p3)
theorem q14o : (fun b a p2 p3=>q5b b a p2 p3) = (fun b a p2 p3=>q14 qO b a p2 p3):=by
  funext b a p2 p3;simp only [q5b,q14,q14q]
  all_goals exact K0
theorem qpi  : ∀ b a p2 p3,q5b b a p2 p3 = q14 qO b a p2 p3:=fun b a p2 p3=>(congrFun (congrFun (congrFun (congrFun q14o b) a) p2) p3)
theorem q136 : (fun p2 a=>q7l p2 a) = (fun p2 a=>q1s qO p2 a):=by
  funext p2 a a123;simp only [q7l,q1s,qpi]
  all_goals exact K0
theorem q137  : ∀ p2 a,q7l p2 a = q1s qO p2 a:=fun p2 a=>(congrFun (congrFun q136 p2) a)
theorem q138 : (fun a=>q7m a) = (fun a=>q1t a qO):=by
  funext a a191;simp only [q7m,q1t,qpi]
  all_goals exact K0
theorem q139  : ∀ a,q7m a = q1t a qO:=fun a=>(congrFun q138 a)
theorem q134 : (fun b a p2=>q7k b a p2) = (fun b a p2=>q2w qO b a p2):=by
  funext b a p2;simp only [q7k,q2w,q137,q139]
  all_goals exact K0
theorem q135  : ∀ b a p2,q7k b a p2 = q2w qO b a p2:=fun b a p2=>(congrFun (congrFun (congrFun q134 b) a) p2)
theorem q13j : (fun a=>q2b a) = (fun a=>q2y a):=by
  funext a;simp only [q2b,q2y,qpg]
  all_goals exact K0
theorem q13k  : ∀ a,q2b a = q2y a:=fun a=>(congrFun q13j a)
theorem q14s : (fun a=>q2c a) = (fun a=>q32 a):=by
  funext a;simp only [q2c,q32]
  all_goals exact K0
theorem q14t  : ∀ a,q2c a = q32 a:=fun a=>(congrFun q14s a)
theorem q130 : (fun b p2 a=>q7i b p2 a) = (fun b p2 a=>Uv b p2 a):=by
  funext b p2 a a153;simp only [q7i,Uv,q14t]
  all_goals exact K0
theorem q131  : ∀ b p2 a,q7i b p2 a = Uv b p2 a:=fun b p2 a=>(congrFun (congrFun (congrFun q130 b) p2) a)
theorem q12y : (fun b a p2=>q7h b a p2) = (fun b a p2=>q1r qO b a p2):=by
  funext b a p2;simp only [q7h,q1r,q13k,q131]
  all_goals exact K0
theorem q12z  : ∀ b a p2,q7h b a p2 = q1r qO b a p2:=fun b a p2=>(congrFun (congrFun (congrFun q12y b) a) p2)
theorem q13l : (fun b a p2 p3=>q3l b a p2 p3) = (fun b a p2 p3=>Ux qO b a p2 p3):=by
  funext b a p2 p3;simp only [q3l,Ux,Jn,Jo,qj,Ja]
  all_goals exact K0
theorem q13m  : ∀ b a p2 p3,q3l b a p2 p3 = Ux qO b a p2 p3:=fun b a p2 p3=>(congrFun (congrFun (congrFun (congrFun q13l b) a) p2) p3)
theorem q13g : (fun b a p2 p3 p4=>q55 b a p2 p3 p4) = (fun b a p2 p3 p4=>Uw qO b a p2 p3 p4):=by
  funext b a p2 p3 p4;simp only [q55,Uw,q13m]
  all_goals exact K0
theorem qph  : ∀ b a p2 p3 p4,q55 b a p2 p3 p4 = Uw qO b a p2 p3 p4:=fun b a p2 p3 p4=>(congrFun (congrFun (congrFun (congrFun (congrFun q13g b) a) p2) p3) p4)
theorem q13h : (fun b a p2=>q3k b a p2) = (fun b a p2=>Ug qO b a p2):=by
  funext b a p2;simp only [q3k,Ug,qph]
  all_goals exact K0
theorem q13i  : ∀ b a p2,q3k b a p2 = Ug qO b a p2:=fun b a p2=>(congrFun (congrFun (congrFun q13h b) a) p2)
theorem q132 : (fun b a p2=>q7j b a p2) = (fun b a p2=>q2v b a p2 qO):=by
  funext b a p2;simp only [q7j,q2v,qph,q13i]
  all_goals exact K0
theorem q133  : ∀ b a p2,q7j b a p2 = q2v b a p2 qO:=fun b a p2=>(congrFun (congrFun (congrFun q132 b) a) p2)
theorem q14n : qb4 = q31:=by
  funext a119;simp only [qb4,q31]
  all_goals exact K0
theorem q14l : (fun b a p2=>q89 b a p2) = (fun b a p2=>q1z qO b a p2):=by
  funext b a p2;simp only [q89,q1z,q14n]
  all_goals exact K0
theorem q14m  : ∀ b a p2,q89 b a p2 = q1z qO b a p2:=fun b a p2=>(congrFun (congrFun (congrFun q14l b) a) p2)
theorem q13r : (fun p2 a=>q7t p2 a) = (fun p2 a=>Uy p2 a qO):=by
  funext p2 a a667;simp only [q7t,Uy,Jn,Jo,qj,Ja]
  all_goals exact K0
theorem q13s  : ∀ p2 a,q7t p2 a = Uy p2 a qO:=fun p2 a=>(congrFun (congrFun q13r p2) a)
theorem q13t : qar = Uz qO:=by
  funext a822;simp only [qar,Uz,Jn,Jo,qj,Ja]
  all_goals exact K0
theorem q13u : (fun p2 a=>q7u p2 a) = (fun p2 a=>q10 p2 qO a):=by
  funext p2 a a912;simp only [q7u,q10,Jn,Jo,qj,Ja]
  all_goals exact K0
theorem q13v  : ∀ p2 a,q7u p2 a = q10 p2 qO a:=fun p2 a=>(congrFun (congrFun q13u p2) a)
theorem q13p : (fun p2 a=>q58 p2 a) = (fun p2 a=>J4 p2 qO a):=by
  funext p2 a a432;have b : @q58.match_1.{1} = @J4.match_1.{1} Int:=by funext motive m f g;cases m <;> rfl
  unfold q58 J4;rw [b];simp only [q13s,q13t,q13v]
  all_goals repeat' first | with_reducible rfl | (congr 1) | funext _
  done
theorem q13q  : ∀ p2 a,q58 p2 a = J4 p2 qO a:=fun p2 a=>(congrFun (congrFun q13p p2) a)
theorem q13n : (fun b a p2=>q57 b a p2) = (fun b a p2=>Uh qO b a p2):=by
  funext b a p2;have c : @q57.match_1.{1} = @Uh.match_1.{1} Int:=by funext motive m f g;cases m <;> rfl
  unfold q57 Uh;rw [c];simp only [q13q]
  all_goals repeat' first | with_reducible rfl | (congr 1) | funext _
  done
theorem q13o  : ∀ b a p2,q57 b a p2 = Uh qO b a p2:=fun b a p2=>(congrFun (congrFun (congrFun q13n b) a) p2)
theorem q141 : (fun a b=>q7x a b) = (fun a b=>q11 a b qO):=by
  funext a b a360;simp only [q7x,q11,Jn,Jo,qj,Ja]
  all_goals exact K0
theorem q142  : ∀ a b,q7x a b = q11 a b qO:=fun a b=>(congrFun (congrFun q141 a) b)
theorem q143 : (fun a b c=>q7y a b c) = (fun a b c=>q12 a b c qO):=by
  funext a b c a439;simp only [q7y,q12,Jn,Jo,qj,Ja]
  all_goals exact K0
theorem q144  : ∀ a b c,q7y a b c = q12 a b c qO:=fun a b c=>(congrFun (congrFun (congrFun q143 a) b) c)
theorem q13z : (fun a=>q7w a) = (fun a=>q1x a qO):=by
  funext a a304;simp only [q7w,q1x,q142,q144]
  all_goals exact K0
theorem q140  : ∀ a,q7w a = q1x a qO:=fun a=>(congrFun q13z a)
theorem q13x : (fun b a p2 p3=>q7v b a p2 p3) = (fun b a p2 p3=>q1w qO b a p2 p3):=by
  funext b a p2 p3;simp only [q7v,q1w,q140]
  all_goals exact K0
theorem q13y  : ∀ b a p2 p3,q7v b a p2 p3 = q1w qO b a p2 p3:=fun b a p2 p3=>(congrFun (congrFun (congrFun (congrFun q13x b) a) p2) p3)
theorem q146 : (fun p2 d c b p3 a=>q80 p2 d c b p3 a) = (fun p2 d c b p3 a=>q2z p2 d c b p3 a qO):=by
  funext p2 d c b p3 a a159;simp only [q80,q2z,Jn,Jo,qj,Ja]
  all_goals exact K0
theorem q147  : ∀ p2 d c b p3 a,q80 p2 d c b p3 a = q2z p2 d c b p3 a qO:=fun p2 d c b p3 a=>(congrFun (congrFun (congrFun (congrFun (congrFun (congrFun q146 p2) d) c) b) p3) a)
theorem q148 : (fun a f d c p3 b=>q81 a f d c p3 b) = (fun a f d c p3 b=>q30 a f d c p3 b qO):=by
  funext a f d c p3 b a239;simp only [q81,q30,Jn,Jo,qj,Ja]
  all_goals exact K0
theorem q149  : ∀ a f d c p3 b,q81 a f d c p3 b = q30 a f d c p3 b qO:=fun a f d c p3 b=>(congrFun (congrFun (congrFun (congrFun (congrFun (congrFun q148 a) f) d) c) p3) b)
theorem q14c : (fun a b=>q83 a b) = (fun a b=>Jk a b qO):=by
  funext a b a542;simp only [q83,Jk,Jn,Jo,qj,Ja]
  all_goals exact K0
theorem q14d  : ∀ a b,q83 a b = Jk a b qO:=fun a b=>(congrFun (congrFun q14c a) b)
theorem q14e : (fun a b c=>q84 a b c) = (fun a b c=>Jl a b c qO):=by
  funext a b c a622;simp only [q84,Jl,Jn,Jo,qj,Ja]
  all_goals exact K0
theorem q14f  : ∀ a b c,q84 a b c = Jl a b c qO:=fun a b c=>(congrFun (congrFun (congrFun q14e a) b) c)
theorem q14a : (fun a=>q82 a) = (fun a=>q1y a qO):=by
  funext a a488;simp only [q82,q1y,q14d,q14f]
  all_goals exact K0
theorem q14b  : ∀ a,q82 a = q1y a qO:=fun a=>(congrFun q14a a)
theorem q13w : (fun b a p2 p3=>q7z b a p2 p3) = (fun b a p2 p3=>q1v qO b a p2 p3):=by
  funext b a p2 p3;simp only [q7z,q1v,q147,q149,q14b]
  all_goals exact K0
theorem q145  : ∀ b a p2 p3,q7z b a p2 p3 = q1v qO b a p2 p3:=fun b a p2 p3=>(congrFun (congrFun (congrFun (congrFun q13w b) a) p2) p3)
theorem q14h : (fun a=>q59 a) = (fun a=>Zp qO a):=by
  funext a a305;have b : @q59.match_1.{1} = @Zp.match_1.{1} Int:=by funext motive m f g;cases m <;> rfl
  unfold q59 Zp;rw [b];simp only [q13b,q135,q12z,q133,q14m,q13o,q13y,q145,Jn,Jo,qj,Ja]
  all_goals repeat' first | with_reducible rfl | (congr 1) | funext _
  done
theorem q14i  : ∀ a,q59 a = Zp qO a:=fun a=>(congrFun q14h a)
theorem q14j : (fun a c b p2 p3=>q5a a c b p2 p3) = (fun a c b p2 p3=>q13 a qO c b p2 p3):=by
  funext a c b p2 p3;simp only [q5a,q13,q14i]
  all_goals exact K0
theorem q14k  : ∀ a c b p2 p3,q5a a c b p2 p3 = q13 a qO c b p2 p3:=fun a c b p2 p3=>(congrFun (congrFun (congrFun (congrFun (congrFun q14j a) c) b) p2) p3)
theorem q14g : ∀ N,q88 N = Zi N qO:=by
  intro N
  induction N with
  | zero=>rfl
  | succ N ih=>
    funext a b c d;show q5a (q88 N) a b c d = q13 (Zi N qO) qO a b c d;rw [ih,q14k]
theorem q12w : (fun a=>q1e a) = (fun a=>q2u qO a):=by
  funext a;simp only [q1e,q2u,qpg,q14g]
  all_goals exact K0
theorem q12x  : ∀ a,q1e a = q2u qO a:=fun a=>(congrFun q12w a)
end Go.Sh
