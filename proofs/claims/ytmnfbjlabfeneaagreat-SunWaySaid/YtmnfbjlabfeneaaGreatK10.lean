/- Pg4 Pg5 Pg6 Pj1 Pj2 Pl4 Pj3 Po1 -/
import Derived.Test.YtmnfbjlabfeneaaGreatK9
namespace Go.Sh
open Go Go.Am
section
variable {T : Type} [Inhabited T] {P : T→Prop} {lt : T→T→Bool} {q : T→T→Option Int}
theorem qi6 {f : Int→Option (Int ⊕ Int)} (p : T→Bool) (d : Array T) (j : Nat)
    (b : ∀ k : Nat,k≤1000002→f (k : Int) = if (decide (k≤j) && p d[k]!) = true then some (.inl ((k + 1 : Nat) : Int)) else some (.inr (k : Int))) (g : j≤1000000) :
    ∀ (m i : Nat),j + 1 - i = m→i≤1000002→loop f (i : Int) = some ((Sort.scanUp p d j i : Nat) : Int):=by
  intro m
  induction m with
  | zero=>
    intro i c hi;unfold Sort.scanUp;have a : ¬ (decide (i≤j) && p d[i]!) = true:=by simp;omega
    rw [qs a];exact K7 (by rw [b i hi,qs a])
  | succ m ih=>
    intro i c hi;unfold Sort.scanUp;by_cases a : (decide (i≤j) && p d[i]!) = true
    · rw [qq a,Ka (by rw [b i hi,qq a])];exact ih (i + 1) q0 q0
    · rw [qs a];exact K7 (by rw [b i hi,qs a])
theorem qeo {f : Int→Option (Int ⊕ Int)} (p : T→Bool) (d : Array T) (i n : Nat) (hi : 1≤i)
    (b : ∀ k : Nat,k < n→f (k : Int) = if (decide (i≤k) && p d[k]!) = true then some (.inl ((k - 1 : Nat) : Int)) else some (.inr (k : Int))) :
    ∀ (j : Nat),j < n→loop f (j : Int) = some ((Sort.scanDown p d i j : Nat) : Int)
  | 0,hj=>by
    have a : ¬ (decide (i≤0) && p d[0]!) = true:=by simp;omega
    exact K7 (by rw [b 0 hj,qs a];rfl)
  | j + 1,hj=>by
    unfold Sort.scanDown
    by_cases a : (decide (i≤j + 1) && p d[j + 1]!) = true
    · rw [qq a,Ka (by rw [b (j + 1) hj,qq a])]
      exact qeo p d i n hi b j q0
    · rw [qs a]
      exact K7 (by rw [b (j + 1) hj,qs a])
theorem qnl (hq : Kw q lt P) {n : Nat} {d : Array T} (hd : AllP n P d) {a j : Nat} (b : a < n) (m : j < n) (x : Int) (k : Nat) (l : k≤1000002) :
    Jg (x,(j : Int),d.toList) (a : Int) q (k : Int) = if (decide (k≤j) && (fun x=>lt x d[a]!) d[k]!) = true then some (.inl ((k + 1 : Nat) : Int)) else some (.inr (k : Int)):=by
  have g:=hd.1;by_cases h : k≤j
  · obtain ⟨r,f,c⟩:=hq d[k]! d[a]! (hd.2.2 _ q0) (hd.2.2 _ b);have t : decide ((k : Int)≤(j : Int)) = true:=Qb q0;simp only [Jg,t,qz,gx (d:=d) (k:=k) q0,gx (d:=d) (k:=a) q0,qj,f,c,w1p k q0];simp only [Qb h,Bool.true_and,Bool.cond_eq_ite]
  · have t : decide ((k : Int)≤(j : Int)) = false:=Q7 q0;simp only [Jg,t,qy,qj];simp [h]
theorem qnm (hq : Kw q lt P) {n : Nat} {d : Array T} (hd : AllP n P d) {a i : Nat} (c : a < n) (hi : 1≤i) (x y : Int) (k : Nat) (l : k < n) :
    Jh (i : Int) (x,y,d.toList) (a : Int) q (k : Int) = if (decide (i≤k) && (fun x=>!lt x d[a]!) d[k]!) = true then some (.inl ((k - 1 : Nat) : Int)) else some (.inr (k : Int)):=by
  have g:=hd.1;have j:=hd.2.1;by_cases h : i≤k
  · obtain ⟨r,f,b⟩:=hq d[k]! d[a]! (hd.2.2 _ q0) (hd.2.2 _ c);have t : decide ((i : Int)≤(k : Int)) = true:=Qb q0;have w : w64 ((k : Int) - 1) = ((k - 1 : Nat) : Int):=by rw [Q3 q0];omega
    simp only [Jh,t,qz,gx (d:=d) (k:=k) q0,gx (d:=d) (k:=a) q0,qj,f,b,w];simp only [Qb h,Bool.true_and,Bool.cond_eq_ite]
  · have t : decide ((i : Int)≤(k : Int)) = false:=Q7 q0;simp only [Jh,t,qy,qj];simp [h]
theorem qx0 (hq : Kw q lt P) {n : Nat} {d : Array T} (hd : AllP n P d) {a j : Nat} (b : a < n) (m : j < n) (x : Int) (k : Nat) (l : k≤1000002) :
    q1b (x,(j : Int),d.toList) (a : Int) q (k : Int) = if (decide (k≤j) && (fun x=>!lt d[a]! x) d[k]!) = true then some (.inl ((k + 1 : Nat) : Int)) else some (.inr (k : Int)):=by
  have g:=hd.1;by_cases h : k≤j
  · obtain ⟨r,f,c⟩:=hq d[a]! d[k]! (hd.2.2 _ b) (hd.2.2 _ q0);have t : decide ((k : Int)≤(j : Int)) = true:=Qb q0;simp only [q1b,t,qz,gx (d:=d) (k:=k) q0,gx (d:=d) (k:=a) q0,qj,f,c,w1p k q0];simp only [Qb h,Bool.true_and,Bool.cond_eq_ite]
  · have t : decide ((k : Int)≤(j : Int)) = false:=Q7 q0;simp only [q1b,t,qy,qj];simp [h]
theorem qx1 (hq : Kw q lt P) {n : Nat} {d : Array T} (hd : AllP n P d) {a i : Nat} (c : a < n) (hi : 1≤i) (x y : Int) (k : Nat) (l : k < n) :
    q1c (i : Int) (x,y,d.toList) (a : Int) q (k : Int) = if (decide (i≤k) && (fun x=>lt d[a]! x) d[k]!) = true then some (.inl ((k - 1 : Nat) : Int)) else some (.inr (k : Int)):=by
  have g:=hd.1;have j:=hd.2.1;by_cases h : i≤k
  · obtain ⟨r,f,b⟩:=hq d[a]! d[k]! (hd.2.2 _ c) (hd.2.2 _ q0);have t : decide ((i : Int)≤(k : Int)) = true:=Qb q0;have w : w64 ((k : Int) - 1) = ((k - 1 : Nat) : Int):=by rw [Q3 q0];omega
    simp only [q1c,t,qz,gx (d:=d) (k:=k) q0,gx (d:=d) (k:=a) q0,qj,f,b,w];simp only [Qb h,Bool.true_and,Bool.cond_eq_ite]
  · have t : decide ((i : Int)≤(k : Int)) = false:=Q7 q0;simp only [q1c,t,qy,qj];simp [h]
theorem qwv (hq : Kw q lt P) (a n : Nat) (s : a < n) : ∀ (m i j : Nat) (d : Array T),j + 1 - i = m→AllP n P d→1≤i→i≤n + 1→j < n→
    loop (q28 (a : Int) q) ((i : Int),(j : Int),d.toList) = some (((Sort.partLoop lt a i j d).1 : Int),(Sort.partLoop lt a i j d).2.toList)∧AllP n P (Sort.partLoop lt a i j d).2∧(Sort.partLoop lt a i j d).1 < n:=by
  intro m
  induction m using Nat.strongRecOn with
  | _ m ih=>
    intro i j d hm hd hi y r;have aa:=hd.1;have hn:=hd.2.1;rw [Sort.partLoop_eq];have p:=qi6 (f:=Jg ((i : Int),(j : Int),d.toList) (a : Int) q) (fun x=>lt x d[a]!) d j (fun k l=>qnl hq hd s r _ k l) q0 _ i rfl q0;have g1:=Sort.scanUp_ge (fun x=>lt x d[a]!) d j i;have z:=(Sort.scanUp_spec (fun x=>lt x d[a]!) d j _ i rfl).2.1;generalize Sort.scanUp (fun x=>lt x d[a]!) d j i = c at p g1 z ⊢;have o:=qeo (f:=Jh (c : Int) ((i : Int),(j : Int),d.toList) (a : Int) q) (fun x=>!lt x d[a]!) d c n q0 (fun k l=>qnm hq hd s q0 _ _ k l) j r;have v:=Sort.scanDown_le (fun x=>!lt x d[a]!) d c j;generalize Sort.scanDown (fun x=>!lt x d[a]!) d c j = g at o v ⊢;by_cases u : c > g
    · rw [qq u];have t : decide ((c : Int) > (g : Int)) = true:=Qb q0;refine ⟨K7 ?_,hd,by show g < n;omega⟩;simp only [q28,p,o,qj,t,qz]
    · rw [qs u];have t : decide ((c : Int) > (g : Int)) = false:=Q7 q0;have h:=ih ((g - 1) + 1 - (c + 1)) q0 (c + 1) (g - 1) _ rfl (hd.swp (a:=c) (b:=g) q0 q0) q0 q0 q0;refine ⟨?_,h.2⟩;rw [Ka (a':=(((c + 1 : Nat) : Int),((g - 1 : Nat) : Int),(Sort.swp d c g).toList)) ?_]
      · exact h.1
      · have w : w64 ((g : Int) - 1) = ((g - 1 : Nat) : Int):=by rw [Q3 q0];omega
        simp only [q28,p,o,qj,t,qy,gx (d:=d) (k:=c) q0,gx (d:=d) (k:=g) q0,gxs (d:=d) (k:=g) q0,Int.toNat_natCast,gswp,w,w1p c q0]
theorem qwu (hq : Kw q lt P) (a n : Nat) (r : a < n) : ∀ (m i j : Nat) (d : Array T),j + 1 - i = m→AllP n P d→1≤i→i≤n + 1→j < n→
    loop (q27 (a : Int) q) ((i : Int),(j : Int),d.toList) = some (((Sort.partEqLoop lt a i j d).1 : Int),(Sort.partEqLoop lt a i j d).2.toList):=by
  intro m
  induction m using Nat.strongRecOn with
  | _ m ih=>
    intro i j d hm hd hi v p;have z:=hd.1;have hn:=hd.2.1;rw [Sort.partEqLoop_eq];have o:=qi6 (f:=q1b ((i : Int),(j : Int),d.toList) (a : Int) q) (fun x=>!lt d[a]! x) d j (fun k h=>qx0 hq hd r p _ k h) q0 _ i rfl q0;have g1:=Sort.scanUp_ge (fun x=>!lt d[a]! x) d j i;have y:=(Sort.scanUp_spec (fun x=>!lt d[a]! x) d j _ i rfl).2.1;generalize Sort.scanUp (fun x=>!lt d[a]! x) d j i = c at o g1 y ⊢;have l:=qeo (f:=q1c (c : Int) ((i : Int),(j : Int),d.toList) (a : Int) q) (fun x=>lt d[a]! x) d c n q0 (fun k h=>qx1 hq hd r q0 _ _ k h) j p;have u:=Sort.scanDown_le (fun x=>lt d[a]! x) d c j;generalize Sort.scanDown (fun x=>lt d[a]! x) d c j = g at l u ⊢;by_cases s : c > g
    · rw [qq s];have t : decide ((c : Int) > (g : Int)) = true:=Qb q0;refine K7 ?_;simp only [q27,o,l,qj,t,qz]
    · rw [qs s];have t : decide ((c : Int) > (g : Int)) = false:=Q7 q0;rw [Ka (a':=(((c + 1 : Nat) : Int),((g - 1 : Nat) : Int),(Sort.swp d c g).toList)) ?_]
      · exact ih ((g - 1) + 1 - (c + 1)) q0 (c + 1) (g - 1) _ rfl (hd.swp (a:=c) (b:=g) q0 q0) q0 q0 q0
      · have w : w64 ((g : Int) - 1) = ((g - 1 : Nat) : Int):=by rw [Q3 q0];omega
        simp only [q27,o,l,qj,t,qy,gx (d:=d) (k:=c) q0,gx (d:=d) (k:=g) q0,gxs (d:=d) (k:=g) q0,Int.toNat_natCast,gswp,w,w1p c q0]
theorem qwx (hq : Kw q lt P) {a b n p : Nat} (hb : b≤n) (c : a < b) (hp : p < n) {d : Array T} (hd : AllP n P d) :
    q26 q d.toList (a : Int) (b : Int) (p : Int) = some (((Sort.partitionEqual lt d a b p).1 : Int),(Sort.partitionEqual lt d a b p).2.toList):=by
  have f:=hd.1;have g:=hd.2.1;have w : w64 ((b : Int) - 1) = ((b - 1 : Nat) : Int):=by rw [Q3 q0];omega
  have s:=qwu hq a n q0 _ (a + 1) (b - 1) _ rfl (hd.swp (a:=a) (b:=p) q0 hp) q0 q0 q0;unfold q26 Sort.partitionEqual;simp only [gx (d:=d) (k:=p) q0,gx (d:=d) (k:=a) q0,gxs (d:=d) (k:=p) q0,qj,Int.toNat_natCast,gswp,w,w1p a q0,s]
theorem qwy (hq : Kw q lt P) {a b n p : Nat} (hb : b≤n) (s : a < b) (hp : p < n) {d : Array T} (hd : AllP n P d) :
    q25 q d.toList (a : Int) (b : Int) (p : Int) = some (((Sort.partition lt d a b p).1 : Int),(Sort.partition lt d a b p).2.1,(Sort.partition lt d a b p).2.2.toList):=by
  have aa:=hd.1;have hn:=hd.2.1;have w : w64 ((b : Int) - 1) = ((b - 1 : Nat) : Int):=by rw [Q3 q0];omega
  have h:=hd.swp (a:=a) (b:=p) q0 hp
  have e1 : q3i (b : Int) d.toList (a : Int) d[p]! (p : Int) d[a]! q = Jg ((0 : Int),((b - 1 : Nat) : Int),(Sort.swp d a p).toList) (a : Int) q:=by
    funext k;simp only [q3i,Jg,w,Int.toNat_natCast,gswp]
  have z : ∀ c : Int,q3j c d.toList (a : Int) d[p]! (p : Int) d[a]! q = Jh c ((0 : Int),(0 : Int),(Sort.swp d a p).toList) (a : Int) q:=by
    intro c;funext k;simp only [q3j,Jh,Int.toNat_natCast,gswp]
  unfold q25 Sort.partition;simp only [gx (d:=d) (k:=p) q0,gx (d:=d) (k:=a) q0,gxs (d:=d) (k:=p) q0,qj,e1,z,Int.toNat_natCast,gswp,w,w1p a q0];generalize Sort.swp d a p = D at h ⊢;have ac:=h.1;have o:=qi6 (f:=Jg ((0 : Int),((b - 1 : Nat) : Int),D.toList) (a : Int) q) (fun x=>lt x D[a]!) D (b - 1) (fun k j=>qnl hq h q0 q0 _ k j) q0 _ (a + 1) rfl q0;have g1:=Sort.scanUp_ge (fun x=>lt x D[a]!) D (b - 1) (a + 1);generalize Sort.scanUp (fun x=>lt x D[a]!) D (b - 1) (a + 1) = c at o g1 ⊢;have l:=qeo (f:=Jh (c : Int) ((0 : Int),(0 : Int),D.toList) (a : Int) q) (fun x=>!lt x D[a]!) D c n q0 (fun k j=>qnm hq h q0 q0 _ _ k j) (b - 1) q0;have v:=Sort.scanDown_le (fun x=>!lt x D[a]!) D c (b - 1);generalize Sort.scanDown (fun x=>!lt x D[a]!) D c (b - 1) = g at l v ⊢;simp only [o,l,qj];by_cases r : c > g
  · have t : decide ((c : Int) > (g : Int)) = true:=Qb q0;simp only [qq r,t,qz,gx (d:=D) (k:=a) q0,gx (d:=D) (k:=g) q0,gxs (d:=D) (k:=a) q0,qj,Int.toNat_natCast,gswp]
  · have t : decide ((c : Int) > (g : Int)) = false:=Q7 q0;have w2 : w64 ((g : Int) - 1) = ((g - 1 : Nat) : Int):=by rw [Q3 q0];omega
    obtain ⟨s3,m,u⟩:=qwv hq a n q0 _ (c + 1) (g - 1) _ rfl (h.swp (a:=c) (b:=g) q0 q0) q0 q0 q0;simp only [qs r,t,qy,gx (d:=D) (k:=c) q0,gx (d:=D) (k:=g) q0,gxs (d:=D) (k:=g) q0,qj,Int.toNat_natCast,gswp,w2,w1p c q0,s3];generalize Sort.partLoop lt a (c + 1) (g - 1) (Sort.swp D c g) = R at m u ⊢;have y:=m.1;simp only [gx (d:=R.2) (k:=a) q0,gx (d:=R.2) (k:=R.1) q0,gxs (d:=R.2) (k:=a) q0,qj,gswp]
theorem qza (hq : Kw q lt P) {b n : Nat} (hb : b≤n) {d : Array T} (hd : AllP n P d) (x y : Int) : ∀ (m i : Nat),b - i = m→1≤i→i≤b→
    loop (q18 (b : Int) (x,y,d.toList) q) (i : Int) = some ((Sort.scanSorted lt d b i : Nat) : Int)∧i≤Sort.scanSorted lt d b i∧Sort.scanSorted lt d b i≤b:=by
  have l:=hd.1;have o:=hd.2.1;intro m
  induction m with
  | zero=>
    intro i j hi a;unfold Sort.scanSorted;rw [qs (by simp;omega)];have t : decide ((i : Int) < (b : Int)) = false:=Q7 q0;exact ⟨K7 (by simp only [q18,t,qy,qj]),Nat.le_refl _,a⟩
  | succ m ih=>
    intro i j hi a;unfold Sort.scanSorted;have t : decide ((i : Int) < (b : Int)) = true:=Qb q0;have w : w64 ((i : Int) - 1) = ((i - 1 : Nat) : Int):=by rw [Q3 q0];omega
    obtain ⟨r,h,g⟩:=hq d[i]! d[i - 1]! (hd.2.2 _ q0) (hd.2.2 _ q0);by_cases c : lt d[i]! d[i - 1]! = true
    · rw [qs (by simp [c])];refine ⟨K7 ?_,Nat.le_refl _,a⟩;simp only [q18,t,qz,w,gx (d:=d) (k:=i) q0,gx (d:=d) (k:=i - 1) q0,qj,h,g,c,Bool.not_true,qy]
    · have c : lt d[i]! d[i - 1]! = false:=by simpa using c
      rw [qq (by simp [c];omega)];have f:=ih (i + 1) q0 q0 q0;refine ⟨?_,q0,f.2.2⟩;rw [Ka (a':=((i + 1 : Nat) : Int)) ?_]
      · exact f.1
      · simp only [q18,t,qz,w,gx (d:=d) (k:=i) q0,gx (d:=d) (k:=i - 1) q0,qj,h,g,c,Bool.not_false,w1p i q0]
theorem qp6 (hq : Kw q lt P) (n : Nat) : ∀ (j : Nat) (d : Array T),AllP n P d→j < n→loop (q19 q) ((j : Int),d.toList) = some (Sort.shiftDown lt j d).toList∧AllP n P (Sort.shiftDown lt j d)
  | 0,d,hd,hj=>by
    have t : decide (((0 : Nat) : Int) ≥ 1) = false:=Q7 q0
    exact ⟨K7 (by simp only [q19,t,qy];rfl),hd⟩
  | j + 1,d,hd,hj=>by
    have l:=hd.1
    have m:=hd.2.1
    have t : decide (((j + 1 : Nat) : Int) ≥ 1) = true:=Qb q0
    obtain ⟨r,h,f⟩:=hq d[j + 1]! d[j]! (hd.2.2 _ hj) (hd.2.2 _ q0)
    unfold Sort.shiftDown
    by_cases c : lt d[j + 1]! d[j]! = true
    · rw [qs (by simp [c])]
      have g:=qp6 hq n j _ (hd.swp (a:=j + 1) (b:=j) hj q0) q0
      refine ⟨?_,g.2⟩
      rw [Ka (a':=((j : Int),(Sort.swp d (j + 1) j).toList)) ?_]
      · exact g.1
      · simp only [q19,t,qz,gx (d:=d) (k:=j + 1) q0,w1m j q0,gx (d:=d) (k:=j) q0,gxs (d:=d) (k:=j) q0,qj,h,f,c,Bool.not_true,qy,Int.toNat_natCast,gswp]
    · have c : lt d[j + 1]! d[j]! = false:=by simpa using c
      rw [qq (by simp [c])]
      refine ⟨K7 ?_,hd⟩
      simp only [q19,t,qz,gx (d:=d) (k:=j + 1) q0,w1m j q0,gx (d:=d) (k:=j) q0,qj,h,f,c,Bool.not_false]
theorem qp8 (hq : Kw q lt P) {b n : Nat} (hb : b≤n) (c : Int) : ∀ (m j : Nat) (d : Array T),b - j = m→AllP n P d→1≤j→loop (q1a (b : Int) q c) ((j : Int),d.toList) = some (c,(Sort.shiftUp lt b j d).toList)∧AllP n P (Sort.shiftUp lt b j d):=by
  intro m
  induction m with
  | zero=>
    intro j d o hd p;unfold Sort.shiftUp;rw [qs q0];have t : decide ((j : Int) < (b : Int)) = false:=Q7 q0;exact ⟨K7 (by simp only [q1a,t,qy]),hd⟩
  | succ m ih=>
    intro j d o hd p;have s:=hd.1;have u:=hd.2.1;unfold Sort.shiftUp;rw [qq q0];have t : decide ((j : Int) < (b : Int)) = true:=Qb q0;have w : w64 ((j : Int) - 1) = ((j - 1 : Nat) : Int):=by rw [Q3 q0];omega
    obtain ⟨r,l,h⟩:=hq d[j]! d[j - 1]! (hd.2.2 _ q0) (hd.2.2 _ q0);by_cases f : lt d[j]! d[j - 1]! = true
    · rw [qs (by simp [f])];have g:=ih (j + 1) _ q0 (hd.swp (a:=j) (b:=j - 1) q0 q0) q0;refine ⟨?_,g.2⟩;rw [Ka (a':=(((j + 1 : Nat) : Int),(Sort.swp d j (j - 1)).toList)) ?_]
      · exact g.1
      · simp only [q1a,t,qz,w,gx (d:=d) (k:=j) q0,gx (d:=d) (k:=j - 1) q0,gxs (d:=d) (k:=j - 1) q0,qj,l,h,f,Bool.not_true,qy,Int.toNat_natCast,gswp,w1p j q0]
    · have f : lt d[j]! d[j - 1]! = false:=by simpa using f
      rw [qq (by simp [f])];refine ⟨K7 ?_,hd⟩;simp only [q1a,t,qz,w,gx (d:=d) (k:=j) q0,gx (d:=d) (k:=j - 1) q0,qj,l,h,f,Bool.not_false]
theorem qno (hq : Kw q lt P) {a b n : Nat} (hb : b≤n) : ∀ (s i : Nat) (d : Array T),s≤5→AllP n P d→a < i→i≤b→
    ∃ m,loop (Zz (b : Int) q (a : Int)) ((i : Int),((5 - s : Nat) : Int),d.toList) = some m∧(match m with | .inl b441=>some (false,b441) | .inr x1=>some x1) = some ((Sort.partialIns lt a b s i d).2,(Sort.partialIns lt a b s i d).1.toList)
  | 0,i,d,hs,hd,hi,hib=>by
    have t : decide (((5 - 0 : Nat) : Int) < 5) = false:=Q7 q0
    refine ⟨.inl d.toList,K7 (by simp only [Zz,t,qy]),rfl⟩
  | s + 1,i,d,hs,hd,hi,hib=>by
    have ae:=hd.1
    have hn:=hd.2.1
    have t : decide (((5 - (s + 1) : Nat) : Int) < 5) = true:=Qb q0
    rw [Sort.partialIns_succ]
    obtain ⟨o,l1,u1⟩:=qza hq hb hd (i : Int) ((5 - (s + 1) : Nat) : Int) _ i rfl q0 hib
    generalize Sort.scanSorted lt d b i = k at o l1 u1 ⊢
    by_cases z : k = b
    · subst z
      rw [qq rfl]
      refine ⟨.inr (true,d.toList),K7 ?_,rfl⟩
      simp only [Zz,t,qz,o,qj,beq_self_eq_true]
    · rw [qs z]
      have tk : ((k : Int) == (b : Int)) = false:=by simp;omega
      have v : w64 ((b : Int) - (a : Int)) = ((b - a : Nat) : Int):=wsub q0 q0
      by_cases l : b - a < 50
      · rw [qq l]
        have g : decide (((b - a : Nat) : Int) < 50) = true:=Qb q0
        refine ⟨.inr (false,d.toList),K7 ?_,rfl⟩
        simp only [Zz,t,qz,o,qj,tk,qy,v,g]
      · rw [qs l]
        have g : decide (((b - a : Nat) : Int) < 50) = false:=Q7 q0
        have wk : w64 ((k : Int) - 1) = ((k - 1 : Nat) : Int):=by rw [Q3 q0];omega
        have wa : w64 ((k : Int) - (a : Int)) = ((k - a : Nat) : Int):=wsub q0 q0
        have wb : w64 ((b : Int) - (k : Int)) = ((b - k : Nat) : Int):=wsub q0 q0
        have j:=hd.swp (a:=k) (b:=k - 1) q0 q0
        have down : (cond (decide (((k - a : Nat) : Int) ≥ 2)) ((loop (q19 q) (((k - 1 : Nat) : Int),(Sort.swp d k (k - 1)).toList)).bind fun x0=>some x0) (some (Sort.swp d k (k - 1)).toList)) = some (Sort.fixDown lt a k (Sort.swp d k (k - 1))).toList∧AllP n P (Sort.fixDown lt a k (Sort.swp d k (k - 1))):=by
          unfold Sort.fixDown;by_cases h : k - a ≥ 2
          · have f : decide (((k - a : Nat) : Int) ≥ 2) = true:=Qb q0;obtain ⟨x,y⟩:=qp6 hq n (k - 1) _ j q0;rw [qq h,f,qz,x];exact ⟨rfl,y⟩
          · have f : decide (((k - a : Nat) : Int) ≥ 2) = false:=Q7 q0;rw [qs h,f,qy];exact ⟨rfl,j⟩
        obtain ⟨dn,c⟩:=down
        have p : AllP n P (Sort.fixUp lt b k (Sort.fixDown lt a k (Sort.swp d k (k - 1)))):=by
          unfold Sort.fixUp;split
          · exact (qp8 hq hb 0 _ (k + 1) _ rfl c q0).2
          · exact c
        obtain ⟨m,r,u⟩:=qno (a:=a) hq hb s k _ q0 p q0 u1
        refine ⟨m,?_,u⟩
        rw [Ka (a':=((k : Int),((5 - s : Nat) : Int),(Sort.fixUp lt b k (Sort.fixDown lt a k (Sort.swp d k (k - 1)))).toList)) ?_]
        · exact r
        · have w5 : w64 (((5 - (s + 1) : Nat) : Int) + 1) = ((5 - s : Nat) : Int):=by rw [Q3 q0];omega
          simp only [Zz,t,qz,o,qj,tk,qy,v,g,wk,gx (d:=d) (k:=k) q0,gx (d:=d) (k:=k - 1) q0,gxs (d:=d) (k:=k - 1) q0,Int.toNat_natCast,gswp,wa,dn,wb,w1p k q0]
          unfold Sort.fixUp
          by_cases h : b - k ≥ 2
          · have f : decide (((b - k : Nat) : Int) ≥ 2) = true:=Qb q0
            obtain ⟨x,y⟩:=qp8 hq hb (k : Int) _ (k + 1) _ rfl c q0
            rw [qq h,f,qz,x]
            simp only [qj,w5]
          · have f : decide (((b - k : Nat) : Int) ≥ 2) = false:=Q7 q0
            rw [qs h,f,qy]
            simp only [qj,w5]
theorem qww (hq : Kw q lt P) {a b n : Nat} (hb : b≤n) (g : a < b) {d : Array T} (hd : AllP n P d) :
    Uj q d.toList (a : Int) (b : Int) = some ((Sort.partialInsertionSort lt d a b).2,(Sort.partialInsertionSort lt d a b).1.toList):=by
  have h:=hd.2.1;obtain ⟨m,c,f⟩:=qno (a:=a) hq hb 5 (a + 1) d q0 hd q0 q0;have c : loop (Zz (b : Int) q (a : Int)) (((a + 1 : Nat) : Int),0,d.toList) = some m:=c;unfold Uj Sort.partialInsertionSort;rw [w1p a q0,c];exact f
end
end Go.Sh
namespace Go.Sh
open Go Go.Am
theorem qmo {α β : Type} {f : α→Option (α ⊕ β)} {a : α} (h : f a = none) : loop f a = none:=by
  apply Option.ext;intro b;rw [qa4];constructor
  · rintro ⟨n,c⟩
    cases n with
    | zero=>simp [iter] at c
    | succ n=>simp [iter,h] at c
  · intro h;cases h
section
variable {T : Type} [Inhabited T] {P : T→Prop} {lt : T→T→Bool} {q : T→T→Option Int}
def Srt (lt : T→T→Bool) (a b : Nat) (d : Array T) (o : Option (List T)) : Prop:=∃ d' : Array T,o = some d'.toList∧Sort.PermIn a b d d'∧Sort.SortedIn lt a b d'
theorem qwz (hq : Kw q lt P) (hS : Sort.SWO lt) {n N : Nat} (af : List T→Int→Int→Int→Option (List T))
    (am : ∀ (a b f : Nat) (d : Array T),AllP n P d→a≤b→b≤n→f≤1000→Sort.Below lt a b d→Srt lt a b d (af d.toList (a : Int) (b : Int) (f : Int))∨(N≤b - a∧af d.toList (a : Int) (b : Int) (f : Int) = none)) :
    ∀ (m a b f : Nat) (wb wp : Bool) (d : Array T),b - a = m→AllP n P d→a≤b→b≤n→f≤1000→Sort.Below lt a b d→
      Srt lt a b d (loop (Zl q af) ((a : Int),(b : Int),(f : Int),wb,wp,d.toList))∨(N + 1≤b - a∧loop (Zl q af) ((a : Int),(b : Int),(f : Int),wb,wp,d.toList) = none):=by
  intro m
  induction m using Nat.strongRecOn with
  | _ m ih=>
    intro a b f wb wp d hm hd o hb hl hB;have de:=hd.1;have hn:=hd.2.1;have e0 : w64 ((b : Int) - (a : Int)) = ((b - a : Nat) : Int):=wsub o q0;by_cases dd : b - a≤12
    ·
      have t : decide (((b - a : Nat) : Int)≤12) = true:=Qb q0;obtain ⟨x,y⟩:=Sort.insertionSort_holds (lt:=lt) hS d a b o q0;have s:=quf hq hb o hd;refine .inl ⟨_,K7 ?_,x,y⟩;simp only [Zl,e0,t,qz,s,qj,Ul hd (hd.perm o hb x)]
    have bl : decide (((b - a : Nat) : Int)≤12) = false:=Q7 q0;by_cases h0 : f = 0
    ·
      have t : ((f : Int) == 0) = true:=by simp [h0]
      obtain ⟨x,y⟩:=Sort.heapSort_holds (lt:=lt) hS d a b o q0;have s:=qu6 hq hb (by omega : a < b) hd;refine .inl ⟨_,K7 ?_,x,y⟩;simp only [Zl,e0,bl,qy,t,qz,s,qj,Ul hd (hd.perm o hb x)]
    have t0 : ((f : Int) == 0) = false:=by simp [h0]
    have hA : ∃ (l1 : Nat) (d1 : Array T),(cond (!wb) ((q21 q d.toList (a : Int) (b : Int)).bind fun ba=>(K4 ba.length d.toList.length).bind fun cv=>some (w64 ((f : Int) - 1),ba)) (some ((f : Int),d.toList))) = some ((l1 : Int),d1.toList)∧l1≤1000∧AllP n P d1∧Sort.PermIn a b d d1:=by
      cases wb with
      | true=>exact ⟨f,d,rfl,hl,hd,Sort.permIn_refl _ _ _⟩
      | false=>
        have x:=Sort.breakPatterns_holds d a b o q0;have z:=hd.perm o hb x;have w : w64 ((f : Int) - 1) = ((f - 1 : Nat) : Int):=by rw [Q3 q0];omega
        refine ⟨f - 1,_,?_,q0,z,x⟩;simp only [Bool.not_false,qz,qr9 (q:=q) hb (by omega : a < b) hd,qj,Ul hd z,w]
    obtain ⟨l1,d1,eA,an,z,p1⟩:=hA;have hC:=qsa hq z (by omega : a < b) hb;obtain ⟨c1,c2⟩:=Sort.choosePivot_holds lt d1 a b q0;generalize (Sort.choosePivot lt d1 a b).1 = c at hC c1 c2;generalize qgu (Sort.choosePivot lt d1 a b).2 = h at hC
    have hR : ∃ (p : Nat) (h2 : Int) (d2 : Array T),(cond (h == 2) ((q29 q d1.toList (a : Int) (b : Int)).bind fun bd=>(K4 bd.length d1.toList.length).bind fun cr=>some (w64 ((w64 ((b : Int) - 1)) - (w64 ((c : Int) - (a : Int)))),(1 : Int),bd)) (some ((c : Int),h,d1.toList))) = some ((p : Int),h2,d2.toList)∧a≤p∧p < b∧AllP n P d2∧Sort.PermIn a b d1 d2:=by
      cases hh : (h == 2) with
      | false=>exact ⟨c,h,d1,rfl,c1,c2,z,Sort.permIn_refl _ _ _⟩
      | true=>
        have x:=Sort.reverseRange_holds d1 a b o (by rw [z.1];exact hb);have ac:=z.perm o hb x;have w1 : w64 ((b : Int) - 1) = ((b - 1 : Nat) : Int):=by rw [Q3 q0];omega
        have w2 : w64 ((c : Int) - (a : Int)) = ((c - a : Nat) : Int):=wsub c1 q0;have w3 : w64 (((b - 1 : Nat) : Int) - ((c - a : Nat) : Int)) = ((b - 1 - (c - a) : Nat) : Int):=wsub q0 q0;refine ⟨b - 1 - (c - a),1,_,?_,q0,q0,ac,x⟩;simp only [qz,qyy (q:=q) hb (by omega : a < b) z,qj,Ul z ac,w1,w2,w3]
    obtain ⟨p,h2,d2,eR,hp1,hp2,ac,p2⟩:=hR;have bu : Sort.Below lt a b d2:=(hB.perm q0 p1).perm (by rw [z.1];exact hb) p2;have bo:=Sort.permIn_trans _ _ _ a b p1 p2
    have hP : ∀ cc : Bool,∃ ab : (List T) ⊕ (List T),(cond cc ((Uj q d2.toList (a : Int) (b : Int)).bind fun ag=>(K4 ag.2.length d2.toList.length).bind fun dc=>cond ag.1 (some (.inr ag.2)) (some (.inl ag.2))) (some (.inl d2.toList)) : Option ((List T) ⊕ (List T))) = some ab∧
        ((∃ l : Array T,ab = .inr l.toList∧Sort.PermIn a b d2 l∧Sort.SortedIn lt a b l)∨(∃ l : Array T,ab = .inl l.toList∧AllP n P l∧Sort.PermIn a b d2 l)):=by
      intro cc
      cases cc with
      | false=>exact ⟨_,rfl,.inr ⟨d2,rfl,ac,Sort.permIn_refl _ _ _⟩⟩
      | true=>
        obtain ⟨x,y⟩:=Sort.partialInsertionSort_holds (lt:=lt) hS d2 a b q0 (by rw [ac.1];exact hb) bu;have u:=ac.perm o hb x;have s:=qww hq hb (by omega : a < b) ac;simp only [qz,s,qj,Ul ac u]
        cases hz : (Sort.partialInsertionSort lt d2 a b).2 with
        | true=>exact ⟨_,rfl,.inl ⟨_,rfl,x,y hz⟩⟩
        | false=>exact ⟨_,rfl,.inr ⟨_,rfl,u,x⟩⟩
    obtain ⟨ab,eP,bq⟩:=hP (wb && wp && (h2 == 1))
    have cn : ∀ {γ : Type} (X : Bool→Option γ),((cond wb (some wp) (some false)).bind fun bs=>(cond bs (some (h2 == 1)) (some false)).bind X) = X (wb && wp && (h2 == 1)):=by
      intro γ X;cases wb <;> cases wp <;> rfl
    have head : Zl q af ((a : Int),(b : Int),(f : Int),wb,wp,d.toList) = (match (generalizing:=false) ab with | .inl b377=>(cond (decide ((a : Int) > 0)) ((idx b377 (w64 ((a : Int) - 1))).bind fun av=>(idx b377 (p : Int)).bind fun ao=>(q av ao).bind fun ar=>some (!(decide (ar < 0)))) (some false)).bind fun bp=>cond bp ((q26 q b377 (a : Int) (b : Int) (p : Int)).bind fun al=>(K4 al.2.length b377.length).bind fun da=>some (.inl (al.1,(b : Int),(l1 : Int),wb,wp,al.2))) ((q25 q b377 (a : Int) (b : Int) (p : Int)).bind fun g=>(K4 g.2.2.length b377.length).bind fun cq=>cond (decide ((w64 (g.1 - (a : Int))) < (w64 ((b : Int) - g.1)))) ((af g.2.2 (a : Int) g.1 (l1 : Int)).bind fun az=>(K4 az.length g.2.2.length).bind fun cy=>some (.inl (w64 (g.1 + 1),(b : Int),(l1 : Int),decide ((w64 (g.1 - (a : Int))) ≥ (w64 (Int.tdiv ((b - a : Nat) : Int) 8))),g.2.1,az))) ((af g.2.2 (w64 (g.1 + 1)) (b : Int) (l1 : Int)).bind fun bc=>(K4 bc.length g.2.2.length).bind fun cx=>some (.inl ((a : Int),g.1,(l1 : Int),decide ((w64 ((b : Int) - g.1)) ≥ (w64 (Int.tdiv ((b - a : Nat) : Int) 8))),g.2.1,bc)))) | .inr x1=>some (.inr x1)):=by
      simp only [Zl,e0,bl,qy,t0,eA,qj,hC,eR,cn,eP]
      clear eP bq hP am ih
      cases ab <;> rfl
    rcases bq with ⟨l,rfl,x,y⟩ | ⟨l,rfl,u,p3⟩
    · refine .inl ⟨l,K7 ?_,Sort.permIn_trans _ _ _ a b bo x,y⟩;rw [head]
    have ax:=u.1;have P3:=Sort.permIn_trans _ _ _ a b bo p3;have B3 : Sort.Below lt a b l:=bu.perm (by rw [ac.1];exact hb) p3
    have bh : (cond (decide ((a : Int) > 0)) ((idx l.toList (w64 ((a : Int) - 1))).bind fun av=>(idx l.toList (p : Int)).bind fun ao=>(q av ao).bind fun ar=>some (!(decide (ar < 0)))) (some false)) = some (decide (a > 0) && !lt l[a - 1]! l[p]!):=by
      by_cases ha : a > 0
      · have ta : decide ((a : Int) > 0) = true:=Qb q0;have w : w64 ((a : Int) - 1) = ((a - 1 : Nat) : Int):=by rw [Q3 q0];omega
        obtain ⟨r,h1,h2⟩:=hq l[a - 1]! l[p]! (u.2.2 _ q0) (u.2.2 _ q0);simp only [ta,qz,w,gx (d:=l) (k:=a - 1) q0,gx (d:=l) (k:=p) q0,qj,h1,h2,Qb ha,Bool.true_and]
      · have ta : decide ((a : Int) > 0) = false:=Q7 q0;simp only [ta,qy,Q7 ha,Bool.false_and]
    simp only [bh,qj] at head;by_cases hc : (decide (a > 0) && !lt l[a - 1]! l[p]!) = true
    ·
      rw [hc] at head;have s:=qwx hq hb (by omega : a < b) (by omega : p < n) u;simp only [Bool.and_eq_true,decide_eq_true_eq,Bool.not_eq_true'] at hc
      cases hx : Sort.partitionEqual lt l a b p with
      | mk j d4=>
        obtain ⟨g1,g2,ca,cl,ad⟩:=Sort.round_eq hS (Sort.partitionEqual_holds lt) hc.1 hp1 hp2 (by rw [ax];exact hb) B3 hc.2 hx
        have ce : ∀ i,a≤i→i < b→lt l[i]! l[p]! = false:=fun i hi bz=>by
          rcases B3 with h0 | hB
          · omega
          · exact hS.ntrans _ _ _ (hB i hi bz) hc.2
        obtain ⟨_,_,v,_,_⟩:=Sort.partitionEqual_holds lt hS l a b p hp1 hp2 (by rw [ax];exact hb) ce;rw [hx] at v s;have aa:=u.perm o hb v;simp only [qz,s,qj,Ul u aa] at head;rw [Ka head];rcases ih (b - j) q0 j b l1 wb wp d4 rfl aa g2 hb an cl with ⟨R,r0,r1,r2⟩ | ⟨r1,r2⟩
        · obtain ⟨q1,q2⟩:=ad _ r1 r2;exact .inl ⟨R,r0,Sort.permIn_trans _ _ _ a b P3 q1,q2⟩
        · exact .inr ⟨q0,r2⟩
    ·
      have hc : (decide (a > 0) && !lt l[a - 1]! l[p]!) = false:=by simpa using hc
      rw [hc] at head;have s:=qwy hq hb (by omega : a < b) (by omega : p < n) u
      cases hx : Sort.partition lt l a b p with
      | mk j r=>
      cases r with
      | mk ap d4=>
        obtain ⟨g1,g2,ca,bw,cd,bg,ay⟩:=Sort.round_part hS (Sort.partition_holds lt) hp1 hp2 (by rw [ax];exact hb) B3 hx;obtain ⟨_,_,v,_,_⟩:=Sort.partition_holds lt hS l a b p hp1 hp2 (by rw [ax];exact hb);rw [hx] at v s;have aa:=u.perm o hb v;have w1 : w64 ((j : Int) - (a : Int)) = ((j - a : Nat) : Int):=wsub g1 q0;have w2 : w64 ((b : Int) - (j : Int)) = ((b - j : Nat) : Int):=wsub q0 q0;simp only [qy,s,qj,Ul u aa,w1,w2,w1p j q0] at head;by_cases dk : j - a < b - j
        · have tl : decide (((j - a : Nat) : Int) < ((b - j : Nat) : Int)) = true:=Qb q0;simp only [tl,qz] at head;rcases am a j l1 d4 aa g1 q0 an bw with ⟨L,e,aq,bi⟩ | ⟨r1,r2⟩
          · have au:=aa.perm g1 q0 aq;obtain ⟨bj,ad⟩:=bg _ aq bi;simp only [e,qj,Ul aa au] at head;rw [Ka head];rcases ih (b - (j + 1)) q0 (j + 1) b l1 _ _ L rfl au q0 hb an bj with ⟨R,r0,r1,r2⟩ | ⟨r1,r2⟩
            · obtain ⟨q1,q2⟩:=ad _ r1 r2;exact .inl ⟨R,r0,Sort.permIn_trans _ _ _ a b P3 q1,q2⟩
            · exact .inr ⟨q0,r2⟩
          · simp only [r2,Option.bind_none] at head;exact .inr ⟨q0,qmo head⟩
        · have tl : decide (((j - a : Nat) : Int) < ((b - j : Nat) : Int)) = false:=Q7 q0;simp only [tl,qy] at head;rcases am (j + 1) b l1 d4 aa q0 hb an cd with ⟨L,e,aq,bi⟩ | ⟨r1,r2⟩
          · have au:=aa.perm (by omega : j + 1≤b) hb aq;obtain ⟨bj,ad⟩:=ay _ aq bi;simp only [e,qj,Ul aa au] at head;rw [Ka head];rcases ih (j - a) q0 a j l1 _ _ L rfl au g1 q0 an bj with ⟨R,r0,r1,r2⟩ | ⟨r1,r2⟩
            · obtain ⟨q1,q2⟩:=ad _ r1 r2;exact .inl ⟨R,r0,Sort.permIn_trans _ _ _ a b P3 q1,q2⟩
            · exact .inr ⟨q0,r2⟩
          · simp only [r2,Option.bind_none] at head;exact .inr ⟨q0,qmo head⟩
theorem qnp (hq : Kw q lt P) (f : Sort.SWO lt) {n : Nat} : ∀ (N a b c : Nat) (d : Array T),AllP n P d→a≤b→b≤n→c≤1000→Sort.Below lt a b d→
    Srt lt a b d (Zc N q d.toList (a : Int) (b : Int) (c : Int))∨(N≤b - a∧Zc N q d.toList (a : Int) (b : Int) (c : Int) = none)
  | 0,a,b,c,d,_,_,_,_,_=>.inr ⟨q0,rfl⟩
  | N + 1,a,b,c,d,hd,hab,hb,hl,hB=>by
    have h:=qwz hq f (N:=N) (Zc N q) (fun a b c d l g j k m=>qnp hq f N a b c d l g j k m) _ a b c true true d rfl hd hab hb hl hB
    have e : Zc (N + 1) q d.toList (a : Int) (b : Int) (c : Int) = loop (Zl q (Zc N q)) ((a : Int),(b : Int),(c : Int),true,true,d.toList):=by
      show q1d (Zc N q) q d.toList (a : Int) (b : Int) (c : Int) = _;unfold q1d;cases loop (Zl q (Zc N q)) ((a : Int),(b : Int),(c : Int),true,true,d.toList) <;> rfl
    rw [e]
    exact h
theorem qpq (hq : Kw q lt P) (v : Sort.SWO lt) (xs : List T) (n : xs.length≤1000000) (u : ∀ x∈xs,P x) :
    ∃ ys,q3d q xs = some ys∧ys.Perm xs∧ys.Pairwise (fun x y=>lt y x = false):=by
  have hd : AllP xs.length P xs.toArray:=by
    refine ⟨qe,n,fun i hi=>?_⟩;have : xs.toArray[i]! = xs[i]:=by simp [hi]
    rw [this];exact u _ (Ks hi)
  have hk : Sort.bitsLen xs.length≤20:=(Sort.bitsLen_le_iff _ 20).2 q0;have c : ∀ N,_:=fun N=>qnp hq v N 0 xs.length (Sort.bitsLen xs.length) xs.toArray hd q0 q0 q0 (.inl rfl);have z:=c (xs.length + 1);rcases z with ⟨d',e,_,_⟩ | ⟨h,_⟩
  · obtain ⟨r,o⟩:=quu (f:=fun N=>Zc N q xs 0 (xs.length : Int) ((Sort.bitsLen xs.length : Nat) : Int)) e;obtain ⟨N,g⟩:=qh6 o;have g : Zc N q xs 0 (xs.length : Int) ((Sort.bitsLen xs.length : Nat) : Int) = some r:=g;rcases c N with ⟨a,b,x,y⟩ | ⟨_,b⟩
    · have b : Zc N q xs 0 (xs.length : Int) ((Sort.bitsLen xs.length : Nat) : Int) = some a.toList:=b;rw [g] at b;obtain rfl : r = a.toList:=q6a b;have d : a.size = xs.length:=by rw [x.1];simp
      refine ⟨a.toList,?_,?_,?_⟩
      · unfold q3d;rw [J5,show ((xs.length : Int) % 18446744073709551616) = (xs.length : Int) by omega,qmj _ n];simp only [qj,o];unfold K4;rw [qq (by simp [d])];rfl
      · have:=x.2.2;have s : a.extract 0 xs.length = a:=by rw [← d];simp
        have p : xs.toArray.extract 0 xs.length = xs.toArray:=by simp
        rw [s,p] at this;exact this
      · rw [List.pairwise_iff_getElem];intro i j hi t k;have l : i < a.size:=by simpa using hi
        have m : j < a.size:=by simpa using t
        have:=y i j q0 k q0;rw [getElem!_pos a i l,getElem!_pos a j m] at this;simpa using this
    · have b : Zc N q xs 0 (xs.length : Int) ((Sort.bitsLen xs.length : Nat) : Int) = none:=b;rw [g] at b;cases b
  · omega
end
end Go.Sh
namespace Go.Sh
open Go Go.Am
theorem q10a : qf1 = q6k:=rfl
theorem qzb : q3q = q50:=by
  funext p0;simp only [q3q,q50,q10a]
  all_goals exact K3
theorem qou : q1h = q20:=by
  funext p0;simp only [q1h,q20,qzb]
  all_goals exact K3
theorem qzl : qbf = Uh:=by
  funext p1 q1 a459;simp only [qbf,Uh]
  all_goals exact K3
theorem qzk : qbe = q24:=by
  funext p2 p1 q1 a278;simp only [qbe,q24,qzl]
  all_goals exact K3
theorem qzj : qbd = q3g:=by
  funext q1 p0 p1 p2;simp only [qbd,q3g,qzk]
  all_goals exact K3
theorem q109 : qbx = Uk:=by
  funext p2 p3 q1 a197;simp only [qbx,Uk]
  all_goals exact K3
theorem qow : q8x = q1e:=by
  funext q1 p0 p1 p2 p3;simp only [q8x,q1e,q109]
  all_goals exact K3
theorem qzh : qbb = q22:=by
  funext q1 p2 p1 a123;simp only [qbb,q22,qow]
  all_goals exact K3
theorem qzi : qbc = q23:=by
  funext p1 q1 a191;simp only [qbc,q23,qow]
  all_goals exact K3
theorem qzg : qba = q3f:=by
  funext q1 p0 p1 p2;simp only [qba,q3f,qzh,qzi]
  all_goals exact K3
theorem qzn : q2t = q3h:=by
  funext p0;simp only [q2t,q3h,qou]
  all_goals exact K3
theorem q10b : q2u = q3l:=by
  funext p0;simp only [q2u,q3l]
  all_goals exact K3
theorem qze : qb8 = q15:=by
  funext p1 p2 r101 a153;simp only [qb8,q15,q10b]
  all_goals exact K3
theorem qzd : qb7 = q21:=by
  funext q1 p0 p1 p2;simp only [qb7,q21,qzn,qze]
  all_goals exact K3
theorem qzo : q5r = q17:=by
  funext q1 p0 p1 p2 p3;simp only [q5r,q17]
  all_goals exact K3
theorem qov : q8d = q16:=by
  funext q1 p0 p1 p2 p3 p4;simp only [q8d,q16,qzo]
  all_goals exact K3
theorem qzm : q5p = Ui:=by
  funext q1 p0 p1 p2;simp only [q5p,Ui,qov]
  all_goals exact K3
theorem qzf : qb9 = q3e:=by
  funext p0 p1 p2 p3;simp only [qb9,q3e,qov,qzm]
  all_goals exact K3
theorem q108 : qbv = q3k:=by
  funext a119;simp only [qbv,q3k]
  all_goals exact K3
theorem q107 : qbu = q29:=by
  funext q1 p0 p1 p2;simp only [qbu,q29,q108]
  all_goals exact K3
theorem qzr : qbg = q18:=by
  funext p2 a438 q1 a681;simp only [qbg,q18]
  all_goals exact K3
theorem qzs : qbh = q19:=by
  funext q1 a838;simp only [qbh,q19]
  all_goals exact K3
theorem qzt : qbi = q1a:=by
  funext p2 q1 b684 a928;simp only [qbi,q1a]
  all_goals exact K3
theorem qzq : q8f = Zz:=by
  funext p2 q1 p1 a438;have a : @q8f.match_1.{1} = @Zz.match_1.{1} qp:=by funext motive m f g;cases m <;> rfl
  unfold q8f Zz;rw [a];simp only [qzr,qzs,qzt]
theorem qzp : q8e = Uj:=by
  funext q1 p0 p1 p2;have a : @q8e.match_1.{1} = @Uj.match_1.{1} qp:=by funext motive m f g;cases m <;> rfl
  unfold q8e Uj;rw [a];simp only [qzq]
theorem qzx : qbs = q1b:=by
  funext a318 p1 q1 a378;simp only [qbs,q1b]
  all_goals exact K3
theorem qzy : qbt = q1c:=by
  funext b381 a318 p1 q1 a463;simp only [qbt,q1c]
  all_goals exact K3
theorem qzw : qbr = q27:=by
  funext p1 q1 a318;simp only [qbr,q27,qzx,qzy]
  all_goals exact K3
theorem qzv : qbq = q26:=by
  funext q1 p0 p1 p2 p3;simp only [qbq,q26,qzw]
  all_goals exact K3
theorem qzz : qbl = q3i:=by
  funext p2 p0 p1 v101 p3 v103 q1 a163;simp only [qbl,q3i]
  all_goals exact K3
theorem q100 : qbm = q3j:=by
  funext b166 p0 p1 v101 p3 v103 q1 a249;simp only [qbm,q3j]
  all_goals exact K3
theorem q102 : qbo = Jg:=by
  funext a514 p1 q1 a572;simp only [qbo,Jg]
  all_goals exact K3
theorem q103 : qbp = Jh:=by
  funext b575 a514 p1 q1 a658;simp only [qbp,Jh]
  all_goals exact K3
theorem q101 : qbn = q28:=by
  funext p1 q1 a514;simp only [qbn,q28,q102,q103]
  all_goals exact K3
theorem qzu : qbk = q25:=by
  funext q1 p0 p1 p2 p3;simp only [qbk,q25,qzz,q100,q101]
  all_goals exact K3
theorem q105 : q8t = Zl:=by
  funext q1 rec a309;have a : @q8t.match_1.{1} = @Zl.match_1.{1} qp:=by funext motive m f g;cases m <;> rfl
  unfold q8t Zl;rw [a];simp only [qzj,qzg,qzd,qzf,q107,qzp,qzv,qzu]
theorem q106 : q8u = q1d:=by
  funext rec q1 p0 p1 p2 p3;simp only [q8u,q1d,q105]
  all_goals exact K3
theorem q104 : ∀ N q,q8s N q = Zc N q:=by
  intro N q
  induction N with
  | zero=>rfl
  | succ N ih=>
    funext a b c d;show q8u (q8s N q) q a b c d = q1d (Zc N q) q a b c d;rw [ih,q106]
theorem qzc : q83 = q3d:=by
  funext q1 p0;simp only [q83,q3d,qou,q104]
  all_goals exact K3
end Go.Sh
namespace Go.Sh
open Go Go.Am
instance : Inhabited qp:=⟨⟨0,0,0⟩⟩
theorem q13x (q : qp→qp→Option Int) (xs : List qp) : q83 q xs = q3d q xs:=by rw [qzc]
def evs (s : List qu) (l : Int) : List qp:=s.flatMap fun t=>[{at_:=t.Lo,list_:=l,by_:=1},{at_:=t.Hi,list_:=l,by_:=-1}]
theorem q9y (s : List qu) (l : Int) : (evs s l).length = 2 * s.length:=by
  induction s with
  | nil=>rfl
  | cons t s ih=>simp only [evs,List.flatMap_cons,List.length_append,List.length_cons,List.length_nil] at ih ⊢;omega
theorem qdr {s : List qu} {l : Int} {e : qp} (h : e∈evs s l) : e.list_ = l∧(e.by_ = 1∨e.by_ = -1)∧∃ t∈s,e.at_ = t.Lo∨e.at_ = t.Hi:=by
  simp only [evs,List.mem_flatMap] at h;obtain ⟨t,a,h⟩:=h;simp only [List.mem_cons,List.not_mem_nil,or_false] at h;rcases h with rfl | rfl
  · exact ⟨rfl,.inl rfl,t,a,.inl rfl⟩
  · exact ⟨rfl,.inr rfl,t,a,.inr rfl⟩
theorem qkn (s : List qu) (l : Int) (y : List qp) (hs : s.length≤1000) (base : List qp) (hb : base.length≤10000) :
    loop (q64 s (l,y)) (0,base) = some (base ++ evs s l):=by
  have:=U7 (f:=q64 s (l,y)) (σ:=List qp) (fun k c=>((k : Int),c)) s.length (fun k c=>c = base ++ evs (s.take k) l) (fun t=>t = base ++ evs s l) ?_ ?_ (k0:=0) (c0:=base) q0 (by simp [evs])
  · obtain ⟨b,h,rfl⟩:=this;exact h
  · rintro k c d rfl;have a : decide ((k : Int) < (s.length : Int)) = true:=Qb q0;refine .inl ⟨base ++ evs (s.take (k + 1)) l,?_,rfl⟩;have g : (evs (s.take k) l).length≤2000:=by rw [q9y,List.length_take];omega
    simp only [q64,a,qz,Qw d,qj];rw [Kj (by rw [List.length_append];simp only [List.length_cons,List.length_nil];omega),qj,Q3 q0,List.take_succ_eq_append_getElem d,List.append_assoc];have : evs (s.take k ++ [s[k]]) l = evs (s.take k) l ++ [{at_:=s[k].Lo,list_:=l,by_:=1},{at_:=s[k].Hi,list_:=l,by_:=-1}]:=by simp only [evs,List.flatMap_append,List.flatMap_cons,List.flatMap_nil,List.append_nil]
    rw [this];rfl
  · rintro c rfl;have a : decide ((s.length : Int) < (s.length : Int)) = false:=Q7 q0;exact ⟨_,by simp only [q64,a,qy];rfl,by rw [List.take_length]⟩
def ltE (a b : qp) : Bool:=decide (a.at_ < b.at_)
def inE (e : qp) : Prop:=-1000000≤e.at_∧e.at_≤1000000
theorem swoE : Sort.SWO ltE where
  irrefl:=by intro x;simp [ltE]
  trans:=by intro x y z;simp only [ltE,decide_eq_true_eq];omega
  ntrans:=by intro x y z;simp only [ltE,decide_eq_false_iff_not];omega
theorem cmpE : Kw (fun x0 x1=>qc4 x0 x1) ltE inE:=by
  rintro x y ⟨a,c⟩ ⟨b,d⟩;refine ⟨x.at_ - y.at_,?_,?_⟩
  · show some (w64 (x.at_ - y.at_)) = _;rw [Q3 q0]
  · unfold ltE;exact decide_eq_decide.2 q0
theorem q13w (p q : List qu) (hp : p.length≤500) (hq : q.length≤500) (u : ∀ t∈p,vld t) (k : ∀ t∈q,vld t) :
    ∃ ys,qc5 [p,q] = some ([p,q],ys)∧ys.Perm (evs p 0 ++ evs q 1)∧ys.Pairwise (fun x y=>x.at_≤y.at_):=by
  have o : ∀ x∈evs p 0 ++ evs q 1,inE x:=by
    intro x n;rcases List.mem_append.1 n with h | h
    · obtain ⟨_,_,t,g,h⟩:=qdr h;obtain ⟨a,b,c⟩:=u t g;unfold inE;rcases h with h | h <;> omega
    · obtain ⟨_,_,t,g,h⟩:=qdr h;obtain ⟨a,b,c⟩:=k t g;unfold inE;rcases h with h | h <;> omega
  have v:=q9y p 0;have z:=q9y q 1;obtain ⟨ys,s,j,l⟩:=qpq cmpE swoE (evs p 0 ++ evs q 1) (by rw [List.length_append];omega) o;refine ⟨ys,?_,j,l.imp (fun {x y} h=>by simp only [ltE,decide_eq_false_iff_not] at h;omega)⟩
  have d : loop (q1n [p,q]) (0,[]) = some (evs p 0 ++ evs q 1):=by
    have s0 : q1n [p,q] (0,[]) = some (.inl (1,evs p 0)):=by
      have t : decide ((0 : Int) < (([p,q] : List (List qu)).length : Int)) = true:=rfl;simp only [q1n,t,qz];have : idx [p,q] 0 = some p:=rfl;rw [this];simp only [qj,qkn p 0 [] q0 [] qe,List.nil_append];rfl
    have m : q1n [p,q] (1,evs p 0) = some (.inl (2,evs p 0 ++ evs q 1)):=by
      have t : decide ((1 : Int) < (([p,q] : List (List qu)).length : Int)) = true:=rfl;simp only [q1n,t,qz];have : idx [p,q] 1 = some q:=rfl;rw [this];simp only [qj,qkn q 1 (evs p 0) q0 (evs p 0) q0];rfl
    have r : q1n [p,q] (2,evs p 0 ++ evs q 1) = some (.inr (evs p 0 ++ evs q 1)):=by
      have t : decide ((2 : Int) < (([p,q] : List (List qu)).length : Int)) = false:=rfl;simp only [q1n,t,qy]
    rw [Ka s0,Ka m,K7 r]
  unfold qc5;rw [d];simp only [qj,q13x,s];have le : K4 ys.length (evs p 0 ++ evs q 1).length = some ():=by unfold K4;rw [qq j.length_eq]
  have f : K4 ys.length ys.length = some ():=by unfold K4;rw [qq rfl]
  simp only [le,qj,qex,f]
def cnt (l : Int) (c : Int→Bool) : List qp→Int
  | []=>0
  | e::es=>(if e.list_ = l∧c e.at_ = true then e.by_ else 0) + cnt l c es
theorem q36 (l : Int) (c : Int→Bool) (a b : List qp) : cnt l c (a ++ b) = cnt l c a + cnt l c b:=by
  induction a with
  | nil=>simp [cnt]
  | cons e a ih=>simp only [List.cons_append,cnt,ih];omega
theorem qk2 {l : Int} {c : Int→Bool} {a b : List qp} (h : a.Perm b) : cnt l c a = cnt l c b:=by
  induction h with
  | nil=>rfl
  | cons x _ ih=>simp only [cnt,ih]
  | swap x y l=>simp only [cnt];omega
  | trans _ _ ih1 ih2=>rw [ih1,ih2]
theorem qjz {l : Int} {c b : Int→Bool} : ∀ {a : List qp},(∀ e∈a,c e.at_ = b e.at_)→cnt l c a = cnt l b a
  | [],_=>rfl
  | e::a,h=>by simp only [cnt,h e qe,qjz (fun e d=>h e (List.mem_cons_of_mem _ d))]
theorem qk1 {l : Int} {c : Int→Bool} : ∀ {a : List qp},(∀ e∈a,c e.at_ = false)→cnt l c a = 0
  | [],_=>rfl
  | e::a,h=>by
    simp only [cnt,qk1 (fun e b=>h e (List.mem_cons_of_mem _ b)),h e qe]
    simp
theorem q9q {s : List qu} {l l' : Int} {c : Int→Bool} (h : l≠l') : cnt l c (evs s l') = 0:=by
  induction s with
  | nil=>rfl
  | cons t s ih=>
    have : evs (t::s) l' = [{at_:=t.Lo,list_:=l',by_:=1},{at_:=t.Hi,list_:=l',by_:=-1}] ++ evs s l':=rfl;rw [this,q36,ih];have a : ¬ l' = l:=fun e=>h e.symm;simp [cnt,a]
theorem qk0 {s : List qu} {l : Int} (v : ∀ t∈s,vld t) (x : Int) : 0≤cnt l (fun a=>decide (a≤x)) (evs s l)∧(0 < cnt l (fun a=>decide (a≤x)) (evs s l)↔has s x):=by
  induction s with
  | nil=>exact ⟨Int.le_refl 0,by simp [evs,cnt,has]⟩
  | cons t s ih=>
    obtain ⟨f,c⟩:=ih (fun t d=>v t (List.mem_cons_of_mem _ d));have b:=v t qe;have : evs (t::s) l = [{at_:=t.Lo,list_:=l,by_:=1},{at_:=t.Hi,list_:=l,by_:=-1}] ++ evs s l:=rfl;rw [this,q36,Zs,← c];obtain ⟨j,h,g⟩:=b;simp only [cnt,true_and,decide_eq_true_eq];split <;> split <;> omega
theorem qk3 {s : List qu} {l : Int} : cnt l (fun _=>true) (evs s l) = 0:=by
  induction s with
  | nil=>rfl
  | cons t s ih=>
    have : evs (t::s) l = [{at_:=t.Lo,list_:=l,by_:=1},{at_:=t.Hi,list_:=l,by_:=-1}] ++ evs s l:=rfl;rw [this,q36,ih];simp [cnt]
theorem qg0 {l : Int} {c : Int→Bool} : ∀ {a : List qp},(∀ e∈a,e.by_ = 1∨e.by_ = -1)→-(a.length : Int)≤cnt l c a∧cnt l c a≤(a.length : Int)
  | [],_=>by simp [cnt]
  | e::a,h=>by
    obtain ⟨d,f⟩:=qg0 (l:=l) (c:=c) (fun e b=>h e (List.mem_cons_of_mem _ b))
    have:=h e qe
    simp only [cnt,List.length_cons]
    split <;> omega
end Go.Sh
namespace Go.Sh
open Go Go.Am
theorem qsc (at_ a : Int) (inn : Bool) (out : List qu) (h : out.length≤10000) :
    qc6 at_ inn a out = some (inn,a,if inn = true∧a≠at_ then addS out a at_ else out):=by
  unfold qc6
  cases inn with
  | false=>rfl
  | true=>
    by_cases b : a = at_
    · simp [b]
    · have hb : (a == at_) = false:=by simpa using b
      simp only [Bool.not_true,qy,qj,hb];rw [qq ⟨trivial,b⟩];rcases qey out with rfl | ⟨d,t,rfl⟩
      · rfl
      · have l : (d ++ [t]).length = d.length + 1:=by simp
        have j : decide (((d ++ [t]).length : Int) > 0) = true:=Qb q0;have g : w64 (((d ++ [t]).length : Int) - 1) = (d.length : Int):=by rw [Q3 q0];omega
        have k : idx (d ++ [t]) (d.length : Int) = some t:=by
          rw [Qw q0];simp
        simp only [j,qz,g,k,qj];by_cases c : t.Hi = a
        · subst c;simp only [beq_self_eq_true,qz,qcn,Int.toNat_natCast,qoz]
        · have f : (t.Hi == a) = false:=by simpa using c
          simp only [f,qy,qco c];rw [Kj (by simp;omega)];rfl
open Classical in
structure qqs (f : Bool→Bool→Bool) (p q : List qu) (ys : List qp) (k : Nat) (c : List Int × Int × Bool × List qu) : Prop where
  opn : c.1 = [cnt 0 (fun _=>true) (ys.take k),cnt 1 (fun _=>true) (ys.take k)]
  inn : c.2.2.1 = f (decide (0 < cnt 0 (fun _=>true) (ys.take k))) (decide (0 < cnt 1 (fun _=>true) (ys.take k)))
  lst : ∀ (h : k - 1 < ys.length),0 < k→c.2.1 = ys[k - 1].at_
  can : Can c.2.2.2
  his : ∀ t∈c.2.2.2,t.Hi≤c.2.1
  zro : k = 0→c.2.2.2 = []
  pts : ∀ x,has c.2.2.2 x↔0 < k∧x < c.2.1∧f (decide (has p x)) (decide (has q x)) = true
  len : c.2.2.2.length≤k
theorem qqt (c : List qu) (a b : Int) : (addS c a b).length≤c.length + 1:=by
  rcases qey c with rfl | ⟨d,t,rfl⟩
  · simp [qj0]
  · by_cases h : t.Hi = a
    · subst h;rw [qcn];simp
    · rw [qco h];simp
theorem qjy {p q : List qu} {ys : List qp} (hp : ∀ t∈p,vld t) (hq : ∀ t∈q,vld t) (b : ys.Perm (evs p 0 ++ evs q 1)) (_ : ys.Pairwise (fun x y=>x.at_≤y.at_)) (k : Nat) (x : Int)
    (f : ∀ i (h : i < ys.length),i < k→ys[i].at_≤x) (d : ∀ i (h : i < ys.length),k≤i→x < ys[i].at_) :
    (0 < cnt 0 (fun _=>true) (ys.take k)↔has p x)∧(0 < cnt 1 (fun _=>true) (ys.take k)↔has q x):=by
  have key : ∀ l,cnt l (fun _=>true) (ys.take k) = cnt l (fun a=>decide (a≤x)) (evs p 0) + cnt l (fun a=>decide (a≤x)) (evs q 1):=by
    intro l;rw [← q36,← qk2 b]
    conv=>rhs;rw [← List.take_append_drop k ys]
    rw [q36]
    have m : cnt l (fun a=>decide (a≤x)) (ys.drop k) = 0:=by
      refine qk1 fun e c=>?_;obtain ⟨i,hi,rfl⟩:=List.mem_iff_getElem.1 c;rw [List.getElem_drop];rw [List.length_drop] at hi;have:=d (k + i) q0 q0;exact Q7 q0
    have n : cnt l (fun a=>decide (a≤x)) (ys.take k) = cnt l (fun _=>true) (ys.take k):=by
      refine qjz fun e c=>?_;obtain ⟨i,hi,rfl⟩:=List.mem_iff_getElem.1 c;rw [List.getElem_take];rw [List.length_take] at hi;exact Qb (f i q0 q0)
    rw [m,n];omega
  rw [key 0,key 1,q9q (l:=0) (l':=1) qr,q9q (l:=1) (l':=0) qr];have j:=qk0 (l:=0) hp x;have g:=qk0 (l:=1) hq x;rw [Int.add_zero,Int.zero_add];exact ⟨j.2,g.2⟩
open Classical in
theorem qui (f : Bool→Bool→Bool) (hf : f false false = false) (p2 : Bool→Bool→Option Bool) (hp2 : ∀ a b,p2 a b = some (f a b)) (p q : List qu)
    (hp : p.length≤500) (hq : q.length≤500) (vp : ∀ t∈p,vld t) (vq : ∀ t∈q,vld t) :
    ∃ out,q94 p q p2 = some out∧Can out∧∀ x,has out x↔f (decide (has p x)) (decide (has q x)) = true:=by
  obtain ⟨ys,e1,g,hs⟩:=q13w p q hp hq vp vq;have bg : ys.length≤2000:=by rw [g.length_eq,List.length_append,q9y,q9y];omega
  have y : ∀ i j (hi : i < ys.length) (hj : j < ys.length),i≤j→ys[i].at_≤ys[j].at_:=by
    intro i j hi hj bo;rcases Nat.lt_or_ge i j with h | h
    · exact List.pairwise_iff_getElem.1 hs i j hi hj h
    · obtain rfl : i = j:=by omega
      exact Int.le_refl _
  have z : ∀ e∈ys,(e.list_ = 0∨e.list_ = 1)∧(e.by_ = 1∨e.by_ = -1):=by
    intro e he;rcases List.mem_append.1 (g.mem_iff.1 he) with h | h
    · obtain ⟨a,b,_⟩:=qdr h;exact ⟨.inl a,b⟩
    · obtain ⟨a,b,_⟩:=qdr h;exact ⟨.inr a,b⟩
  have:=U7 (f:=q65 ([p,q],ys) p2) (σ:=List Int × Int × Bool × List qu) (fun k c=>((k : Int),c)) ys.length (qqs f p q ys) (fun out=>Can out∧∀ x,has out x↔f (decide (has p x)) (decide (has q x)) = true) ?_ ?_ (k0:=0) (c0:=([0,0],0,false,[])) q0 ?_
  · obtain ⟨out,r,m⟩:=this;refine ⟨out,?_,m⟩;unfold q94;have r : loop (q65 ([p,q],ys) p2) (0,[0,0],0,false,[]) = some out:=r;rw [e1];simp only [qj,r];rfl
  · rintro k ⟨opn,d,inn,out⟩ hk ⟨s1,s2,s3,s4,s5,s6,s7,s8⟩;simp only at s1 s2 s3 s4 s5 s6 s7 s8;have af : decide ((k : Int) < (ys.length : Int)) = true:=Qb q0;have bf:=qsc ys[k].at_ d inn out q0;have hm:=z ys[k] (Ks hk);have bd : ys.take (k + 1) = ys.take k ++ [ys[k]]:=List.take_succ_eq_append_getElem hk;have al : ∀ e∈ys.take k,e.by_ = 1∨e.by_ = -1:=fun e he=>(z e (List.mem_of_mem_take he)).2;have b0:=qg0 (l:=0) (c:=fun _=>true) al;have b1:=qg0 (l:=1) (c:=fun _=>true) al;have av : (ys.take k).length = k:=by rw [List.length_take];omega
    rw [av] at b0 b1
    have ae : ∃ v,idxA 2 opn ys[k].list_ = some v∧opn.set ys[k].list_.toNat (w64 (v + ys[k].by_)) = [cnt 0 (fun _=>true) (ys.take (k + 1)),cnt 1 (fun _=>true) (ys.take (k + 1))]:=by
      subst s1;rw [bd,q36,q36];rcases hm.1 with h | h
      · refine ⟨cnt 0 (fun _=>true) (ys.take k),by rw [h];rfl,?_⟩;rw [h,Q3 q0];simp [cnt,h]
      · refine ⟨cnt 1 (fun _=>true) (ys.take k),by rw [h];rfl,?_⟩;rw [h,Q3 q0];simp [cnt,h]
    obtain ⟨v,o1,o2⟩:=ae;refine .inl ⟨([cnt 0 (fun _=>true) (ys.take (k + 1)),cnt 1 (fun _=>true) (ys.take (k + 1))],ys[k].at_,f (decide (0 < cnt 0 (fun _=>true) (ys.take (k + 1)))) (decide (0 < cnt 1 (fun _=>true) (ys.take (k + 1)))),if inn = true∧d≠ys[k].at_ then addS out d ys[k].at_ else out),?_,?_⟩
    · have x0 : ∀ a b : Int,idxA 2 [a,b] 0 = some a:=fun a b=>rfl;have x1 : ∀ a b : Int,idxA 2 [a,b] 1 = some b:=fun a b=>rfl;simp only [q65,af,qz,Qw hk,qj,bf,o1,o2,x0,x1,hp2];rw [Q3 q0];rfl
    · have ad : ∀ x,(0 < k→d≤x)→∀ i (h : i < ys.length),i < k→ys[i].at_≤x:=by
        intro x o i hi ap;have:=s3 q0 q0;have:=y i (k - 1) hi q0 q0;have:=o q0;omega
      have ac : ∀ x,x < ys[k].at_→∀ i (h : i < ys.length),k≤i→x < ys[i].at_:=by
        intro x o i hi ap;have:=y k i hk hi ap;omega
      have hF : ∀ x,(0 < k→d≤x)→x < ys[k].at_→f (decide (has p x)) (decide (has q x)) = inn:=by
        intro x o au;obtain ⟨c1,c2⟩:=qjy vp vq g hs k x (ad x o) (ac x au);rw [s2,decide_eq_decide.2 c1,decide_eq_decide.2 c2]
      have n : 0 < k→d≤ys[k].at_:=by
        intro u;rw [s3 q0 u];exact y (k - 1) k q0 hk q0
      have aa : k = 0→inn = false:=by
        intro u;subst u;rw [s2];exact hf
      by_cases s : inn = true∧d≠ys[k].at_
      · have ak : 0 < k:=by
          rcases Nat.eq_zero_or_pos k with h | h
          · rw [aa h] at s;cases s.1
          · exact h
        have hl:=n ak;have bc : d < ys[k].at_:=by have:=s.2;omega
        obtain ⟨d1,d2,d3,d4⟩:=qj1 s4 s5 bc;constructor
        · rfl
        · rfl
        · intro h _;rfl
        · simp only [qq s];exact d1
        · simp only [qq s];exact d3
        · omega
        · intro x;simp only [qq s];rw [d2,s7];constructor
          · rintro (⟨u,r,m⟩ | ⟨r,m⟩)
            · exact ⟨q0,q0,m⟩
            · exact ⟨q0,m,by rw [hF x (fun _=>r) m];exact s.1⟩
          · rintro ⟨u,r,m⟩;by_cases o : x < d
            · exact .inl ⟨ak,o,m⟩
            · exact .inr ⟨q0,r⟩
        · simp only [qq s];have:=qqt out d ys[k].at_;omega
      · constructor
        · rfl
        · rfl
        · intro h _;rfl
        · simp only [qs s];exact s4
        · simp only [qs s];intro t ht;rcases Nat.eq_zero_or_pos k with h | h
          · rw [s6 h] at ht;cases ht
          · have:=s5 t ht;have:=n h;omega
        · omega
        · intro x;simp only [qs s];rw [s7];constructor
          · rintro ⟨u,r,m⟩;exact ⟨q0,by have:=n u;omega,m⟩
          · rintro ⟨u,r,m⟩;by_cases o : 0 < k∧x < d
            · exact ⟨o.1,o.2,m⟩
            · have am : 0 < k→d≤x:=fun h=>by
                refine Int.not_lt.1 fun h'=>o ⟨h,h'⟩
              have:=hF x am r;rw [this] at m;refine absurd ⟨m,?_⟩ s;intro e;rcases Nat.eq_zero_or_pos k with h | h
              · rw [aa h] at m;cases m
              · have:=am h;omega
        · simp only [qs s];omega
  · rintro ⟨opn,d,inn,out⟩ ⟨s1,s2,s3,s4,s5,s6,s7,s8⟩;simp only at s1 s2 s3 s4 s5 s6 s7 s8;have af : decide ((ys.length : Int) < (ys.length : Int)) = false:=Q7 q0;refine ⟨out,by simp only [q65,af,qy],s4,fun x=>?_⟩;rw [s7];constructor
    · rintro ⟨_,_,h⟩;exact h
    · intro h;by_cases o : 0 < ys.length∧x < d
      · exact ⟨o.1,o.2,h⟩
      · obtain ⟨c1, c2⟩ := qjy vp vq g hs ys.length x (fun i hi _ => by
            have:=s3 q0 q0;have:=y i (ys.length - 1) hi q0 q0;have : d≤x:=Int.not_lt.1 fun h'=>o ⟨q0,h'⟩
            omega) (fun i hi bl=>q0)
        have az : ∀ l,cnt l (fun _=>true) (ys.take ys.length) = 0:=by
          intro l;rw [List.take_length,qk2 g,q36];by_cases u : l = 0
          · subst u;rw [qk3,q9q qr];rfl
          · rw [q9q u];by_cases r : l = 1
            · subst r;rw [qk3];rfl
            · rw [q9q r];rfl
        rw [az] at c1 c2;have n1 : ¬ has p x:=fun h=>absurd (c1.2 h) qr;have n2 : ¬ has q x:=fun h=>absurd (c2.2 h) qr;rw [Q7 n1,Q7 n2,hf] at h;cases h
  · constructor
    · simp [cnt]
    · simp [cnt,hf]
    · intro h u;omega
    · exact ⟨fun t ht=>(by cases ht),.nil⟩
    · intro t ht;cases ht
    · intro _;rfl
    · intro x;simp [has]
    · simp
end Go.Sh
namespace Go.Sh
open Go Go.Am
theorem qs8 {s : List qu} (h : q12 s = 0) : s.length≤400∧Good s:=by
  unfold q12 at h;split at h
  · cases h
  · split at h
    · rename_i b a;exact ⟨q0,a⟩
    · cases h
def dst (x : Int) (t : qu) : Int:=max (max (t.Lo - x) (x - t.Hi + 1)) 0
end Go.Sh
namespace Go.Sh
open Go Go.Am
noncomputable def q55 (kind : Int) (p q : List qu) : List qu:=(qe3 kind p q).getD []
theorem q6r (kind : Int) (p q : List qu) (hp : p.length≤100000) (hq : q.length≤100000) : qe3 kind p q = some (q55 kind p q)∧qfh kind p q (q55 kind p q):=by
  obtain ⟨out,a,b⟩:=qur kind p q hp hq;unfold q55;rw [a];exact ⟨rfl,b⟩
theorem quc (s : List qu) (b : qu→Option Bool) (c : qu→Bool) (h : ∀ t,b t = some (c t)) (q : s.length≤1000000) :
    ∃ r,qb6 s b = some r∧decide (r ≥ 0) = s.any c:=by
  have:=U7 (f:=q4c s b) (σ:=Unit) (fun k _=>(k : Int)) s.length (fun k _=>∀ i (h : i < s.length),i < k→c s[i] = false)
    (fun m=>∃ r : Int,(match m with | .inl b22=>some (-1) | .inr x1=>some x1) = some r∧decide (r ≥ 0) = s.any c) ?_ ?_ (k0:=0) (c0:=()) q0 (fun i _ hi=>q0)
  · obtain ⟨m,j,r,l,o⟩:=this;have j : loop (q4c s b) 0 = some m:=j;exact ⟨r,by unfold qb6;rw [j];exact l,o⟩
  · rintro k _ g hi;have hb : decide ((k : Int) < (s.length : Int)) = true:=Qb q0
    cases d : c s[k] with
    | true=>
      refine .inr ⟨.inr (k : Int),?_,(k : Int),rfl,?_⟩
      · simp only [q4c,hb,qz,Qw g,qj,h,d]
      · have : s.any c = true:=List.any_eq_true.2 ⟨s[k],Ks g,d⟩;rw [this];exact Qb q0
    | false=>
      refine .inl ⟨(),?_,?_⟩
      · simp only [q4c,hb,qz,Qw g,qj,h,d,qy];rw [Q3 q0];rfl
      · intro i a p;by_cases e : i = k
        · subst e;exact d
        · exact hi i a q0
  · rintro _ hi;have hb : decide ((s.length : Int) < (s.length : Int)) = false:=Q7 q0;refine ⟨.inl (),by simp only [q4c,hb,qy],-1,rfl,?_⟩
    have : s.any c = false:=by
      rw [List.any_eq_false];intro t n;obtain ⟨i,a,rfl⟩:=List.mem_iff_getElem.1 n;simp [hi i a a]
    rw [this];rfl
theorem qsm (s : List qu) (a : qu→Option Bool) (c : qu→Bool) (h : ∀ t,a t = some (c t)) (b : s.length≤1000000) : qb4 s a = some (s.any c):=by
  obtain ⟨r,f,d⟩:=quc s a c h b;unfold qb4;rw [f,qj,d]
open Classical in
noncomputable def qh9 (s : List qu) : List qu × Int:=if 400 < s.length then ([],4) else if ∀ t∈s,vld t then (q55 2 s [],0) else ([],8)
theorem qv7 (s : List qu) (k : s.length≤400) (c : ∀ t∈s,vld t) (p2 : Bool→Bool→Option Bool) (hp2 : ∀ a b,p2 a b = some a) : q94 s [] p2 = some (q55 2 s []):=by
  classical
  obtain ⟨out,f,d,h⟩:=qui (fun a _=>a) rfl p2 hp2 s [] q0 qe c (fun t g=>by cases g);obtain ⟨_,j⟩:=q6r 2 s [] q0 qe;rw [f];congr 1;refine q6d d j.can fun x=>?_;rw [h,j.pts];simp [Y3,q2a]
theorem qv6 (s : List qu) : q93 s = some (qh9 s):=by
  classical
  unfold q93 qh9;by_cases f : 400 < s.length
  · have e : decide ((s.length : Int) > 400) = true:=Qb q0;rw [e,qq f];rfl
  · have e : decide ((s.length : Int) > 400) = false:=Q7 q0;rw [e,qs f,qy,qsm s _ (fun t=>!decide (vld t)) (fun t=>by show (q4g t).bind _ = _;rw [qqf];rfl) q0,qj];by_cases c : ∀ t∈s,vld t
    · have : (s.any fun t=>!decide (vld t)) = false:=by
        rw [List.any_eq_false];intro t d;simp [c t d]
      rw [this,qy,qq c,qv7 s q0 c (fun x0 x1=>qc3 x0 x1) (fun a b=>rfl)];rfl
    · have : (s.any fun t=>!decide (vld t)) = true:=by
        rw [List.any_eq_true];obtain ⟨t,c⟩:=Classical.not_forall.1 c;obtain ⟨d,h⟩:=Classical.not_imp.1 c;exact ⟨t,d,by simp [h]⟩
      rw [this,qz,qs c]
def lenL : List qu→Int
  | []=>0
  | t::s=>(t.Hi - t.Lo) + lenL s
theorem qmh (a b : List qu) : lenL (a ++ b) = lenL a + lenL b:=by
  induction a with
  | nil=>simp [lenL]
  | cons t a ih=>simp only [List.cons_append,lenL,ih];omega
theorem qmi : ∀ {s : List qu},(∀ t∈s,vld t)→0≤lenL s∧lenL s≤2000000 * (s.length : Int)
  | [],_=>by simp [lenL]
  | t::s,h=>by
    obtain ⟨d,b⟩:=qmi (fun t a=>h t (List.mem_cons_of_mem _ a))
    obtain ⟨g,f,c⟩:=h t qe
    simp only [lenL,List.length_cons]
    omega
noncomputable def qh5 (s : List qu) : Int × Int:=if q12 s = 0 then (lenL s,0) else (0,q12 s)
theorem qut (s : List qu) (o : s.length≤400) (g : ∀ t∈s,vld t) : loop (qc2 s) (0,0) = some (lenL s)∧loop (qaf s) (0,0) = some (lenL s):=by
  have d : ∀ k,0≤lenL (s.take k)∧lenL (s.take k)≤800000000:=by
    intro k;have:=qmi (s:=s.take k) (fun t n=>g t (List.mem_of_mem_take n));have : (s.take k).length≤400:=by rw [List.length_take];omega
    omega
  constructor
  · have:=U7 (f:=qc2 s) (σ:=Int) (fun k c=>(c,(k : Int))) s.length (fun k c=>c = lenL (s.take k)) (fun r=>r = lenL s) ?_ ?_ (k0:=0) (c0:=0) q0 (by simp [lenL])
    · obtain ⟨b,h,rfl⟩:=this;exact h
    · rintro k c a rfl;have hb : decide ((k : Int) < (s.length : Int)) = true:=Qb q0;obtain ⟨m,l,j⟩:=g _ (Ks a);have:=d k;refine .inl ⟨lenL (s.take (k + 1)),?_,rfl⟩;simp only [qc2,hb,qz,Qw a,qj];rw [Q3 (x:=s[k].Hi - s[k].Lo) q0,Q3 (x:=lenL (s.take k) + _) q0,Q3 q0,List.take_succ_eq_append_getElem a,qmh];simp only [lenL,Int.add_zero];rfl
    · rintro c rfl;have hb : decide ((s.length : Int) < (s.length : Int)) = false:=Q7 q0;exact ⟨_,by simp only [qc2,hb,qy];rfl,by rw [List.take_length]⟩
  · have:=U7 (f:=qaf s) (σ:=Int) (fun k c=>(c,(k : Int))) s.length (fun k c=>c = lenL (s.take k)) (fun r=>r = lenL s) ?_ ?_ (k0:=0) (c0:=0) q0 (by simp [lenL])
    · obtain ⟨b,h,rfl⟩:=this;exact h
    · rintro k c a rfl;have hb : decide ((k : Int) < (s.length : Int)) = true:=Qb q0;obtain ⟨m,l,j⟩:=g _ (Ks a);have:=d k;refine .inl ⟨lenL (s.take (k + 1)),?_,rfl⟩;simp only [qaf,hb,qz,Qw a,qj];rw [Q3 (x:=lenL (s.take k) + s[k].Hi) q0,Q3 (x:=lenL (s.take k) + s[k].Hi - _) q0,Q3 q0,List.take_succ_eq_append_getElem a,qmh];have : lenL (s.take k) + s[k].Hi - s[k].Lo = lenL (s.take k) + lenL [s[k]]:=by simp only [lenL];omega
      rw [this];rfl
    · rintro c rfl;have hb : decide ((s.length : Int) < (s.length : Int)) = false:=Q7 q0;exact ⟨_,by simp only [qaf,hb,qy];rfl,by rw [List.take_length]⟩
theorem q15o (s : List qu) : qpv s = some (qh5 s)∧qnz s = some (qh5 s):=by
  unfold qpv qnz qh5;simp only [qjs,qxb,qj];by_cases h : q12 s = 0
  · obtain ⟨c,d⟩:=qs8 h;obtain ⟨a,b⟩:=qut s c d.1;have e : (q12 s != 0) = false:=by simpa using h
    simp only [e,qy,a,b,qj];simp only [h,if_true];exact ⟨trivial,trivial⟩
  · have e : (q12 s != 0) = true:=by simpa using h
    simp only [e,qz,qs h];exact ⟨trivial,trivial⟩
end Go.Sh
set_option maxHeartbeats 4000000
namespace Go.Sh
open Go Go.Am
def sg (a b : Int) : Int:=if a < b then -1 else 0
theorem J4 {a b : Int} : decide (sg a b < 0) = decide (a < b):=by
  unfold sg;by_cases h : a < b <;> simp [h]
def qO (a b : Int) : Option Int:=some (sg a b)
theorem Jm (a b : Int) : qO a b = some (sg a b):=rfl
theorem Jj (a b : Int) : Z7 a b = some (decide (a < b)):=by
  unfold Z7 q9p;have : (a != a) = false:=by simp
  simp []
theorem q13e : qf1 = q6k:=rfl
theorem q11h : (fun a=>q3q a) = (fun a=>q50 a):=by
  funext a;simp only [q3q,q50,q13e]
  all_goals exact K3
theorem q11i  : ∀ a,q3q a = q50 a:=fun a=>(congrFun q11h a)
theorem q11g : (fun a=>q1h a) = (fun a=>q20 a):=by
  funext a;simp only [q1h,q20,q11i]
  all_goals exact K3
theorem qpk  : ∀ a,q1h a = q20 a:=fun a=>(congrFun q11g a)
theorem q121 : (fun a=>q8c a) = (fun a=>Uh a qO):=by
  funext a a443;simp only [q8c,Uh,Jj,Jm,qj,J4]
  all_goals exact K3
theorem q122  : ∀ a,q8c a = Uh a qO:=fun a=>(congrFun q121 a)
theorem q11z : (fun p2 a=>q8b p2 a) = (fun p2 a=>q24 p2 a qO):=by
  funext p2 a a270;simp only [q8b,q24,q122]
  all_goals exact K3
theorem q120  : ∀ p2 a,q8b p2 a = q24 p2 a qO:=fun p2 a=>(congrFun (congrFun q11z p2) a)
theorem q11x : (fun b a p2=>q8a b a p2) = (fun b a p2=>q3g qO b a p2):=by
  funext b a p2;simp only [q8a,q3g,q120]
  all_goals exact K3
theorem q11y  : ∀ b a p2,q8a b a p2 = q3g qO b a p2:=fun b a p2=>(congrFun (congrFun (congrFun q11x b) a) p2)
theorem q13c : (fun p2 p3=>q8y p2 p3) = (fun p2 p3=>Uk p2 p3 qO):=by
  funext p2 p3 a193;simp only [q8y,Uk,Jj,Jm,qj,J4]
  all_goals exact K3
theorem q13d  : ∀ p2 p3,q8y p2 p3 = Uk p2 p3 qO:=fun p2 p3=>(congrFun (congrFun q13c p2) p3)
theorem q13b : (fun b a p2 p3=>q5w b a p2 p3) = (fun b a p2 p3=>q1e qO b a p2 p3):=by
  funext b a p2 p3;simp only [q5w,q1e,q13d]
  all_goals exact K3
theorem qpm  : ∀ b a p2 p3,q5w b a p2 p3 = q1e qO b a p2 p3:=fun b a p2 p3=>(congrFun (congrFun (congrFun (congrFun q13b b) a) p2) p3)
theorem q11t : (fun p2 a=>q88 p2 a) = (fun p2 a=>q22 qO p2 a):=by
  funext p2 a a123;simp only [q88,q22,qpm]
  all_goals exact K3
theorem q11u  : ∀ p2 a,q88 p2 a = q22 qO p2 a:=fun p2 a=>(congrFun (congrFun q11t p2) a)
theorem q11v : (fun a=>q89 a) = (fun a=>q23 a qO):=by
  funext a a191;simp only [q89,q23,qpm]
  all_goals exact K3
theorem q11w  : ∀ a,q89 a = q23 a qO:=fun a=>(congrFun q11v a)
theorem q11r : (fun b a p2=>q87 b a p2) = (fun b a p2=>q3f qO b a p2):=by
  funext b a p2;simp only [q87,q3f,q11u,q11w]
  all_goals exact K3
theorem q11s  : ∀ b a p2,q87 b a p2 = q3f qO b a p2:=fun b a p2=>(congrFun (congrFun (congrFun q11r b) a) p2)
theorem q126 : (fun a=>q2t a) = (fun a=>q3h a):=by
  funext a;simp only [q2t,q3h,qpk]
  all_goals exact K3
theorem q127  : ∀ a,q2t a = q3h a:=fun a=>(congrFun q126 a)
theorem q13f : (fun a=>q2u a) = (fun a=>q3l a):=by
  funext a;simp only [q2u,q3l]
  all_goals exact K3
theorem q13g  : ∀ a,q2u a = q3l a:=fun a=>(congrFun q13f a)
theorem q11n : (fun b p2 a=>q85 b p2 a) = (fun b p2 a=>q15 b p2 a):=by
  funext b p2 a a153;simp only [q85,q15,q13g]
  all_goals exact K3
theorem q11o  : ∀ b p2 a,q85 b p2 a = q15 b p2 a:=fun b p2 a=>(congrFun (congrFun (congrFun q11n b) p2) a)
theorem q11l : (fun b a p2=>q84 b a p2) = (fun b a p2=>q21 qO b a p2):=by
  funext b a p2;simp only [q84,q21,q127,q11o]
  all_goals exact K3
theorem q11m  : ∀ b a p2,q84 b a p2 = q21 qO b a p2:=fun b a p2=>(congrFun (congrFun (congrFun q11l b) a) p2)
theorem q128 : (fun b a p2 p3=>q4e b a p2 p3) = (fun b a p2 p3=>q17 qO b a p2 p3):=by
  funext b a p2 p3;simp only [q4e,q17,Jj,Jm,qj,J4]
  all_goals exact K3
theorem q129  : ∀ b a p2 p3,q4e b a p2 p3 = q17 qO b a p2 p3:=fun b a p2 p3=>(congrFun (congrFun (congrFun (congrFun q128 b) a) p2) p3)
theorem q123 : (fun b a p2 p3 p4=>q5q b a p2 p3 p4) = (fun b a p2 p3 p4=>q16 qO b a p2 p3 p4):=by
  funext b a p2 p3 p4;simp only [q5q,q16,q129]
  all_goals exact K3
theorem qpl  : ∀ b a p2 p3 p4,q5q b a p2 p3 p4 = q16 qO b a p2 p3 p4:=fun b a p2 p3 p4=>(congrFun (congrFun (congrFun (congrFun (congrFun q123 b) a) p2) p3) p4)
theorem q124 : (fun b a p2=>q4d b a p2) = (fun b a p2=>Ui qO b a p2):=by
  funext b a p2;simp only [q4d,Ui,qpl]
  all_goals exact K3
theorem q125  : ∀ b a p2,q4d b a p2 = Ui qO b a p2:=fun b a p2=>(congrFun (congrFun (congrFun q124 b) a) p2)
theorem q11p : (fun b a p2=>q86 b a p2) = (fun b a p2=>q3e b a p2 qO):=by
  funext b a p2;simp only [q86,q3e,qpl,q125]
  all_goals exact K3
theorem q11q  : ∀ b a p2,q86 b a p2 = q3e b a p2 qO:=fun b a p2=>(congrFun (congrFun (congrFun q11p b) a) p2)
theorem q13a : qbw = q3k:=by
  funext a119;simp only [qbw,q3k]
  all_goals exact K3
theorem q138 : (fun b a p2=>q8w b a p2) = (fun b a p2=>q29 qO b a p2):=by
  funext b a p2;simp only [q8w,q29,q13a]
  all_goals exact K3
theorem q139  : ∀ b a p2,q8w b a p2 = q29 qO b a p2:=fun b a p2=>(congrFun (congrFun (congrFun q138 b) a) p2)
theorem q12e : (fun p2 a=>q8g p2 a) = (fun p2 a=>q18 p2 a qO):=by
  funext p2 a a667;simp only [q8g,q18,Jj,Jm,qj,J4]
  all_goals exact K3
theorem q12f  : ∀ p2 a,q8g p2 a = q18 p2 a qO:=fun p2 a=>(congrFun (congrFun q12e p2) a)
theorem q12g : qbj = q19 qO:=by
  funext a822;simp only [qbj,q19,Jj,Jm,qj,J4]
  all_goals exact K3
theorem q12h : (fun p2 a=>q8h p2 a) = (fun p2 a=>q1a p2 qO a):=by
  funext p2 a a912;simp only [q8h,q1a,Jj,Jm,qj,J4]
  all_goals exact K3
theorem q12i  : ∀ p2 a,q8h p2 a = q1a p2 qO a:=fun p2 a=>(congrFun (congrFun q12h p2) a)
theorem q12c : (fun p2 a=>q5t p2 a) = (fun p2 a=>Zz p2 qO a):=by
  funext p2 a a432;have b : @q5t.match_1.{1} = @Zz.match_1.{1} Int:=by funext motive m f g;cases m <;> rfl
  unfold q5t Zz;rw [b];simp only [q12f,q12g,q12i]
  all_goals repeat' first | with_reducible rfl | (congr 1) | funext _
  done
theorem q12d  : ∀ p2 a,q5t p2 a = Zz p2 qO a:=fun p2 a=>(congrFun (congrFun q12c p2) a)
theorem q12a : (fun b a p2=>q5s b a p2) = (fun b a p2=>Uj qO b a p2):=by
  funext b a p2;have c : @q5s.match_1.{1} = @Uj.match_1.{1} Int:=by funext motive m f g;cases m <;> rfl
  unfold q5s Uj;rw [c];simp only [q12d]
  all_goals repeat' first | with_reducible rfl | (congr 1) | funext _
  done
theorem q12b  : ∀ b a p2,q5s b a p2 = Uj qO b a p2:=fun b a p2=>(congrFun (congrFun (congrFun q12a b) a) p2)
theorem q12o : (fun a b=>q8k a b) = (fun a b=>q1b a b qO):=by
  funext a b a360;simp only [q8k,q1b,Jj,Jm,qj,J4]
  all_goals exact K3
theorem q12p  : ∀ a b,q8k a b = q1b a b qO:=fun a b=>(congrFun (congrFun q12o a) b)
theorem q12q : (fun a b c=>q8l a b c) = (fun a b c=>q1c a b c qO):=by
  funext a b c a439;simp only [q8l,q1c,Jj,Jm,qj,J4]
  all_goals exact K3
theorem q12r  : ∀ a b c,q8l a b c = q1c a b c qO:=fun a b c=>(congrFun (congrFun (congrFun q12q a) b) c)
theorem q12m : (fun a=>q8j a) = (fun a=>q27 a qO):=by
  funext a a304;simp only [q8j,q27,q12p,q12r]
  all_goals exact K3
theorem q12n  : ∀ a,q8j a = q27 a qO:=fun a=>(congrFun q12m a)
theorem q12k : (fun b a p2 p3=>q8i b a p2 p3) = (fun b a p2 p3=>q26 qO b a p2 p3):=by
  funext b a p2 p3;simp only [q8i,q26,q12n]
  all_goals exact K3
theorem q12l  : ∀ b a p2 p3,q8i b a p2 p3 = q26 qO b a p2 p3:=fun b a p2 p3=>(congrFun (congrFun (congrFun (congrFun q12k b) a) p2) p3)
theorem q12t : (fun p2 d c b p3 a=>q8n p2 d c b p3 a) = (fun p2 d c b p3 a=>q3i p2 d c b p3 a qO):=by
  funext p2 d c b p3 a a159;simp only [q8n,q3i,Jj,Jm,qj,J4]
  all_goals exact K3
theorem q12u  : ∀ p2 d c b p3 a,q8n p2 d c b p3 a = q3i p2 d c b p3 a qO:=fun p2 d c b p3 a=>(congrFun (congrFun (congrFun (congrFun (congrFun (congrFun q12t p2) d) c) b) p3) a)
theorem q12v : (fun a f d c p3 b=>q8o a f d c p3 b) = (fun a f d c p3 b=>q3j a f d c p3 b qO):=by
  funext a f d c p3 b a239;simp only [q8o,q3j,Jj,Jm,qj,J4]
  all_goals exact K3
theorem q12w  : ∀ a f d c p3 b,q8o a f d c p3 b = q3j a f d c p3 b qO:=fun a f d c p3 b=>(congrFun (congrFun (congrFun (congrFun (congrFun (congrFun q12v a) f) d) c) p3) b)
theorem q12z : (fun a b=>q8q a b) = (fun a b=>Jg a b qO):=by
  funext a b a542;simp only [q8q,Jg,Jj,Jm,qj,J4]
  all_goals exact K3
theorem q130  : ∀ a b,q8q a b = Jg a b qO:=fun a b=>(congrFun (congrFun q12z a) b)
theorem q131 : (fun a b c=>q8r a b c) = (fun a b c=>Jh a b c qO):=by
  funext a b c a622;simp only [q8r,Jh,Jj,Jm,qj,J4]
  all_goals exact K3
theorem q132  : ∀ a b c,q8r a b c = Jh a b c qO:=fun a b c=>(congrFun (congrFun (congrFun q131 a) b) c)
theorem q12x : (fun a=>q8p a) = (fun a=>q28 a qO):=by
  funext a a488;simp only [q8p,q28,q130,q132]
  all_goals exact K3
theorem q12y  : ∀ a,q8p a = q28 a qO:=fun a=>(congrFun q12x a)
theorem q12j : (fun b a p2 p3=>q8m b a p2 p3) = (fun b a p2 p3=>q25 qO b a p2 p3):=by
  funext b a p2 p3;simp only [q8m,q25,q12u,q12w,q12y]
  all_goals exact K3
theorem q12s  : ∀ b a p2 p3,q8m b a p2 p3 = q25 qO b a p2 p3:=fun b a p2 p3=>(congrFun (congrFun (congrFun (congrFun q12j b) a) p2) p3)
theorem q134 : (fun a=>q5u a) = (fun a=>Zl qO a):=by
  funext a a305;have b : @q5u.match_1.{1} = @Zl.match_1.{1} Int:=by funext motive m f g;cases m <;> rfl
  unfold q5u Zl;rw [b];simp only [q11y,q11s,q11m,q11q,q139,q12b,q12l,q12s,Jj,Jm,qj,J4]
  all_goals repeat' first | with_reducible rfl | (congr 1) | funext _
  done
theorem q135  : ∀ a,q5u a = Zl qO a:=fun a=>(congrFun q134 a)
theorem q136 : (fun a c b p2 p3=>q5v a c b p2 p3) = (fun a c b p2 p3=>q1d a qO c b p2 p3):=by
  funext a c b p2 p3;simp only [q5v,q1d,q135]
  all_goals exact K3
theorem q137  : ∀ a c b p2 p3,q5v a c b p2 p3 = q1d a qO c b p2 p3:=fun a c b p2 p3=>(congrFun (congrFun (congrFun (congrFun (congrFun q136 a) c) b) p2) p3)
theorem q133 : ∀ N,q8v N = Zc N qO:=by
  intro N
  induction N with
  | zero=>rfl
  | succ N ih=>
    funext a b c d;show q5v (q8v N) a b c d = q1d (Zc N qO) qO a b c d;rw [ih,q137]
theorem q11j : (fun a=>q1m a) = (fun a=>q3d qO a):=by
  funext a;simp only [q1m,q3d,qpk,q133]
  all_goals exact K3
theorem q11k  : ∀ a,q1m a = q3d qO a:=fun a=>(congrFun q11j a)
end Go.Sh
