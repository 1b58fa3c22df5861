/- Pg4 Pg5 Pg6 Pj1 Pj2 Pl4 Pj3 Po1 -/
import Derived.Test.YtmekakoiicomaaaGreatK9
namespace Go.Sh
open Go Go.Am
section
variable {T : Type} [Inhabited T] {P : T→Prop} {lt : T→T→Bool} {q : T→T→Option Int}
theorem qd7 {f : Int→Option (Int ⊕ Int)} (p : T→Bool) (d : Array T) (j : Nat)
    (b : ∀ k : Nat,k≤1000002→f (k : Int) = if (decide (k≤j) && p d[k]!) = true then some (.inl ((k + 1 : Nat) : Int)) else some (.inr (k : Int))) (g : j≤1000000) :
    ∀ (m i : Nat),j + 1 - i = m→i≤1000002→loop f (i : Int) = some ((Sort.scanUp p d j i : Nat) : Int):=by
  intro m
  induction m with
  | zero=>
    intro i c hi;unfold Sort.scanUp;have a : ¬ (decide (i≤j) && p d[i]!) = true:=by simp;omega
    rw [qy a];exact Kc (by rw [b i hi,qy a])
  | succ m ih=>
    intro i c hi;unfold Sort.scanUp;by_cases a : (decide (i≤j) && p d[i]!) = true
    · rw [qs a,Ki (by rw [b i hi,qs a])];exact ih (i + 1) q6 q6
    · rw [qy a];exact Kc (by rw [b i hi,qy a])
theorem q9y {f : Int→Option (Int ⊕ Int)} (p : T→Bool) (d : Array T) (i n : Nat) (hi : 1≤i)
    (b : ∀ k : Nat,k < n→f (k : Int) = if (decide (i≤k) && p d[k]!) = true then some (.inl ((k - 1 : Nat) : Int)) else some (.inr (k : Int))) :
    ∀ (j : Nat),j < n→loop f (j : Int) = some ((Sort.scanDown p d i j : Nat) : Int)
  | 0,hj=>by
    have a : ¬ (decide (i≤0) && p d[0]!) = true:=by simp;omega
    exact Kc (by rw [b 0 hj,qy a];rfl)
  | j + 1,hj=>by
    unfold Sort.scanDown
    by_cases a : (decide (i≤j + 1) && p d[j + 1]!) = true
    · rw [qs a,Ki (by rw [b (j + 1) hj,qs a])]
      exact q9y p d i n hi b j q6
    · rw [qy a]
      exact Kc (by rw [b (j + 1) hj,qy a])
theorem qhr (b : Kq q lt P) {n : Nat} {d : Array T} (hd : AllP n P d) {a j : Nat} (c : a < n) (o : j < n) (x : Int) (k : Nat) (m : k≤1000002) :
    Zt (x,(j : Int),d.toList) (a : Int) q (k : Int) = if (decide (k≤j) && (fun x=>lt x d[a]!) d[k]!) = true then some (.inl ((k + 1 : Nat) : Int)) else some (.inr (k : Int)):=by
  have l:=hd.1;by_cases h : k≤j
  · obtain ⟨r,g,f⟩:=b d[k]! d[a]! (hd.2.2 _ q6) (hd.2.2 _ c);have t : decide ((k : Int)≤(j : Int)) = true:=Qe q6;simp only [Zt,t,Q1,gx (d:=d) (k:=k) q6,gx (d:=d) (k:=a) q6,qp,g,f,w1p k q6];simp only [Qe h,Bool.true_and,Bool.cond_eq_ite]
  · have t : decide ((k : Int)≤(j : Int)) = false:=Qm q6;simp only [Zt,t,Q2,qp];simp [h]
theorem qhs (c : Kq q lt P) {n : Nat} {d : Array T} (hd : AllP n P d) {a i : Nat} (f : a < n) (hi : 1≤i) (x y : Int) (k : Nat) (m : k < n) :
    Zu (i : Int) (x,y,d.toList) (a : Int) q (k : Int) = if (decide (i≤k) && (fun x=>!lt x d[a]!) d[k]!) = true then some (.inl ((k - 1 : Nat) : Int)) else some (.inr (k : Int)):=by
  have j:=hd.1;have l:=hd.2.1;by_cases h : i≤k
  · obtain ⟨r,g,b⟩:=c d[k]! d[a]! (hd.2.2 _ q6) (hd.2.2 _ f);have t : decide ((i : Int)≤(k : Int)) = true:=Qe q6;have w : w64 ((k : Int) - 1) = ((k - 1 : Nat) : Int):=by rw [Qa q6];omega
    simp only [Zu,t,Q1,gx (d:=d) (k:=k) q6,gx (d:=d) (k:=a) q6,qp,g,b,w];simp only [Qe h,Bool.true_and,Bool.cond_eq_ite]
  · have t : decide ((i : Int)≤(k : Int)) = false:=Qm q6;simp only [Zu,t,Q2,qp];simp [h]
theorem qqd (b : Kq q lt P) {n : Nat} {d : Array T} (hd : AllP n P d) {a j : Nat} (c : a < n) (o : j < n) (x : Int) (k : Nat) (m : k≤1000002) :
    U4 (x,(j : Int),d.toList) (a : Int) q (k : Int) = if (decide (k≤j) && (fun x=>!lt d[a]! x) d[k]!) = true then some (.inl ((k + 1 : Nat) : Int)) else some (.inr (k : Int)):=by
  have l:=hd.1;by_cases h : k≤j
  · obtain ⟨r,g,f⟩:=b d[a]! d[k]! (hd.2.2 _ c) (hd.2.2 _ q6);have t : decide ((k : Int)≤(j : Int)) = true:=Qe q6;simp only [U4,t,Q1,gx (d:=d) (k:=k) q6,gx (d:=d) (k:=a) q6,qp,g,f,w1p k q6];simp only [Qe h,Bool.true_and,Bool.cond_eq_ite]
  · have t : decide ((k : Int)≤(j : Int)) = false:=Qm q6;simp only [U4,t,Q2,qp];simp [h]
theorem qqe (c : Kq q lt P) {n : Nat} {d : Array T} (hd : AllP n P d) {a i : Nat} (f : a < n) (hi : 1≤i) (x y : Int) (k : Nat) (m : k < n) :
    U5 (i : Int) (x,y,d.toList) (a : Int) q (k : Int) = if (decide (i≤k) && (fun x=>lt d[a]! x) d[k]!) = true then some (.inl ((k - 1 : Nat) : Int)) else some (.inr (k : Int)):=by
  have j:=hd.1;have l:=hd.2.1;by_cases h : i≤k
  · obtain ⟨r,g,b⟩:=c d[a]! d[k]! (hd.2.2 _ f) (hd.2.2 _ q6);have t : decide ((i : Int)≤(k : Int)) = true:=Qe q6;have w : w64 ((k : Int) - 1) = ((k - 1 : Nat) : Int):=by rw [Qa q6];omega
    simp only [U5,t,Q1,gx (d:=d) (k:=k) q6,gx (d:=d) (k:=a) q6,qp,g,b,w];simp only [Qe h,Bool.true_and,Bool.cond_eq_ite]
  · have t : decide ((i : Int)≤(k : Int)) = false:=Qm q6;simp only [U5,t,Q2,qp];simp [h]
theorem qq8 (r : Kq q lt P) (a n : Nat) (u : a < n) : ∀ (m i j : Nat) (d : Array T),j + 1 - i = m→AllP n P d→1≤i→i≤n + 1→j < n→
    loop (Uu (a : Int) q) ((i : Int),(j : Int),d.toList) = some (((Sort.partLoop lt a i j d).1 : Int),(Sort.partLoop lt a i j d).2.toList)∧AllP n P (Sort.partLoop lt a i j d).2∧(Sort.partLoop lt a i j d).1 < n:=by
  intro m
  induction m using Nat.strongRecOn with
  | _ m ih=>
    intro i j d hm hd hi z s;have ab:=hd.1;have hn:=hd.2.1;rw [Sort.partLoop_eq];have p:=qd7 (f:=Zt ((i : Int),(j : Int),d.toList) (a : Int) q) (fun x=>lt x d[a]!) d j (fun k l=>qhr r hd u s _ k l) q6 _ i rfl q6;have g1:=Sort.scanUp_ge (fun x=>lt x d[a]!) d j i;have u1:=(Sort.scanUp_spec (fun x=>lt x d[a]!) d j _ i rfl).2.1;generalize Sort.scanUp (fun x=>lt x d[a]!) d j i = c at p g1 u1 ⊢;have o:=q9y (f:=Zu (c : Int) ((i : Int),(j : Int),d.toList) (a : Int) q) (fun x=>!lt x d[a]!) d c n q6 (fun k l=>qhs r hd u q6 _ _ k l) j s;have y:=Sort.scanDown_le (fun x=>!lt x d[a]!) d c j;generalize Sort.scanDown (fun x=>!lt x d[a]!) d c j = g at o y ⊢;by_cases v : c > g
    · rw [qs v];have t : decide ((c : Int) > (g : Int)) = true:=Qe q6;refine ⟨Kc ?_,hd,by show g < n;omega⟩;simp only [Uu,p,o,qp,t,Q1]
    · rw [qy v];have t : decide ((c : Int) > (g : Int)) = false:=Qm q6;have h:=ih ((g - 1) + 1 - (c + 1)) q6 (c + 1) (g - 1) _ rfl (hd.swp (a:=c) (b:=g) q6 q6) q6 q6 q6;refine ⟨?_,h.2⟩;rw [Ki (a':=(((c + 1 : Nat) : Int),((g - 1 : Nat) : Int),(Sort.swp d c g).toList)) ?_]
      · exact h.1
      · have w : w64 ((g : Int) - 1) = ((g - 1 : Nat) : Int):=by rw [Qa q6];omega
        simp only [Uu,p,o,qp,t,Q2,gx (d:=d) (k:=c) q6,gx (d:=d) (k:=g) q6,gxs (d:=d) (k:=g) q6,Int.toNat_natCast,gswp,w,w1p c q6]
theorem qq7 (p : Kq q lt P) (a n : Nat) (s : a < n) : ∀ (m i j : Nat) (d : Array T),j + 1 - i = m→AllP n P d→1≤i→i≤n + 1→j < n→
    loop (Ut (a : Int) q) ((i : Int),(j : Int),d.toList) = some (((Sort.partEqLoop lt a i j d).1 : Int),(Sort.partEqLoop lt a i j d).2.toList):=by
  intro m
  induction m using Nat.strongRecOn with
  | _ m ih=>
    intro i j d hm hd hi y r;have aa:=hd.1;have hn:=hd.2.1;rw [Sort.partEqLoop_eq];have o:=qd7 (f:=U4 ((i : Int),(j : Int),d.toList) (a : Int) q) (fun x=>!lt d[a]! x) d j (fun k h=>qqd p hd s r _ k h) q6 _ i rfl q6;have g1:=Sort.scanUp_ge (fun x=>!lt d[a]! x) d j i;have z:=(Sort.scanUp_spec (fun x=>!lt d[a]! x) d j _ i rfl).2.1;generalize Sort.scanUp (fun x=>!lt d[a]! x) d j i = c at o g1 z ⊢;have l:=q9y (f:=U5 (c : Int) ((i : Int),(j : Int),d.toList) (a : Int) q) (fun x=>lt d[a]! x) d c n q6 (fun k h=>qqe p hd s q6 _ _ k h) j r;have v:=Sort.scanDown_le (fun x=>lt d[a]! x) d c j;generalize Sort.scanDown (fun x=>lt d[a]! x) d c j = g at l v ⊢;by_cases u : c > g
    · rw [qs u];have t : decide ((c : Int) > (g : Int)) = true:=Qe q6;refine Kc ?_;simp only [Ut,o,l,qp,t,Q1]
    · rw [qy u];have t : decide ((c : Int) > (g : Int)) = false:=Qm q6;rw [Ki (a':=(((c + 1 : Nat) : Int),((g - 1 : Nat) : Int),(Sort.swp d c g).toList)) ?_]
      · exact ih ((g - 1) + 1 - (c + 1)) q6 (c + 1) (g - 1) _ rfl (hd.swp (a:=c) (b:=g) q6 q6) q6 q6 q6
      · have w : w64 ((g : Int) - 1) = ((g - 1 : Nat) : Int):=by rw [Qa q6];omega
        simp only [Ut,o,l,qp,t,Q2,gx (d:=d) (k:=c) q6,gx (d:=d) (k:=g) q6,gxs (d:=d) (k:=g) q6,Int.toNat_natCast,gswp,w,w1p c q6]
theorem qqa (c : Kq q lt P) {a b n p : Nat} (hb : b≤n) (f : a < b) (hp : p < n) {d : Array T} (hd : AllP n P d) :
    Us q d.toList (a : Int) (b : Int) (p : Int) = some (((Sort.partitionEqual lt d a b p).1 : Int),(Sort.partitionEqual lt d a b p).2.toList):=by
  have g:=hd.1;have h:=hd.2.1;have w : w64 ((b : Int) - 1) = ((b - 1 : Nat) : Int):=by rw [Qa q6];omega
  have s:=qq7 c a n q6 _ (a + 1) (b - 1) _ rfl (hd.swp (a:=a) (b:=p) q6 hp) q6 q6 q6;unfold Us Sort.partitionEqual;simp only [gx (d:=d) (k:=p) q6,gx (d:=d) (k:=a) q6,gxs (d:=d) (k:=p) q6,qp,Int.toNat_natCast,gswp,w,w1p a q6,s]
theorem qqb (l : Kq q lt P) {a b n p : Nat} (hb : b≤n) (u : a < b) (hp : p < n) {d : Array T} (hd : AllP n P d) :
    Ur q d.toList (a : Int) (b : Int) (p : Int) = some (((Sort.partition lt d a b p).1 : Int),(Sort.partition lt d a b p).2.1,(Sort.partition lt d a b p).2.2.toList):=by
  have ab:=hd.1;have hn:=hd.2.1;have w : w64 ((b : Int) - 1) = ((b - 1 : Nat) : Int):=by rw [Qa q6];omega
  have h:=hd.swp (a:=a) (b:=p) q6 hp
  have e1 : q1o (b : Int) d.toList (a : Int) d[p]! (p : Int) d[a]! q = Zt ((0 : Int),((b - 1 : Nat) : Int),(Sort.swp d a p).toList) (a : Int) q:=by
    funext k;simp only [q1o,Zt,w,Int.toNat_natCast,gswp]
  have e2 : ∀ c : Int,q1p c d.toList (a : Int) d[p]! (p : Int) d[a]! q = Zu c ((0 : Int),(0 : Int),(Sort.swp d a p).toList) (a : Int) q:=by
    intro c;funext k;simp only [q1p,Zu,Int.toNat_natCast,gswp]
  unfold Ur Sort.partition;simp only [gx (d:=d) (k:=p) q6,gx (d:=d) (k:=a) q6,gxs (d:=d) (k:=p) q6,qp,e1,e2,Int.toNat_natCast,gswp,w,w1p a q6];generalize Sort.swp d a p = D at h ⊢;have ad:=h.1;have r:=qd7 (f:=Zt ((0 : Int),((b - 1 : Nat) : Int),D.toList) (a : Int) q) (fun x=>lt x D[a]!) D (b - 1) (fun k j=>qhr l h q6 q6 _ k j) q6 _ (a + 1) rfl q6;have g1:=Sort.scanUp_ge (fun x=>lt x D[a]!) D (b - 1) (a + 1);generalize Sort.scanUp (fun x=>lt x D[a]!) D (b - 1) (a + 1) = c at r g1 ⊢;have m:=q9y (f:=Zu (c : Int) ((0 : Int),(0 : Int),D.toList) (a : Int) q) (fun x=>!lt x D[a]!) D c n q6 (fun k j=>qhs l h q6 q6 _ _ k j) (b - 1) q6;have y:=Sort.scanDown_le (fun x=>!lt x D[a]!) D c (b - 1);generalize Sort.scanDown (fun x=>!lt x D[a]!) D c (b - 1) = g at m y ⊢;simp only [r,m,qp];by_cases s : c > g
  · have t : decide ((c : Int) > (g : Int)) = true:=Qe q6;simp only [qs s,t,Q1,gx (d:=D) (k:=a) q6,gx (d:=D) (k:=g) q6,gxs (d:=D) (k:=a) q6,qp,Int.toNat_natCast,gswp]
  · have t : decide ((c : Int) > (g : Int)) = false:=Qm q6;have w2 : w64 ((g : Int) - 1) = ((g - 1 : Nat) : Int):=by rw [Qa q6];omega
    obtain ⟨s3,o,v⟩:=qq8 l a n q6 _ (c + 1) (g - 1) _ rfl (h.swp (a:=c) (b:=g) q6 q6) q6 q6 q6;simp only [qy s,t,Q2,gx (d:=D) (k:=c) q6,gx (d:=D) (k:=g) q6,gxs (d:=D) (k:=g) q6,qp,Int.toNat_natCast,gswp,w2,w1p c q6,s3];generalize Sort.partLoop lt a (c + 1) (g - 1) (Sort.swp D c g) = R at o v ⊢;have z:=o.1;simp only [gx (d:=R.2) (k:=a) q6,gx (d:=R.2) (k:=R.1) q6,gxs (d:=R.2) (k:=a) q6,qp,gswp]
theorem qrp (l : Kq q lt P) {b n : Nat} (hb : b≤n) {d : Array T} (hd : AllP n P d) (x y : Int) : ∀ (m i : Nat),b - i = m→1≤i→i≤b→
    loop (U1 (b : Int) (x,y,d.toList) q) (i : Int) = some ((Sort.scanSorted lt d b i : Nat) : Int)∧i≤Sort.scanSorted lt d b i∧Sort.scanSorted lt d b i≤b:=by
  have o:=hd.1;have p:=hd.2.1;intro m
  induction m with
  | zero=>
    intro i j hi a;unfold Sort.scanSorted;rw [qy (by simp;omega)];have t : decide ((i : Int) < (b : Int)) = false:=Qm q6;exact ⟨Kc (by simp only [U1,t,Q2,qp]),Nat.le_refl _,a⟩
  | succ m ih=>
    intro i j hi a;unfold Sort.scanSorted;have t : decide ((i : Int) < (b : Int)) = true:=Qe q6;have w : w64 ((i : Int) - 1) = ((i - 1 : Nat) : Int):=by rw [Qa q6];omega
    obtain ⟨r,h,g⟩:=l d[i]! d[i - 1]! (hd.2.2 _ q6) (hd.2.2 _ q6);by_cases c : lt d[i]! d[i - 1]! = true
    · rw [qy (by simp [c])];refine ⟨Kc ?_,Nat.le_refl _,a⟩;simp only [U1,t,Q1,w,gx (d:=d) (k:=i) q6,gx (d:=d) (k:=i - 1) q6,qp,h,g,c,Bool.not_true,Q2]
    · have c : lt d[i]! d[i - 1]! = false:=by simpa using c
      rw [qs (by simp [c];omega)];have f:=ih (i + 1) q6 q6 q6;refine ⟨?_,q6,f.2.2⟩;rw [Ki (a':=((i + 1 : Nat) : Int)) ?_]
      · exact f.1
      · simp only [U1,t,Q1,w,gx (d:=d) (k:=i) q6,gx (d:=d) (k:=i - 1) q6,qp,h,g,c,Bool.not_false,w1p i q6]
theorem qir (g : Kq q lt P) (n : Nat) : ∀ (j : Nat) (d : Array T),AllP n P d→j < n→loop (U2 q) ((j : Int),d.toList) = some (Sort.shiftDown lt j d).toList∧AllP n P (Sort.shiftDown lt j d)
  | 0,d,hd,hj=>by
    have t : decide (((0 : Nat) : Int) ≥ 1) = false:=Qm q6
    exact ⟨Kc (by simp only [U2,t,Q2];rfl),hd⟩
  | j + 1,d,hd,hj=>by
    have m:=hd.1
    have o:=hd.2.1
    have t : decide (((j + 1 : Nat) : Int) ≥ 1) = true:=Qe q6
    obtain ⟨r,l,f⟩:=g d[j + 1]! d[j]! (hd.2.2 _ hj) (hd.2.2 _ q6)
    unfold Sort.shiftDown
    by_cases c : lt d[j + 1]! d[j]! = true
    · rw [qy (by simp [c])]
      have h:=qir g n j _ (hd.swp (a:=j + 1) (b:=j) hj q6) q6
      refine ⟨?_,h.2⟩
      rw [Ki (a':=((j : Int),(Sort.swp d (j + 1) j).toList)) ?_]
      · exact h.1
      · simp only [U2,t,Q1,gx (d:=d) (k:=j + 1) q6,w1m j q6,gx (d:=d) (k:=j) q6,gxs (d:=d) (k:=j) q6,qp,l,f,c,Bool.not_true,Q2,Int.toNat_natCast,gswp]
    · have c : lt d[j + 1]! d[j]! = false:=by simpa using c
      rw [qs (by simp [c])]
      refine ⟨Kc ?_,hd⟩
      simp only [U2,t,Q1,gx (d:=d) (k:=j + 1) q6,w1m j q6,gx (d:=d) (k:=j) q6,qp,l,f,c,Bool.not_false]
theorem qit (p : Kq q lt P) {b n : Nat} (hb : b≤n) (c : Int) : ∀ (m j : Nat) (d : Array T),b - j = m→AllP n P d→1≤j→loop (U3 (b : Int) q c) ((j : Int),d.toList) = some (c,(Sort.shiftUp lt b j d).toList)∧AllP n P (Sort.shiftUp lt b j d):=by
  intro m
  induction m with
  | zero=>
    intro j d o hd s;unfold Sort.shiftUp;rw [qy q6];have t : decide ((j : Int) < (b : Int)) = false:=Qm q6;exact ⟨Kc (by simp only [U3,t,Q2]),hd⟩
  | succ m ih=>
    intro j d o hd s;have u:=hd.1;have v:=hd.2.1;unfold Sort.shiftUp;rw [qs q6];have t : decide ((j : Int) < (b : Int)) = true:=Qe q6;have w : w64 ((j : Int) - 1) = ((j - 1 : Nat) : Int):=by rw [Qa q6];omega
    obtain ⟨r,l,h⟩:=p d[j]! d[j - 1]! (hd.2.2 _ q6) (hd.2.2 _ q6);by_cases f : lt d[j]! d[j - 1]! = true
    · rw [qy (by simp [f])];have g:=ih (j + 1) _ q6 (hd.swp (a:=j) (b:=j - 1) q6 q6) q6;refine ⟨?_,g.2⟩;rw [Ki (a':=(((j + 1 : Nat) : Int),(Sort.swp d j (j - 1)).toList)) ?_]
      · exact g.1
      · simp only [U3,t,Q1,w,gx (d:=d) (k:=j) q6,gx (d:=d) (k:=j - 1) q6,gxs (d:=d) (k:=j - 1) q6,qp,l,h,f,Bool.not_true,Q2,Int.toNat_natCast,gswp,w1p j q6]
    · have f : lt d[j]! d[j - 1]! = false:=by simpa using f
      rw [qs (by simp [f])];refine ⟨Kc ?_,hd⟩;simp only [U3,t,Q1,w,gx (d:=d) (k:=j) q6,gx (d:=d) (k:=j - 1) q6,qp,l,h,f,Bool.not_false]
theorem qhu (j : Kq q lt P) {a b n : Nat} (hb : b≤n) : ∀ (s i : Nat) (d : Array T),s≤5→AllP n P d→a < i→i≤b→
    ∃ m,loop (Zl (b : Int) q (a : Int)) ((i : Int),((5 - s : Nat) : Int),d.toList) = some m∧(match m with | .inl b441=>some (false,b441) | .inr x1=>some x1) = some ((Sort.partialIns lt a b s i d).2,(Sort.partialIns lt a b s i d).1.toList)
  | 0,i,d,hs,hd,hi,hib=>by
    have t : decide (((5 - 0 : Nat) : Int) < 5) = false:=Qm q6
    refine ⟨.inl d.toList,Kc (by simp only [Zl,t,Q2]),rfl⟩
  | s + 1,i,d,hs,hd,hi,hib=>by
    have af:=hd.1
    have hn:=hd.2.1
    have t : decide (((5 - (s + 1) : Nat) : Int) < 5) = true:=Qe q6
    rw [Sort.partialIns_succ]
    obtain ⟨p,l1,u1⟩:=qrp j hb hd (i : Int) ((5 - (s + 1) : Nat) : Int) _ i rfl q6 hib
    generalize Sort.scanSorted lt d b i = k at p l1 u1 ⊢
    by_cases z : k = b
    · subst z
      rw [qs rfl]
      refine ⟨.inr (true,d.toList),Kc ?_,rfl⟩
      simp only [Zl,t,Q1,p,qp,beq_self_eq_true]
    · rw [qy z]
      have tk : ((k : Int) == (b : Int)) = false:=by simp;omega
      have w : w64 ((b : Int) - (a : Int)) = ((b - a : Nat) : Int):=wsub q6 q6
      by_cases o : b - a < 50
      · rw [qs o]
        have g : decide (((b - a : Nat) : Int) < 50) = true:=Qe q6
        refine ⟨.inr (false,d.toList),Kc ?_,rfl⟩
        simp only [Zl,t,Q1,p,qp,tk,Q2,w,g]
      · rw [qy o]
        have g : decide (((b - a : Nat) : Int) < 50) = false:=Qm q6
        have wk : w64 ((k : Int) - 1) = ((k - 1 : Nat) : Int):=by rw [Qa q6];omega
        have wa : w64 ((k : Int) - (a : Int)) = ((k - a : Nat) : Int):=wsub q6 q6
        have wb : w64 ((b : Int) - (k : Int)) = ((b - k : Nat) : Int):=wsub q6 q6
        have l:=hd.swp (a:=k) (b:=k - 1) q6 q6
        have down : (cond (decide (((k - a : Nat) : Int) ≥ 2)) ((loop (U2 q) (((k - 1 : Nat) : Int),(Sort.swp d k (k - 1)).toList)).bind fun x0=>some x0) (some (Sort.swp d k (k - 1)).toList)) = some (Sort.fixDown lt a k (Sort.swp d k (k - 1))).toList∧AllP n P (Sort.fixDown lt a k (Sort.swp d k (k - 1))):=by
          unfold Sort.fixDown;by_cases h : k - a ≥ 2
          · have f : decide (((k - a : Nat) : Int) ≥ 2) = true:=Qe q6;obtain ⟨x,y⟩:=qir j n (k - 1) _ l q6;rw [qs h,f,Q1,x];exact ⟨rfl,y⟩
          · have f : decide (((k - a : Nat) : Int) ≥ 2) = false:=Qm q6;rw [qy h,f,Q2];exact ⟨rfl,l⟩
        obtain ⟨dn,c⟩:=down
        have r : AllP n P (Sort.fixUp lt b k (Sort.fixDown lt a k (Sort.swp d k (k - 1)))):=by
          unfold Sort.fixUp;split
          · exact (qit j hb 0 _ (k + 1) _ rfl c q6).2
          · exact c
        obtain ⟨m,u,v⟩:=qhu (a:=a) j hb s k _ q6 r q6 u1
        refine ⟨m,?_,v⟩
        rw [Ki (a':=((k : Int),((5 - s : Nat) : Int),(Sort.fixUp lt b k (Sort.fixDown lt a k (Sort.swp d k (k - 1)))).toList)) ?_]
        · exact u
        · have w5 : w64 (((5 - (s + 1) : Nat) : Int) + 1) = ((5 - s : Nat) : Int):=by rw [Qa q6];omega
          simp only [Zl,t,Q1,p,qp,tk,Q2,w,g,wk,gx (d:=d) (k:=k) q6,gx (d:=d) (k:=k - 1) q6,gxs (d:=d) (k:=k - 1) q6,Int.toNat_natCast,gswp,wa,dn,wb,w1p k q6]
          unfold Sort.fixUp
          by_cases h : b - k ≥ 2
          · have f : decide (((b - k : Nat) : Int) ≥ 2) = true:=Qe q6
            obtain ⟨x,y⟩:=qit j hb (k : Int) _ (k + 1) _ rfl c q6
            rw [qs h,f,Q1,x]
            simp only [qp,w5]
          · have f : decide (((b - k : Nat) : Int) ≥ 2) = false:=Qm q6
            rw [qy h,f,Q2]
            simp only [qp,w5]
theorem qq9 (f : Kq q lt P) {a b n : Nat} (hb : b≤n) (h : a < b) {d : Array T} (hd : AllP n P d) :
    Jm q d.toList (a : Int) (b : Int) = some ((Sort.partialInsertionSort lt d a b).2,(Sort.partialInsertionSort lt d a b).1.toList):=by
  have j:=hd.2.1;obtain ⟨m,c,g⟩:=qhu (a:=a) f hb 5 (a + 1) d q6 hd q6 q6;have c : loop (Zl (b : Int) q (a : Int)) (((a + 1 : Nat) : Int),0,d.toList) = some m:=c;unfold Jm Sort.partialInsertionSort;rw [w1p a q6,c];exact g
end
end Go.Sh
namespace Go.Sh
open Go Go.Am
theorem qgw {α β : Type} {f : α→Option (α ⊕ β)} {a : α} (h : f a = none) : loop f a = none:=by
  apply Option.ext;intro b;rw [q6k];constructor
  · rintro ⟨n,c⟩
    cases n with
    | zero=>simp [iter] at c
    | succ n=>simp [iter,h] at c
  · intro h;cases h
section
variable {T : Type} [Inhabited T] {P : T→Prop} {lt : T→T→Bool} {q : T→T→Option Int}
def Srt (lt : T→T→Bool) (a b : Nat) (d : Array T) (o : Option (List T)) : Prop:=∃ d' : Array T,o = some d'.toList∧Sort.PermIn a b d d'∧Sort.SortedIn lt a b d'
theorem qqc (hq : Kq q lt P) (hS : Sort.SWO lt) {n N : Nat} (af : List T→Int→Int→Int→Option (List T))
    (am : ∀ (a b f : Nat) (d : Array T),AllP n P d→a≤b→b≤n→f≤1000→Sort.Below lt a b d→Srt lt a b d (af d.toList (a : Int) (b : Int) (f : Int))∨(N≤b - a∧af d.toList (a : Int) (b : Int) (f : Int) = none)) :
    ∀ (m a b f : Nat) (wb wp : Bool) (d : Array T),b - a = m→AllP n P d→a≤b→b≤n→f≤1000→Sort.Below lt a b d→
      Srt lt a b d (loop (Z7 q af) ((a : Int),(b : Int),(f : Int),wb,wp,d.toList))∨(N + 1≤b - a∧loop (Z7 q af) ((a : Int),(b : Int),(f : Int),wb,wp,d.toList) = none):=by
  intro m
  induction m using Nat.strongRecOn with
  | _ m ih=>
    intro a b f wb wp d hm hd o hb hl hB;have df:=hd.1;have hn:=hd.2.1;have e0 : w64 ((b : Int) - (a : Int)) = ((b - a : Nat) : Int):=wsub o q6;by_cases de : b - a≤12
    ·
      have t : decide (((b - a : Nat) : Int)≤12) = true:=Qe q6;obtain ⟨x,y⟩:=Sort.insertionSort_holds (lt:=lt) hS d a b o q6;have s:=qo2 hq hb o hd;refine .inl ⟨_,Kc ?_,x,y⟩;simp only [Z7,e0,t,Q1,s,qp,Jp hd (hd.perm o hb x)]
    have bm : decide (((b - a : Nat) : Int)≤12) = false:=Qm q6;by_cases h0 : f = 0
    ·
      have t : ((f : Int) == 0) = true:=by simp [h0]
      obtain ⟨x,y⟩:=Sort.heapSort_holds (lt:=lt) hS d a b o q6;have s:=qnt hq hb (by omega : a < b) hd;refine .inl ⟨_,Kc ?_,x,y⟩;simp only [Z7,e0,bm,Q2,t,Q1,s,qp,Jp hd (hd.perm o hb x)]
    have t0 : ((f : Int) == 0) = false:=by simp [h0]
    have hA : ∃ (l1 : Nat) (d1 : Array T),(cond (!wb) ((Un q d.toList (a : Int) (b : Int)).bind fun ba=>(Qw ba.length d.toList.length).bind fun cw=>some (w64 ((f : Int) - 1),ba)) (some ((f : Int),d.toList))) = some ((l1 : Int),d1.toList)∧l1≤1000∧AllP n P d1∧Sort.PermIn a b d d1:=by
      cases wb with
      | true=>exact ⟨f,d,rfl,hl,hd,Sort.permIn_refl _ _ _⟩
      | false=>
        have x:=Sort.breakPatterns_holds d a b o q6;have z:=hd.perm o hb x;have w : w64 ((f : Int) - 1) = ((f - 1 : Nat) : Int):=by rw [Qa q6];omega
        refine ⟨f - 1,_,?_,q6,z,x⟩;simp only [Bool.not_false,Q1,qku (q:=q) hb (by omega : a < b) hd,qp,Jp hd z,w]
    obtain ⟨l1,d1,eA,an,z,p1⟩:=hA;have hC:=qlu hq z (by omega : a < b) hb;obtain ⟨c1,c2⟩:=Sort.choosePivot_holds lt d1 a b q6;generalize (Sort.choosePivot lt d1 a b).1 = c at hC c1 c2;generalize qbz (Sort.choosePivot lt d1 a b).2 = h at hC
    have hR : ∃ (p : Nat) (h2 : Int) (d2 : Array T),(cond (h == 2) ((Uv q d1.toList (a : Int) (b : Int)).bind fun bd=>(Qw bd.length d1.toList.length).bind fun cs=>some (w64 ((w64 ((b : Int) - 1)) - (w64 ((c : Int) - (a : Int)))),(1 : Int),bd)) (some ((c : Int),h,d1.toList))) = some ((p : Int),h2,d2.toList)∧a≤p∧p < b∧AllP n P d2∧Sort.PermIn a b d1 d2:=by
      cases hh : (h == 2) with
      | false=>exact ⟨c,h,d1,rfl,c1,c2,z,Sort.permIn_refl _ _ _⟩
      | true=>
        have x:=Sort.reverseRange_holds d1 a b o (by rw [z.1];exact hb);have ac:=z.perm o hb x;have w1 : w64 ((b : Int) - 1) = ((b - 1 : Nat) : Int):=by rw [Qa q6];omega
        have w2 : w64 ((c : Int) - (a : Int)) = ((c - a : Nat) : Int):=wsub c1 q6;have w3 : w64 (((b - 1 : Nat) : Int) - ((c - a : Nat) : Int)) = ((b - 1 - (c - a) : Nat) : Int):=wsub q6 q6;refine ⟨b - 1 - (c - a),1,_,?_,q6,q6,ac,x⟩;simp only [Q1,qri (q:=q) hb (by omega : a < b) z,qp,Jp z ac,w1,w2,w3]
    obtain ⟨p,h2,d2,eR,hp1,hp2,ac,p2⟩:=hR;have bv : Sort.Below lt a b d2:=(hB.perm q6 p1).perm (by rw [z.1];exact hb) p2;have bp:=Sort.permIn_trans _ _ _ a b p1 p2
    have hP : ∀ cc : Bool,∃ ab : (List T) ⊕ (List T),(cond cc ((Jm q d2.toList (a : Int) (b : Int)).bind fun ag=>(Qw ag.2.length d2.toList.length).bind fun dd=>cond ag.1 (some (.inr ag.2)) (some (.inl ag.2))) (some (.inl d2.toList)) : Option ((List T) ⊕ (List T))) = some ab∧
        ((∃ l : Array T,ab = .inr l.toList∧Sort.PermIn a b d2 l∧Sort.SortedIn lt a b l)∨(∃ l : Array T,ab = .inl l.toList∧AllP n P l∧Sort.PermIn a b d2 l)):=by
      intro cc
      cases cc with
      | false=>exact ⟨_,rfl,.inr ⟨d2,rfl,ac,Sort.permIn_refl _ _ _⟩⟩
      | true=>
        obtain ⟨x,y⟩:=Sort.partialInsertionSort_holds (lt:=lt) hS d2 a b q6 (by rw [ac.1];exact hb) bv;have u:=ac.perm o hb x;have s:=qq9 hq hb (by omega : a < b) ac;simp only [Q1,s,qp,Jp ac u]
        cases hz : (Sort.partialInsertionSort lt d2 a b).2 with
        | true=>exact ⟨_,rfl,.inl ⟨_,rfl,x,y hz⟩⟩
        | false=>exact ⟨_,rfl,.inr ⟨_,rfl,u,x⟩⟩
    obtain ⟨ab,eP,br⟩:=hP (wb && wp && (h2 == 1))
    have co : ∀ {γ : Type} (X : Bool→Option γ),((cond wb (some wp) (some false)).bind fun bt=>(cond bt (some (h2 == 1)) (some false)).bind X) = X (wb && wp && (h2 == 1)):=by
      intro γ X;cases wb <;> cases wp <;> rfl
    have head : Z7 q af ((a : Int),(b : Int),(f : Int),wb,wp,d.toList) = (match (generalizing:=false) ab with | .inl b377=>(cond (decide ((a : Int) > 0)) ((idx b377 (w64 ((a : Int) - 1))).bind fun av=>(idx b377 (p : Int)).bind fun ao=>(q av ao).bind fun ar=>some (!(decide (ar < 0)))) (some false)).bind fun bq=>cond bq ((Us q b377 (a : Int) (b : Int) (p : Int)).bind fun al=>(Qw al.2.length b377.length).bind fun dc=>some (.inl (al.1,(b : Int),(l1 : Int),wb,wp,al.2))) ((Ur q b377 (a : Int) (b : Int) (p : Int)).bind fun g=>(Qw g.2.2.length b377.length).bind fun cr=>cond (decide ((w64 (g.1 - (a : Int))) < (w64 ((b : Int) - g.1)))) ((af g.2.2 (a : Int) g.1 (l1 : Int)).bind fun az=>(Qw az.length g.2.2.length).bind fun cz=>some (.inl (w64 (g.1 + 1),(b : Int),(l1 : Int),decide ((w64 (g.1 - (a : Int))) ≥ (w64 (Int.tdiv ((b - a : Nat) : Int) 8))),g.2.1,az))) ((af g.2.2 (w64 (g.1 + 1)) (b : Int) (l1 : Int)).bind fun bc=>(Qw bc.length g.2.2.length).bind fun cy=>some (.inl ((a : Int),g.1,(l1 : Int),decide ((w64 ((b : Int) - g.1)) ≥ (w64 (Int.tdiv ((b - a : Nat) : Int) 8))),g.2.1,bc)))) | .inr x1=>some (.inr x1)):=by
      simp only [Z7,e0,bm,Q2,t0,eA,qp,hC,eR,co,eP]
      clear eP br hP am ih
      cases ab <;> rfl
    rcases br with ⟨l,rfl,x,y⟩ | ⟨l,rfl,u,p3⟩
    · refine .inl ⟨l,Kc ?_,Sort.permIn_trans _ _ _ a b bp x,y⟩;rw [head]
    have ax:=u.1;have P3:=Sort.permIn_trans _ _ _ a b bp p3;have B3 : Sort.Below lt a b l:=bv.perm (by rw [ac.1];exact hb) p3
    have bh : (cond (decide ((a : Int) > 0)) ((idx l.toList (w64 ((a : Int) - 1))).bind fun av=>(idx l.toList (p : Int)).bind fun ao=>(q av ao).bind fun ar=>some (!(decide (ar < 0)))) (some false)) = some (decide (a > 0) && !lt l[a - 1]! l[p]!):=by
      by_cases ha : a > 0
      · have ta : decide ((a : Int) > 0) = true:=Qe q6;have w : w64 ((a : Int) - 1) = ((a - 1 : Nat) : Int):=by rw [Qa q6];omega
        obtain ⟨r,h1,h2⟩:=hq l[a - 1]! l[p]! (u.2.2 _ q6) (u.2.2 _ q6);simp only [ta,Q1,w,gx (d:=l) (k:=a - 1) q6,gx (d:=l) (k:=p) q6,qp,h1,h2,Qe ha,Bool.true_and]
      · have ta : decide ((a : Int) > 0) = false:=Qm q6;simp only [ta,Q2,Qm ha,Bool.false_and]
    simp only [bh,qp] at head;by_cases hc : (decide (a > 0) && !lt l[a - 1]! l[p]!) = true
    ·
      rw [hc] at head;have s:=qqa hq hb (by omega : a < b) (by omega : p < n) u;simp only [Bool.and_eq_true,decide_eq_true_eq,Bool.not_eq_true'] at hc
      cases hx : Sort.partitionEqual lt l a b p with
      | mk j d4=>
        obtain ⟨g1,g2,cb,cm,ad⟩:=Sort.round_eq hS (Sort.partitionEqual_holds lt) hc.1 hp1 hp2 (by rw [ax];exact hb) B3 hc.2 hx
        have cf : ∀ i,a≤i→i < b→lt l[i]! l[p]! = false:=fun i hi ca=>by
          rcases B3 with h0 | hB
          · omega
          · exact hS.ntrans _ _ _ (hB i hi ca) hc.2
        obtain ⟨_,_,v,_,_⟩:=Sort.partitionEqual_holds lt hS l a b p hp1 hp2 (by rw [ax];exact hb) cf;rw [hx] at v s;have aa:=u.perm o hb v;simp only [Q1,s,qp,Jp u aa] at head;rw [Ki head];rcases ih (b - j) q6 j b l1 wb wp d4 rfl aa g2 hb an cm with ⟨R,r0,r1,r2⟩ | ⟨r1,r2⟩
        · obtain ⟨q1,q2⟩:=ad _ r1 r2;exact .inl ⟨R,r0,Sort.permIn_trans _ _ _ a b P3 q1,q2⟩
        · exact .inr ⟨q6,r2⟩
    ·
      have hc : (decide (a > 0) && !lt l[a - 1]! l[p]!) = false:=by simpa using hc
      rw [hc] at head;have s:=qqb hq hb (by omega : a < b) (by omega : p < n) u
      cases hx : Sort.partition lt l a b p with
      | mk j r=>
      cases r with
      | mk ap d4=>
        obtain ⟨g1,g2,cb,bz,ce,bg,ay⟩:=Sort.round_part hS (Sort.partition_holds lt) hp1 hp2 (by rw [ax];exact hb) B3 hx;obtain ⟨_,_,v,_,_⟩:=Sort.partition_holds lt hS l a b p hp1 hp2 (by rw [ax];exact hb);rw [hx] at v s;have aa:=u.perm o hb v;have w1 : w64 ((j : Int) - (a : Int)) = ((j - a : Nat) : Int):=wsub g1 q6;have w2 : w64 ((b : Int) - (j : Int)) = ((b - j : Nat) : Int):=wsub q6 q6;simp only [Q2,s,qp,Jp u aa,w1,w2,w1p j q6] at head;by_cases dl : j - a < b - j
        · have tl : decide (((j - a : Nat) : Int) < ((b - j : Nat) : Int)) = true:=Qe q6;simp only [tl,Q1] at head;rcases am a j l1 d4 aa g1 q6 an bz with ⟨L,e,aq,bj⟩ | ⟨r1,r2⟩
          · have au:=aa.perm g1 q6 aq;obtain ⟨bk,ad⟩:=bg _ aq bj;simp only [e,qp,Jp aa au] at head;rw [Ki head];rcases ih (b - (j + 1)) q6 (j + 1) b l1 _ _ L rfl au q6 hb an bk with ⟨R,r0,r1,r2⟩ | ⟨r1,r2⟩
            · obtain ⟨q1,q2⟩:=ad _ r1 r2;exact .inl ⟨R,r0,Sort.permIn_trans _ _ _ a b P3 q1,q2⟩
            · exact .inr ⟨q6,r2⟩
          · simp only [r2,Option.bind_none] at head;exact .inr ⟨q6,qgw head⟩
        · have tl : decide (((j - a : Nat) : Int) < ((b - j : Nat) : Int)) = false:=Qm q6;simp only [tl,Q2] at head;rcases am (j + 1) b l1 d4 aa q6 hb an ce with ⟨L,e,aq,bj⟩ | ⟨r1,r2⟩
          · have au:=aa.perm (by omega : j + 1≤b) hb aq;obtain ⟨bk,ad⟩:=ay _ aq bj;simp only [e,qp,Jp aa au] at head;rw [Ki head];rcases ih (j - a) q6 a j l1 _ _ L rfl au g1 q6 an bk with ⟨R,r0,r1,r2⟩ | ⟨r1,r2⟩
            · obtain ⟨q1,q2⟩:=ad _ r1 r2;exact .inl ⟨R,r0,Sort.permIn_trans _ _ _ a b P3 q1,q2⟩
            · exact .inr ⟨q6,r2⟩
          · simp only [r2,Option.bind_none] at head;exact .inr ⟨q6,qgw head⟩
theorem qhv (f : Kq q lt P) (g : Sort.SWO lt) {n : Nat} : ∀ (N a b c : Nat) (d : Array T),AllP n P d→a≤b→b≤n→c≤1000→Sort.Below lt a b d→
    Srt lt a b d (Yw N q d.toList (a : Int) (b : Int) (c : Int))∨(N≤b - a∧Yw N q d.toList (a : Int) (b : Int) (c : Int) = none)
  | 0,a,b,c,d,_,_,_,_,_=>.inr ⟨q6,rfl⟩
  | N + 1,a,b,c,d,hd,hab,hb,hl,hB=>by
    have h:=qqc f g (N:=N) (Yw N q) (fun a b c d m j k l o=>qhv f g N a b c d m j k l o) _ a b c true true d rfl hd hab hb hl hB
    have e : Yw (N + 1) q d.toList (a : Int) (b : Int) (c : Int) = loop (Z7 q (Yw N q)) ((a : Int),(b : Int),(c : Int),true,true,d.toList):=by
      show U6 (Yw N q) q d.toList (a : Int) (b : Int) (c : Int) = _;unfold U6;cases loop (Z7 q (Yw N q)) ((a : Int),(b : Int),(c : Int),true,true,d.toList) <;> rfl
    rw [e]
    exact h
theorem qj7 (t : Kq q lt P) (w : Sort.SWO lt) (xs : List T) (n : xs.length≤1000000) (v : ∀ x∈xs,P x) :
    ∃ ys,q1j q xs = some ys∧ys.Perm xs∧ys.Pairwise (fun x y=>lt y x = false):=by
  have hd : AllP xs.length P xs.toArray:=by
    refine ⟨qe,n,fun i hi=>?_⟩;have : xs.toArray[i]! = xs[i]:=by simp [hi]
    rw [this];exact v _ (Yi hi)
  have hk : Sort.bitsLen xs.length≤20:=(Sort.bitsLen_le_iff _ 20).2 q6;have c : ∀ N,_:=fun N=>qhv t w N 0 xs.length (Sort.bitsLen xs.length) xs.toArray hd q6 q6 q6 (.inl rfl);have z:=c (xs.length + 1);rcases z with ⟨d',e,_,_⟩ | ⟨h,_⟩
  · obtain ⟨r,o⟩:=qoc (f:=fun N=>Yw N q xs 0 (xs.length : Int) ((Sort.bitsLen xs.length : Nat) : Int)) e;obtain ⟨N,g⟩:=qc4 o;have g : Yw N q xs 0 (xs.length : Int) ((Sort.bitsLen xs.length : Nat) : Int) = some r:=g;rcases c N with ⟨a,b,x,y⟩ | ⟨_,b⟩
    · have b : Yw N q xs 0 (xs.length : Int) ((Sort.bitsLen xs.length : Nat) : Int) = some a.toList:=b;rw [g] at b;obtain rfl : r = a.toList:=q8j b;have d : a.size = xs.length:=by rw [x.1];simp
      refine ⟨a.toList,?_,?_,?_⟩
      · unfold q1j;rw [q1c,show ((xs.length : Int) % 18446744073709551616) = (xs.length : Int) by omega,qgu _ n];simp only [qp,o];unfold Qw;rw [qs (by simp [d])];rfl
      · have:=x.2.2;have s : a.extract 0 xs.length = a:=by rw [← d];simp
        have p : xs.toArray.extract 0 xs.length = xs.toArray:=by simp
        rw [s,p] at this;exact this
      · rw [List.pairwise_iff_getElem];intro i j hi u k;have l : i < a.size:=by simpa using hi
        have m : j < a.size:=by simpa using u
        have:=y i j q6 k q6;rw [getElem!_pos a i l,getElem!_pos a j m] at this;simpa using this
    · have b : Yw N q xs 0 (xs.length : Int) ((Sort.bitsLen xs.length : Nat) : Int) = none:=b;rw [g] at b;cases b
  · omega
end
end Go.Sh
namespace Go.Sh
open Go Go.Am
theorem qsp : qah = q3w:=rfl
theorem qrq : q1u = q2q:=by
  funext p0;simp only [q1u,q2q,qsp]
  all_goals exact Qu
theorem qil : Ua = Um:=by
  funext p0;simp only [Ua,Um,qrq]
  all_goals exact Qu
theorem qs0 : q7m = Jk:=by
  funext p1 q1 a459;simp only [q7m,Jk]
  all_goals exact Qu
theorem qrz : q7l = Uq:=by
  funext p2 p1 q1 a278;simp only [q7l,Uq,qs0]
  all_goals exact Qu
theorem qry : q7k = q1m:=by
  funext q1 p0 p1 p2;simp only [q7k,q1m,qrz]
  all_goals exact Qu
theorem qso : q84 = Jn:=by
  funext p2 p3 q1 a197;simp only [q84,Jn]
  all_goals exact Qu
theorem qin : q5i = U7:=by
  funext q1 p0 p1 p2 p3;simp only [q5i,U7,qso]
  all_goals exact Qu
theorem qrw : q7i = Uo:=by
  funext q1 p2 p1 a123;simp only [q7i,Uo,qin]
  all_goals exact Qu
theorem qrx : q7j = Up:=by
  funext p1 q1 a191;simp only [q7j,Up,qin]
  all_goals exact Qu
theorem qrv : q7h = q1l:=by
  funext q1 p0 p1 p2;simp only [q7h,q1l,qrw,qrx]
  all_goals exact Qu
theorem qs2 : q18 = q1n:=by
  funext p0;simp only [q18,q1n,qil]
  all_goals exact Qu
theorem qsq : q19 = q1r:=by
  funext p0;simp only [q19,q1r]
  all_goals exact Qu
theorem qrt : q7f = Jy:=by
  funext p1 p2 r101 a153;simp only [q7f,Jy,qsq]
  all_goals exact Qu
theorem qrs : q7e = Un:=by
  funext q1 p0 p1 p2;simp only [q7e,Un,qs2,qrt]
  all_goals exact Qu
theorem qs3 : q38 = U0:=by
  funext q1 p0 p1 p2 p3;simp only [q38,U0]
  all_goals exact Qu
theorem qim : q4y = Jz:=by
  funext q1 p0 p1 p2 p3 p4;simp only [q4y,Jz,qs3]
  all_goals exact Qu
theorem qs1 : q36 = Jl:=by
  funext q1 p0 p1 p2;simp only [q36,Jl,qim]
  all_goals exact Qu
theorem qru : q7g = q1k:=by
  funext p0 p1 p2 p3;simp only [q7g,q1k,qim,qs1]
  all_goals exact Qu
theorem qsn : q82 = q1q:=by
  funext a119;simp only [q82,q1q]
  all_goals exact Qu
theorem qsm : q81 = Uv:=by
  funext q1 p0 p1 p2;simp only [q81,Uv,qsn]
  all_goals exact Qu
theorem qs6 : q7n = U1:=by
  funext p2 a438 q1 a681;simp only [q7n,U1]
  all_goals exact Qu
theorem qs7 : q7o = U2:=by
  funext q1 a838;simp only [q7o,U2]
  all_goals exact Qu
theorem qs8 : q7p = U3:=by
  funext p2 q1 b684 a928;simp only [q7p,U3]
  all_goals exact Qu
theorem qs5 : q50 = Zl:=by
  funext p2 q1 p1 a438;have a : @q50.match_1.{1} = @Zl.match_1.{1} qh:=by funext motive m f g;cases m <;> rfl
  unfold q50 Zl;rw [a];simp only [qs6,qs7,qs8]
theorem qs4 : q4z = Jm:=by
  funext q1 p0 p1 p2;have a : @q4z.match_1.{1} = @Jm.match_1.{1} qh:=by funext motive m f g;cases m <;> rfl
  unfold q4z Jm;rw [a];simp only [qs5]
theorem qsc : q7z = U4:=by
  funext a318 p1 q1 a378;simp only [q7z,U4]
  all_goals exact Qu
theorem qsd : q80 = U5:=by
  funext b381 a318 p1 q1 a463;simp only [q80,U5]
  all_goals exact Qu
theorem qsb : q7y = Ut:=by
  funext p1 q1 a318;simp only [q7y,Ut,qsc,qsd]
  all_goals exact Qu
theorem qsa : q7x = Us:=by
  funext q1 p0 p1 p2 p3;simp only [q7x,Us,qsb]
  all_goals exact Qu
theorem qse : q7s = q1o:=by
  funext p2 p0 p1 v101 p3 v103 q1 a163;simp only [q7s,q1o]
  all_goals exact Qu
theorem qsf : q7t = q1p:=by
  funext b166 p0 p1 v101 p3 v103 q1 a249;simp only [q7t,q1p]
  all_goals exact Qu
theorem qsh : q7v = Zt:=by
  funext a514 p1 q1 a572;simp only [q7v,Zt]
  all_goals exact Qu
theorem qsi : q7w = Zu:=by
  funext b575 a514 p1 q1 a658;simp only [q7w,Zu]
  all_goals exact Qu
theorem qsg : q7u = Uu:=by
  funext p1 q1 a514;simp only [q7u,Uu,qsh,qsi]
  all_goals exact Qu
theorem qs9 : q7r = Ur:=by
  funext q1 p0 p1 p2 p3;simp only [q7r,Ur,qse,qsf,qsg]
  all_goals exact Qu
theorem qsk : q5e = Z7:=by
  funext q1 rec a309;have a : @q5e.match_1.{1} = @Z7.match_1.{1} qh:=by funext motive m f g;cases m <;> rfl
  unfold q5e Z7;rw [a];simp only [qry,qrv,qrs,qru,qsm,qs4,qsa,qs9]
theorem qsl : q5f = U6:=by
  funext rec q1 p0 p1 p2 p3;simp only [q5f,U6,qsk]
  all_goals exact Qu
theorem qsj : ∀ N q,q5d N q = Yw N q:=by
  intro N q
  induction N with
  | zero=>rfl
  | succ N ih=>
    funext a b c d;show q5f (q5d N q) q a b c d = U6 (Yw N q) q a b c d;rw [ih,qsl]
theorem qrr : q4o = q1j:=by
  funext q1 p0;simp only [q4o,q1j,qil,qsj]
  all_goals exact Qu
end Go.Sh
namespace Go.Sh
open Go Go.Am
instance : Inhabited qh:=⟨⟨0,0,0⟩⟩
theorem qw9 (q : qh→qh→Option Int) (xs : List qh) : q4o q xs = q1j q xs:=by rw [qrr]
def evs (s : List qm) (l : Int) : List qh:=s.flatMap fun t=>[{at_:=t.Lo,list_:=l,by_:=1},{at_:=t.Hi,list_:=l,by_:=-1}]
theorem q69 (s : List qm) (l : Int) : (evs s l).length = 2 * s.length:=by
  induction s with
  | nil=>rfl
  | cons t s ih=>simp only [evs,List.flatMap_cons,List.length_append,List.length_cons,List.length_nil] at ih ⊢;omega
theorem q9i {s : List qm} {l : Int} {e : qh} (h : e∈evs s l) : e.list_ = l∧(e.by_ = 1∨e.by_ = -1)∧∃ t∈s,e.at_ = t.Lo∨e.at_ = t.Hi:=by
  simp only [evs,List.mem_flatMap] at h;obtain ⟨t,a,h⟩:=h;simp only [List.mem_cons,List.not_mem_nil,or_false] at h;rcases h with rfl | rfl
  · exact ⟨rfl,.inl rfl,t,a,.inl rfl⟩
  · exact ⟨rfl,.inr rfl,t,a,.inr rfl⟩
theorem qfd (s : List qm) (l : Int) (y : List qh) (hs : s.length≤1000) (base : List qh) (hb : base.length≤10000) :
    loop (q3i s (l,y)) (0,base) = some (base ++ evs s l):=by
  have:=Zx (f:=q3i s (l,y)) (σ:=List qh) (fun k c=>((k : Int),c)) s.length (fun k c=>c = base ++ evs (s.take k) l) (fun t=>t = base ++ evs s l) ?_ ?_ (k0:=0) (c0:=base) q6 (by simp [evs])
  · obtain ⟨b,h,rfl⟩:=this;exact h
  · rintro k c d rfl;have a : decide ((k : Int) < (s.length : Int)) = true:=Qe q6;refine .inl ⟨base ++ evs (s.take (k + 1)) l,?_,rfl⟩;have g : (evs (s.take k) l).length≤2000:=by rw [q69,List.length_take];omega
    simp only [q3i,a,Q1,K5 d,qp];rw [Z5 (by rw [List.length_append];simp only [List.length_cons,List.length_nil];omega),qp,Qa q6,List.take_succ_eq_append_getElem d,List.append_assoc];have : evs (s.take k ++ [s[k]]) l = evs (s.take k) l ++ [{at_:=s[k].Lo,list_:=l,by_:=1},{at_:=s[k].Hi,list_:=l,by_:=-1}]:=by simp only [evs,List.flatMap_append,List.flatMap_cons,List.flatMap_nil,List.append_nil]
    rw [this];rfl
  · rintro c rfl;have a : decide ((s.length : Int) < (s.length : Int)) = false:=Qm q6;exact ⟨_,by simp only [q3i,a,Q2];rfl,by rw [List.take_length]⟩
def ltE (a b : qh) : Bool:=decide (a.at_ < b.at_)
def inE (e : qh) : Prop:=-1000000≤e.at_∧e.at_≤1000000
theorem swoE : Sort.SWO ltE where
  irrefl:=by intro x;simp [ltE]
  trans:=by intro x y z;simp only [ltE,decide_eq_true_eq];omega
  ntrans:=by intro x y z;simp only [ltE,decide_eq_false_iff_not];omega
theorem cmpE : Kq (fun a b=>q8a a b) ltE inE:=by
  rintro x y ⟨c,f⟩ ⟨d,g⟩;refine ⟨x.at_ - y.at_,?_,?_⟩
  · show some (w64 (x.at_ - y.at_)) = _;rw [Qa q6]
  · unfold ltE;exact decide_eq_decide.2 q6
theorem qw8 (p q : List qm) (hp : p.length≤500) (v : q.length≤500) (u : ∀ t∈p,vld t) (k : ∀ t∈q,vld t) :
    ∃ ys,q8b [p,q] = some ([p,q],ys)∧ys.Perm (evs p 0 ++ evs q 1)∧ys.Pairwise (fun x y=>x.at_≤y.at_):=by
  have o : ∀ x∈evs p 0 ++ evs q 1,inE x:=by
    intro x n;rcases List.mem_append.1 n with h | h
    · obtain ⟨_,_,t,g,h⟩:=q9i h;obtain ⟨a,b,c⟩:=u t g;unfold inE;rcases h with h | h <;> omega
    · obtain ⟨_,_,t,g,h⟩:=q9i h;obtain ⟨a,b,c⟩:=k t g;unfold inE;rcases h with h | h <;> omega
  have w:=q69 p 0;have z:=q69 q 1;obtain ⟨ys,s,j,l⟩:=qj7 cmpE swoE (evs p 0 ++ evs q 1) (by rw [List.length_append];omega) o;refine ⟨ys,?_,j,l.imp (fun {x y} h=>by simp only [ltE,decide_eq_false_iff_not] at h;omega)⟩
  have d : loop (Ug [p,q]) (0,[]) = some (evs p 0 ++ evs q 1):=by
    have s0 : Ug [p,q] (0,[]) = some (.inl (1,evs p 0)):=by
      have t : decide ((0 : Int) < (([p,q] : List (List qm)).length : Int)) = true:=rfl;simp only [Ug,t,Q1];have : idx [p,q] 0 = some p:=rfl;rw [this];simp only [qp,qfd p 0 [] q6 [] qe,List.nil_append];rfl
    have m : Ug [p,q] (1,evs p 0) = some (.inl (2,evs p 0 ++ evs q 1)):=by
      have t : decide ((1 : Int) < (([p,q] : List (List qm)).length : Int)) = true:=rfl;simp only [Ug,t,Q1];have : idx [p,q] 1 = some q:=rfl;rw [this];simp only [qp,qfd q 1 (evs p 0) q6 (evs p 0) q6];rfl
    have r : Ug [p,q] (2,evs p 0 ++ evs q 1) = some (.inr (evs p 0 ++ evs q 1)):=by
      have t : decide ((2 : Int) < (([p,q] : List (List qm)).length : Int)) = false:=rfl;simp only [Ug,t,Q2]
    rw [Ki s0,Ki m,Kc r]
  unfold q8b;rw [d];simp only [qp,qw9,s];have le : Qw ys.length (evs p 0 ++ evs q 1).length = some ():=by unfold Qw;rw [qs j.length_eq]
  have f : Qw ys.length ys.length = some ():=by unfold Qw;rw [qs rfl]
  simp only [le,qp,qaa,f]
def cnt (l : Int) (c : Int→Bool) : List qh→Int
  | []=>0
  | e::es=>(if e.list_ = l∧c e.at_ = true then e.by_ else 0) + cnt l c es
theorem q1e (l : Int) (c : Int→Bool) (a b : List qh) : cnt l c (a ++ b) = cnt l c a + cnt l c b:=by
  induction a with
  | nil=>simp [cnt]
  | cons e a ih=>simp only [List.cons_append,cnt,ih];omega
theorem qew {l : Int} {c : Int→Bool} {a b : List qh} (h : a.Perm b) : cnt l c a = cnt l c b:=by
  induction h with
  | nil=>rfl
  | cons x _ ih=>simp only [cnt,ih]
  | swap x y l=>simp only [cnt];omega
  | trans _ _ ih1 ih2=>rw [ih1,ih2]
theorem qet {l : Int} {c b : Int→Bool} : ∀ {a : List qh},(∀ e∈a,c e.at_ = b e.at_)→cnt l c a = cnt l b a
  | [],_=>rfl
  | e::a,h=>by simp only [cnt,h e qe,qet (fun e d=>h e (List.mem_cons_of_mem _ d))]
theorem qev {l : Int} {c : Int→Bool} : ∀ {a : List qh},(∀ e∈a,c e.at_ = false)→cnt l c a = 0
  | [],_=>rfl
  | e::a,h=>by
    simp only [cnt,qev (fun e b=>h e (List.mem_cons_of_mem _ b)),h e qe]
    simp
theorem q62 {s : List qm} {l l' : Int} {c : Int→Bool} (h : l≠l') : cnt l c (evs s l') = 0:=by
  induction s with
  | nil=>rfl
  | cons t s ih=>
    have : evs (t::s) l' = [{at_:=t.Lo,list_:=l',by_:=1},{at_:=t.Hi,list_:=l',by_:=-1}] ++ evs s l':=rfl;rw [this,q1e,ih];have a : ¬ l' = l:=fun e=>h e.symm;simp [cnt,a]
theorem qeu {s : List qm} {l : Int} (v : ∀ t∈s,vld t) (x : Int) : 0≤cnt l (fun a=>decide (a≤x)) (evs s l)∧(0 < cnt l (fun a=>decide (a≤x)) (evs s l)↔has s x):=by
  induction s with
  | nil=>exact ⟨Int.le_refl 0,by simp [evs,cnt,has]⟩
  | cons t s ih=>
    obtain ⟨f,c⟩:=ih (fun t d=>v t (List.mem_cons_of_mem _ d));have b:=v t qe;have : evs (t::s) l = [{at_:=t.Lo,list_:=l,by_:=1},{at_:=t.Hi,list_:=l,by_:=-1}] ++ evs s l:=rfl;rw [this,q1e,Ze,← c];obtain ⟨j,h,g⟩:=b;simp only [cnt,true_and,decide_eq_true_eq];split <;> split <;> omega
theorem qex {s : List qm} {l : Int} : cnt l (fun _=>true) (evs s l) = 0:=by
  induction s with
  | nil=>rfl
  | cons t s ih=>
    have : evs (t::s) l = [{at_:=t.Lo,list_:=l,by_:=1},{at_:=t.Hi,list_:=l,by_:=-1}] ++ evs s l:=rfl;rw [this,q1e,ih];simp [cnt]
theorem qbd {l : Int} {c : Int→Bool} : ∀ {a : List qh},(∀ e∈a,e.by_ = 1∨e.by_ = -1)→-(a.length : Int)≤cnt l c a∧cnt l c a≤(a.length : Int)
  | [],_=>by simp [cnt]
  | e::a,h=>by
    obtain ⟨d,f⟩:=qbd (l:=l) (c:=c) (fun e b=>h e (List.mem_cons_of_mem _ b))
    have:=h e qe
    simp only [cnt,List.length_cons]
    split <;> omega
end Go.Sh
namespace Go.Sh
open Go Go.Am
theorem qlw (at_ a : Int) (inn : Bool) (out : List qm) (h : out.length≤10000) :
    q8c at_ inn a out = some (inn,a,if inn = true∧a≠at_ then addS out a at_ else out):=by
  unfold q8c
  cases inn with
  | false=>rfl
  | true=>
    by_cases b : a = at_
    · simp [b]
    · have hb : (a == at_) = false:=by simpa using b
      simp only [Bool.not_true,Q2,qp,hb];rw [qs ⟨trivial,b⟩];rcases qab out with rfl | ⟨d,t,rfl⟩
      · rfl
      · have l : (d ++ [t]).length = d.length + 1:=by simp
        have j : decide (((d ++ [t]).length : Int) > 0) = true:=Qe q6;have g : w64 (((d ++ [t]).length : Int) - 1) = (d.length : Int):=by rw [Qa q6];omega
        have k : idx (d ++ [t]) (d.length : Int) = some t:=by
          rw [K5 q6];simp
        simp only [j,Q1,g,k,qp];by_cases c : t.Hi = a
        · subst c;simp only [beq_self_eq_true,Q1,q8m,Int.toNat_natCast,qiq]
        · have f : (t.Hi == a) = false:=by simpa using c
          simp only [f,Q2,q8n c];rw [Z5 (by simp;omega)];rfl
open Classical in
structure qk9 (f : Bool→Bool→Bool) (p q : List qm) (ys : List qh) (k : Nat) (c : List Int × Int × Bool × List qm) : Prop where
  opn : c.1 = [cnt 0 (fun _=>true) (ys.take k),cnt 1 (fun _=>true) (ys.take k)]
  inn : c.2.2.1 = f (decide (0 < cnt 0 (fun _=>true) (ys.take k))) (decide (0 < cnt 1 (fun _=>true) (ys.take k)))
  lst : ∀ (h : k - 1 < ys.length),0 < k→c.2.1 = ys[k - 1].at_
  can : Can c.2.2.2
  his : ∀ t∈c.2.2.2,t.Hi≤c.2.1
  zro : k = 0→c.2.2.2 = []
  pts : ∀ x,has c.2.2.2 x↔0 < k∧x < c.2.1∧f (decide (has p x)) (decide (has q x)) = true
  len : c.2.2.2.length≤k
theorem qkc (c : List qm) (a b : Int) : (addS c a b).length≤c.length + 1:=by
  rcases qab c with rfl | ⟨d,t,rfl⟩
  · simp [qe1]
  · by_cases h : t.Hi = a
    · subst h;rw [q8m];simp
    · rw [q8n h];simp
theorem qes {p q : List qm} {ys : List qh} (hp : ∀ t∈p,vld t) (f : ∀ t∈q,vld t) (b : ys.Perm (evs p 0 ++ evs q 1)) (_ : ys.Pairwise (fun x y=>x.at_≤y.at_)) (k : Nat) (x : Int)
    (g : ∀ i (h : i < ys.length),i < k→ys[i].at_≤x) (d : ∀ i (h : i < ys.length),k≤i→x < ys[i].at_) :
    (0 < cnt 0 (fun _=>true) (ys.take k)↔has p x)∧(0 < cnt 1 (fun _=>true) (ys.take k)↔has q x):=by
  have key : ∀ l,cnt l (fun _=>true) (ys.take k) = cnt l (fun a=>decide (a≤x)) (evs p 0) + cnt l (fun a=>decide (a≤x)) (evs q 1):=by
    intro l;rw [← q1e,← qew b]
    conv=>rhs;rw [← List.take_append_drop k ys]
    rw [q1e]
    have n : cnt l (fun a=>decide (a≤x)) (ys.drop k) = 0:=by
      refine qev fun e c=>?_;obtain ⟨i,hi,rfl⟩:=List.mem_iff_getElem.1 c;rw [List.getElem_drop];rw [List.length_drop] at hi;have:=d (k + i) q6 q6;exact Qm q6
    have o : cnt l (fun a=>decide (a≤x)) (ys.take k) = cnt l (fun _=>true) (ys.take k):=by
      refine qet fun e c=>?_;obtain ⟨i,hi,rfl⟩:=List.mem_iff_getElem.1 c;rw [List.getElem_take];rw [List.length_take] at hi;exact Qe (g i q6 q6)
    rw [n,o];omega
  rw [key 0,key 1,q62 (l:=0) (l':=1) qw,q62 (l:=1) (l':=0) qw];have m:=qeu (l:=0) hp x;have j:=qeu (l:=1) f x;rw [Int.add_zero,Int.zero_add];exact ⟨m.2,j.2⟩
open Classical in
theorem qo7 (f : Bool→Bool→Bool) (hf : f false false = false) (p2 : Bool→Bool→Option Bool) (hp2 : ∀ a b,p2 a b = some (f a b)) (p q : List qm)
    (hp : p.length≤500) (hq : q.length≤500) (vp : ∀ t∈p,vld t) (vq : ∀ t∈q,vld t) :
    ∃ out,q5p p q p2 = some out∧Can out∧∀ x,has out x↔f (decide (has p x)) (decide (has q x)) = true:=by
  obtain ⟨ys,e1,g,hs⟩:=qw8 p q hp hq vp vq;have bf : ys.length≤2000:=by rw [g.length_eq,List.length_append,q69,q69];omega
  have w : ∀ i j (hi : i < ys.length) (hj : j < ys.length),i≤j→ys[i].at_≤ys[j].at_:=by
    intro i j hi hj bo;rcases Nat.lt_or_ge i j with h | h
    · exact List.pairwise_iff_getElem.1 hs i j hi hj h
    · obtain rfl : i = j:=by omega
      exact Int.le_refl _
  have y : ∀ e∈ys,(e.list_ = 0∨e.list_ = 1)∧(e.by_ = 1∨e.by_ = -1):=by
    intro e he;rcases List.mem_append.1 (g.mem_iff.1 he) with h | h
    · obtain ⟨a,b,_⟩:=q9i h;exact ⟨.inl a,b⟩
    · obtain ⟨a,b,_⟩:=q9i h;exact ⟨.inr a,b⟩
  have:=Zx (f:=q3j ([p,q],ys) p2) (σ:=List Int × Int × Bool × List qm) (fun k c=>((k : Int),c)) ys.length (qk9 f p q ys) (fun out=>Can out∧∀ x,has out x↔f (decide (has p x)) (decide (has q x)) = true) ?_ ?_ (k0:=0) (c0:=([0,0],0,false,[])) q6 ?_
  · obtain ⟨out,r,m⟩:=this;refine ⟨out,?_,m⟩;unfold q5p;have r : loop (q3j ([p,q],ys) p2) (0,[0,0],0,false,[]) = some out:=r;rw [e1];simp only [qp,r];rfl
  · rintro k ⟨opn,d,inn,out⟩ hk ⟨s1,s2,s3,s4,s5,s6,s7,s8⟩;simp only at s1 s2 s3 s4 s5 s6 s7 s8;have ae : decide ((k : Int) < (ys.length : Int)) = true:=Qe q6;have be:=qlw ys[k].at_ d inn out q6;have hm:=y ys[k] (Yi hk);have bc : ys.take (k + 1) = ys.take k ++ [ys[k]]:=List.take_succ_eq_append_getElem hk;have ak : ∀ e∈ys.take k,e.by_ = 1∨e.by_ = -1:=fun e he=>(y e (List.mem_of_mem_take he)).2;have b0:=qbd (l:=0) (c:=fun _=>true) ak;have b1:=qbd (l:=1) (c:=fun _=>true) ak;have au : (ys.take k).length = k:=by rw [List.length_take];omega
    rw [au] at b0 b1
    have ad : ∃ v,idxA 2 opn ys[k].list_ = some v∧opn.set ys[k].list_.toNat (w64 (v + ys[k].by_)) = [cnt 0 (fun _=>true) (ys.take (k + 1)),cnt 1 (fun _=>true) (ys.take (k + 1))]:=by
      subst s1;rw [bc,q1e,q1e];rcases hm.1 with h | h
      · refine ⟨cnt 0 (fun _=>true) (ys.take k),by rw [h];rfl,?_⟩;rw [h,Qa q6];simp [cnt,h]
      · refine ⟨cnt 1 (fun _=>true) (ys.take k),by rw [h];rfl,?_⟩;rw [h,Qa q6];simp [cnt,h]
    obtain ⟨v,o1,o2⟩:=ad;refine .inl ⟨([cnt 0 (fun _=>true) (ys.take (k + 1)),cnt 1 (fun _=>true) (ys.take (k + 1))],ys[k].at_,f (decide (0 < cnt 0 (fun _=>true) (ys.take (k + 1)))) (decide (0 < cnt 1 (fun _=>true) (ys.take (k + 1)))),if inn = true∧d≠ys[k].at_ then addS out d ys[k].at_ else out),?_,?_⟩
    · have x0 : ∀ a b : Int,idxA 2 [a,b] 0 = some a:=fun a b=>rfl;have x1 : ∀ a b : Int,idxA 2 [a,b] 1 = some b:=fun a b=>rfl;simp only [q3j,ae,Q1,K5 hk,qp,be,o1,o2,x0,x1,hp2];rw [Qa q6];rfl
    · have ac : ∀ x,(0 < k→d≤x)→∀ i (h : i < ys.length),i < k→ys[i].at_≤x:=by
        intro x o i hi ao;have:=s3 q6 q6;have:=w i (k - 1) hi q6 q6;have:=o q6;omega
      have ab : ∀ x,x < ys[k].at_→∀ i (h : i < ys.length),k≤i→x < ys[i].at_:=by
        intro x o i hi ao;have:=w k i hk hi ao;omega
      have hF : ∀ x,(0 < k→d≤x)→x < ys[k].at_→f (decide (has p x)) (decide (has q x)) = inn:=by
        intro x o ar;obtain ⟨c1,c2⟩:=qes vp vq g hs k x (ac x o) (ab x ar);rw [s2,decide_eq_decide.2 c1,decide_eq_decide.2 c2]
      have n : 0 < k→d≤ys[k].at_:=by
        intro u;rw [s3 q6 u];exact w (k - 1) k q6 hk q6
      have z : k = 0→inn = false:=by
        intro u;subst u;rw [s2];exact hf
      by_cases s : inn = true∧d≠ys[k].at_
      · have aj : 0 < k:=by
          rcases Nat.eq_zero_or_pos k with h | h
          · rw [z h] at s;cases s.1
          · exact h
        have hl:=n aj;have bb : d < ys[k].at_:=by have:=s.2;omega
        obtain ⟨d1,d2,d3,d4⟩:=qe2 s4 s5 bb;constructor
        · rfl
        · rfl
        · intro h _;rfl
        · simp only [qs s];exact d1
        · simp only [qs s];exact d3
        · omega
        · intro x;simp only [qs s];rw [d2,s7];constructor
          · rintro (⟨u,r,m⟩ | ⟨r,m⟩)
            · exact ⟨q6,q6,m⟩
            · exact ⟨q6,m,by rw [hF x (fun _=>r) m];exact s.1⟩
          · rintro ⟨u,r,m⟩;by_cases o : x < d
            · exact .inl ⟨aj,o,m⟩
            · exact .inr ⟨q6,r⟩
        · simp only [qs s];have:=qkc out d ys[k].at_;omega
      · constructor
        · rfl
        · rfl
        · intro h _;rfl
        · simp only [qy s];exact s4
        · simp only [qy s];intro t ht;rcases Nat.eq_zero_or_pos k with h | h
          · rw [s6 h] at ht;cases ht
          · have:=s5 t ht;have:=n h;omega
        · omega
        · intro x;simp only [qy s];rw [s7];constructor
          · rintro ⟨u,r,m⟩;exact ⟨q6,by have:=n u;omega,m⟩
          · rintro ⟨u,r,m⟩;by_cases o : 0 < k∧x < d
            · exact ⟨o.1,o.2,m⟩
            · have al : 0 < k→d≤x:=fun h=>by
                refine Int.not_lt.1 fun h'=>o ⟨h,h'⟩
              have:=hF x al r;rw [this] at m;refine absurd ⟨m,?_⟩ s;intro e;rcases Nat.eq_zero_or_pos k with h | h
              · rw [z h] at m;cases m
              · have:=al h;omega
        · simp only [qy s];omega
  · rintro ⟨opn,d,inn,out⟩ ⟨s1,s2,s3,s4,s5,s6,s7,s8⟩;simp only at s1 s2 s3 s4 s5 s6 s7 s8;have ae : decide ((ys.length : Int) < (ys.length : Int)) = false:=Qm q6;refine ⟨out,by simp only [q3j,ae,Q2],s4,fun x=>?_⟩;rw [s7];constructor
    · rintro ⟨_,_,h⟩;exact h
    · intro h;by_cases o : 0 < ys.length∧x < d
      · exact ⟨o.1,o.2,h⟩
      · obtain ⟨c1, c2⟩ := qes vp vq g hs ys.length x (fun i hi _ => by
            have:=s3 q6 q6;have:=w i (ys.length - 1) hi q6 q6;have : d≤x:=Int.not_lt.1 fun h'=>o ⟨q6,h'⟩
            omega) (fun i hi bk=>q6)
        have ay : ∀ l,cnt l (fun _=>true) (ys.take ys.length) = 0:=by
          intro l;rw [List.take_length,qew g,q1e];by_cases u : l = 0
          · subst u;rw [qex,q62 qw];rfl
          · rw [q62 u];by_cases r : l = 1
            · subst r;rw [qex];rfl
            · rw [q62 r];rfl
        rw [ay] at c1 c2;have n1 : ¬ has p x:=fun h=>absurd (c1.2 h) qw;have n2 : ¬ has q x:=fun h=>absurd (c2.2 h) qw;rw [Qm n1,Qm n2,hf] at h;cases h
  · constructor
    · simp [cnt]
    · simp [cnt,hf]
    · intro h u;omega
    · exact ⟨fun t ht=>(by cases ht),.nil⟩
    · intro t ht;cases ht
    · intro _;rfl
    · intro x;simp [has]
    · simp
end Go.Sh
namespace Go.Sh
open Go Go.Am
theorem qlt {s : List qm} (h : Jw s = 0) : s.length≤400∧Good s:=by
  unfold Jw at h;split at h
  · cases h
  · split at h
    · rename_i b a;exact ⟨q6,a⟩
    · cases h
def dst (x : Int) (t : qm) : Int:=max (max (t.Lo - x) (x - t.Hi + 1)) 0
end Go.Sh
namespace Go.Sh
open Go Go.Am
noncomputable def U9 (kind : Int) (p q : List qm) : List qm:=(q9q kind p q).getD []
theorem q6i (kind : Int) (p q : List qm) (hp : p.length≤100000) (b : q.length≤100000) : q9q kind p q = some (U9 kind p q)∧qat kind p q (U9 kind p q):=by
  obtain ⟨out,a,c⟩:=qo9 kind p q hp b;unfold U9;rw [a];exact ⟨rfl,c⟩
theorem qnz (s : List qm) (a : qm→Option Bool) (c : qm→Bool) (h : ∀ t,a t = some (c t)) (p : s.length≤1000000) :
    ∃ r,q7d s a = some r∧decide (r ≥ 0) = s.any c:=by
  have:=Zx (f:=q25 s a) (σ:=Unit) (fun k _=>(k : Int)) s.length (fun k _=>∀ i (h : i < s.length),i < k→c s[i] = false)
    (fun m=>∃ r : Int,(match m with | .inl b22=>some (-1) | .inr x1=>some x1) = some r∧decide (r ≥ 0) = s.any c) ?_ ?_ (k0:=0) (c0:=()) q6 (fun i _ hi=>q6)
  · obtain ⟨m,g,r,j,n⟩:=this;have g : loop (q25 s a) 0 = some m:=g;exact ⟨r,by unfold q7d;rw [g];exact j,n⟩
  · rintro k _ d hi;have hb : decide ((k : Int) < (s.length : Int)) = true:=Qe q6
    cases b : c s[k] with
    | true=>
      refine .inr ⟨.inr (k : Int),?_,(k : Int),rfl,?_⟩
      · simp only [q25,hb,Q1,K5 d,qp,h,b]
      · have : s.any c = true:=List.any_eq_true.2 ⟨s[k],Yi d,b⟩;rw [this];exact Qe q6
    | false=>
      refine .inl ⟨(),?_,?_⟩
      · simp only [q25,hb,Q1,K5 d,qp,h,b,Q2];rw [Qa q6];rfl
      · intro i hi1 o;by_cases e : i = k
        · subst e;exact b
        · exact hi i hi1 q6
  · rintro _ hi;have hb : decide ((s.length : Int) < (s.length : Int)) = false:=Qm q6;refine ⟨.inl (),by simp only [q25,hb,Q2],-1,rfl,?_⟩
    have : s.any c = false:=by
      rw [List.any_eq_false];intro t l;obtain ⟨i,hi1,rfl⟩:=List.mem_iff_getElem.1 l;simp [hi i hi1 hi1]
    rw [this];rfl
theorem qm7 (s : List qm) (a : qm→Option Bool) (c : qm→Bool) (h : ∀ t,a t = some (c t)) (b : s.length≤1000000) : q7a s a = some (s.any c):=by
  obtain ⟨r,f,d⟩:=qnz s a c h b;unfold q7a;rw [f,qp,d]
open Classical in
noncomputable def q9f (s : List qm) : List qm × Int:=if 400 < s.length then ([],4) else if ∀ t∈s,vld t then (U9 2 s [],0) else ([],8)
theorem qom (s : List qm) (k : s.length≤400) (c : ∀ t∈s,vld t) (p2 : Bool→Bool→Option Bool) (hp2 : ∀ a b,p2 a b = some a) : q5p s [] p2 = some (U9 2 s []):=by
  classical
  obtain ⟨out,f,d,h⟩:=qo7 (fun a _=>a) rfl p2 hp2 s [] q6 qe c (fun t g=>by cases g);obtain ⟨_,j⟩:=q6i 2 s [] q6 qe;rw [f];congr 1;refine q60 d j.can fun x=>?_;rw [h,j.pts];simp [Yx,Uw]
theorem qgz (s : List qm) : q2a s = some (q9f s):=by
  classical
  unfold q2a q9f;by_cases f : 400 < s.length
  · have e : decide ((s.length : Int) > 400) = true:=Qe q6;rw [e,qs f];rfl
  · have e : decide ((s.length : Int) > 400) = false:=Qm q6;rw [e,qy f,Q2,qm7 s _ (fun t=>!decide (vld t)) (fun t=>by show (q2b t).bind _ = _;rw [qjz];rfl) q6,qp];by_cases c : ∀ t∈s,vld t
    · have : (s.any fun t=>!decide (vld t)) = false:=by
        rw [List.any_eq_false];intro t d;simp [c t d]
      rw [this,Q2,qs c,qom s q6 c (fun g j=>q89 g j) (fun a b=>rfl)];rfl
    · have : (s.any fun t=>!decide (vld t)) = true:=by
        rw [List.any_eq_true];obtain ⟨t,c⟩:=Classical.not_forall.1 c;obtain ⟨d,h⟩:=Classical.not_imp.1 c;exact ⟨t,d,by simp [h]⟩
      rw [this,Q1,qy c]
def lenL : List qm→Int
  | []=>0
  | t::s=>(t.Hi - t.Lo) + lenL s
theorem qgs (a b : List qm) : lenL (a ++ b) = lenL a + lenL b:=by
  induction a with
  | nil=>simp [lenL]
  | cons t a ih=>simp only [List.cons_append,lenL,ih];omega
theorem qgt : ∀ {s : List qm},(∀ t∈s,vld t)→0≤lenL s∧lenL s≤2000000 * (s.length : Int)
  | [],_=>by simp [lenL]
  | t::s,h=>by
    obtain ⟨d,b⟩:=qgt (fun t a=>h t (List.mem_cons_of_mem _ a))
    obtain ⟨g,f,c⟩:=h t qe
    simp only [lenL,List.length_cons]
    omega
noncomputable def qc3 (s : List qm) : Int × Int:=if Jw s = 0 then (lenL s,0) else (0,Jw s)
theorem qob (s : List qm) (o : s.length≤400) (g : ∀ t∈s,vld t) : loop (q88 s) (0,0) = some (lenL s)∧loop (q6v s) (0,0) = some (lenL s):=by
  have d : ∀ k,0≤lenL (s.take k)∧lenL (s.take k)≤800000000:=by
    intro k;have:=qgt (s:=s.take k) (fun t n=>g t (List.mem_of_mem_take n));have : (s.take k).length≤400:=by rw [List.length_take];omega
    omega
  constructor
  · have:=Zx (f:=q88 s) (σ:=Int) (fun k c=>(c,(k : Int))) s.length (fun k c=>c = lenL (s.take k)) (fun r=>r = lenL s) ?_ ?_ (k0:=0) (c0:=0) q6 (by simp [lenL])
    · obtain ⟨b,h,rfl⟩:=this;exact h
    · rintro k c a rfl;have hb : decide ((k : Int) < (s.length : Int)) = true:=Qe q6;obtain ⟨m,l,j⟩:=g _ (Yi a);have:=d k;refine .inl ⟨lenL (s.take (k + 1)),?_,rfl⟩;simp only [q88,hb,Q1,K5 a,qp];rw [Qa (x:=s[k].Hi - s[k].Lo) q6,Qa (x:=lenL (s.take k) + _) q6,Qa q6,List.take_succ_eq_append_getElem a,qgs];simp only [lenL,Int.add_zero];rfl
    · rintro c rfl;have hb : decide ((s.length : Int) < (s.length : Int)) = false:=Qm q6;exact ⟨_,by simp only [q88,hb,Q2];rfl,by rw [List.take_length]⟩
  · have:=Zx (f:=q6v s) (σ:=Int) (fun k c=>(c,(k : Int))) s.length (fun k c=>c = lenL (s.take k)) (fun r=>r = lenL s) ?_ ?_ (k0:=0) (c0:=0) q6 (by simp [lenL])
    · obtain ⟨b,h,rfl⟩:=this;exact h
    · rintro k c a rfl;have hb : decide ((k : Int) < (s.length : Int)) = true:=Qe q6;obtain ⟨m,l,j⟩:=g _ (Yi a);have:=d k;refine .inl ⟨lenL (s.take (k + 1)),?_,rfl⟩;simp only [q6v,hb,Q1,K5 a,qp];rw [Qa (x:=lenL (s.take k) + s[k].Hi) q6,Qa (x:=lenL (s.take k) + s[k].Hi - _) q6,Qa q6,List.take_succ_eq_append_getElem a,qgs];have : lenL (s.take k) + s[k].Hi - s[k].Lo = lenL (s.take k) + lenL [s[k]]:=by simp only [lenL];omega
      rw [this];rfl
    · rintro c rfl;have hb : decide ((s.length : Int) < (s.length : Int)) = false:=Qm q6;exact ⟨_,by simp only [q6v,hb,Q2];rfl,by rw [List.take_length]⟩
theorem qy3 (s : List qm) : qjb s = some (qc3 s)∧qi2 s = some (qc3 s):=by
  unfold qjb qi2 qc3;simp only [qeo,qql,qp];by_cases h : Jw s = 0
  · obtain ⟨c,d⟩:=qlt h;obtain ⟨a,b⟩:=qob s c d.1;have e : (Jw s != 0) = false:=by simpa using h
    simp only [e,Q2,a,b,qp];simp only [h,if_true];exact ⟨trivial,trivial⟩
  · have e : (Jw s != 0) = true:=by simpa using h
    simp only [e,Q1,qy h];exact ⟨trivial,trivial⟩
end Go.Sh
set_option maxHeartbeats 4000000
namespace Go.Sh
open Go Go.Am
def sg (a b : Int) : Int:=if a < b then -1 else 0
theorem Zn {a b : Int} : decide (sg a b < 0) = decide (a < b):=by
  unfold sg;by_cases h : a < b <;> simp [h]
def qO (a b : Int) : Option Int:=some (sg a b)
theorem Zy (a b : Int) : qO a b = some (sg a b):=rfl
theorem Zv (a b : Int) : Yr a b = some (decide (a < b)):=by
  unfold Yr q61;have : (a != a) = false:=by simp
  simp []
theorem qvt : qah = q3w:=rfl
theorem qtv : (fun a=>q1u a) = (fun a=>q2q a):=by
  funext a;simp only [q1u,q2q,qvt]
  all_goals exact Qu
theorem qtw  : ∀ a,q1u a = q2q a:=fun a=>(congrFun qtv a)
theorem qtu : (fun a=>Ua a) = (fun a=>Um a):=by
  funext a;simp only [Ua,Um,qtw]
  all_goals exact Qu
theorem qj2  : ∀ a,Ua a = Um a:=fun a=>(congrFun qtu a)
theorem quf : (fun a=>q4x a) = (fun a=>Jk a qO):=by
  funext a a443;simp only [q4x,Jk,Zv,Zy,qp,Zn]
  all_goals exact Qu
theorem qug  : ∀ a,q4x a = Jk a qO:=fun a=>(congrFun quf a)
theorem qud : (fun p2 a=>q4w p2 a) = (fun p2 a=>Uq p2 a qO):=by
  funext p2 a a270;simp only [q4w,Uq,qug]
  all_goals exact Qu
theorem que  : ∀ p2 a,q4w p2 a = Uq p2 a qO:=fun p2 a=>(congrFun (congrFun qud p2) a)
theorem qub : (fun b a p2=>q4v b a p2) = (fun b a p2=>q1m qO b a p2):=by
  funext b a p2;simp only [q4v,q1m,que]
  all_goals exact Qu
theorem quc  : ∀ b a p2,q4v b a p2 = q1m qO b a p2:=fun b a p2=>(congrFun (congrFun (congrFun qub b) a) p2)
theorem qvr : (fun p2 p3=>q5j p2 p3) = (fun p2 p3=>Jn p2 p3 qO):=by
  funext p2 p3 a193;simp only [q5j,Jn,Zv,Zy,qp,Zn]
  all_goals exact Qu
theorem qvs  : ∀ p2 p3,q5j p2 p3 = Jn p2 p3 qO:=fun p2 p3=>(congrFun (congrFun qvr p2) p3)
theorem qvq : (fun b a p2 p3=>q3d b a p2 p3) = (fun b a p2 p3=>U7 qO b a p2 p3):=by
  funext b a p2 p3;simp only [q3d,U7,qvs]
  all_goals exact Qu
theorem qj4  : ∀ b a p2 p3,q3d b a p2 p3 = U7 qO b a p2 p3:=fun b a p2 p3=>(congrFun (congrFun (congrFun (congrFun qvq b) a) p2) p3)
theorem qu7 : (fun p2 a=>q4t p2 a) = (fun p2 a=>Uo qO p2 a):=by
  funext p2 a a123;simp only [q4t,Uo,qj4]
  all_goals exact Qu
theorem qu8  : ∀ p2 a,q4t p2 a = Uo qO p2 a:=fun p2 a=>(congrFun (congrFun qu7 p2) a)
theorem qu9 : (fun a=>q4u a) = (fun a=>Up a qO):=by
  funext a a191;simp only [q4u,Up,qj4]
  all_goals exact Qu
theorem qua  : ∀ a,q4u a = Up a qO:=fun a=>(congrFun qu9 a)
theorem qu5 : (fun b a p2=>q4s b a p2) = (fun b a p2=>q1l qO b a p2):=by
  funext b a p2;simp only [q4s,q1l,qu8,qua]
  all_goals exact Qu
theorem qu6  : ∀ b a p2,q4s b a p2 = q1l qO b a p2:=fun b a p2=>(congrFun (congrFun (congrFun qu5 b) a) p2)
theorem quk : (fun a=>q18 a) = (fun a=>q1n a):=by
  funext a;simp only [q18,q1n,qj2]
  all_goals exact Qu
theorem qul  : ∀ a,q18 a = q1n a:=fun a=>(congrFun quk a)
theorem qvu : (fun a=>q19 a) = (fun a=>q1r a):=by
  funext a;simp only [q19,q1r]
  all_goals exact Qu
theorem qvv  : ∀ a,q19 a = q1r a:=fun a=>(congrFun qvu a)
theorem qu1 : (fun b p2 a=>q4q b p2 a) = (fun b p2 a=>Jy b p2 a):=by
  funext b p2 a a153;simp only [q4q,Jy,qvv]
  all_goals exact Qu
theorem qu2  : ∀ b p2 a,q4q b p2 a = Jy b p2 a:=fun b p2 a=>(congrFun (congrFun (congrFun qu1 b) p2) a)
theorem qtz : (fun b a p2=>q4p b a p2) = (fun b a p2=>Un qO b a p2):=by
  funext b a p2;simp only [q4p,Un,qul,qu2]
  all_goals exact Qu
theorem qu0  : ∀ b a p2,q4p b a p2 = Un qO b a p2:=fun b a p2=>(congrFun (congrFun (congrFun qtz b) a) p2)
theorem qum : (fun b a p2 p3=>q27 b a p2 p3) = (fun b a p2 p3=>U0 qO b a p2 p3):=by
  funext b a p2 p3;simp only [q27,U0,Zv,Zy,qp,Zn]
  all_goals exact Qu
theorem qun  : ∀ b a p2 p3,q27 b a p2 p3 = U0 qO b a p2 p3:=fun b a p2 p3=>(congrFun (congrFun (congrFun (congrFun qum b) a) p2) p3)
theorem quh : (fun b a p2 p3 p4=>q37 b a p2 p3 p4) = (fun b a p2 p3 p4=>Jz qO b a p2 p3 p4):=by
  funext b a p2 p3 p4;simp only [q37,Jz,qun]
  all_goals exact Qu
theorem qj3  : ∀ b a p2 p3 p4,q37 b a p2 p3 p4 = Jz qO b a p2 p3 p4:=fun b a p2 p3 p4=>(congrFun (congrFun (congrFun (congrFun (congrFun quh b) a) p2) p3) p4)
theorem qui : (fun b a p2=>q26 b a p2) = (fun b a p2=>Jl qO b a p2):=by
  funext b a p2;simp only [q26,Jl,qj3]
  all_goals exact Qu
theorem quj  : ∀ b a p2,q26 b a p2 = Jl qO b a p2:=fun b a p2=>(congrFun (congrFun (congrFun qui b) a) p2)
theorem qu3 : (fun b a p2=>q4r b a p2) = (fun b a p2=>q1k b a p2 qO):=by
  funext b a p2;simp only [q4r,q1k,qj3,quj]
  all_goals exact Qu
theorem qu4  : ∀ b a p2,q4r b a p2 = q1k b a p2 qO:=fun b a p2=>(congrFun (congrFun (congrFun qu3 b) a) p2)
theorem qvp : q83 = q1q:=by
  funext a119;simp only [q83,q1q]
  all_goals exact Qu
theorem qvn : (fun b a p2=>q5h b a p2) = (fun b a p2=>Uv qO b a p2):=by
  funext b a p2;simp only [q5h,Uv,qvp]
  all_goals exact Qu
theorem qvo  : ∀ b a p2,q5h b a p2 = Uv qO b a p2:=fun b a p2=>(congrFun (congrFun (congrFun qvn b) a) p2)
theorem qut : (fun p2 a=>q51 p2 a) = (fun p2 a=>U1 p2 a qO):=by
  funext p2 a a667;simp only [q51,U1,Zv,Zy,qp,Zn]
  all_goals exact Qu
theorem quu  : ∀ p2 a,q51 p2 a = U1 p2 a qO:=fun p2 a=>(congrFun (congrFun qut p2) a)
theorem quv : q7q = U2 qO:=by
  funext a822;simp only [q7q,U2,Zv,Zy,qp,Zn]
  all_goals exact Qu
theorem quw : (fun p2 a=>q52 p2 a) = (fun p2 a=>U3 p2 qO a):=by
  funext p2 a a912;simp only [q52,U3,Zv,Zy,qp,Zn]
  all_goals exact Qu
theorem qux  : ∀ p2 a,q52 p2 a = U3 p2 qO a:=fun p2 a=>(congrFun (congrFun quw p2) a)
theorem qur : (fun p2 a=>q3a p2 a) = (fun p2 a=>Zl p2 qO a):=by
  funext p2 a a432;have b : @q3a.match_1.{1} = @Zl.match_1.{1} Int:=by funext motive m f g;cases m <;> rfl
  unfold q3a Zl;rw [b];simp only [quu,quv,qux]
  all_goals repeat' first | with_reducible rfl | (congr 1) | funext _
  done
theorem qus  : ∀ p2 a,q3a p2 a = Zl p2 qO a:=fun p2 a=>(congrFun (congrFun qur p2) a)
theorem qup : (fun b a p2=>q39 b a p2) = (fun b a p2=>Jm qO b a p2):=by
  funext b a p2;have c : @q39.match_1.{1} = @Jm.match_1.{1} Int:=by funext motive m f g;cases m <;> rfl
  unfold q39 Jm;rw [c];simp only [qus]
  all_goals repeat' first | with_reducible rfl | (congr 1) | funext _
  done
theorem quq  : ∀ b a p2,q39 b a p2 = Jm qO b a p2:=fun b a p2=>(congrFun (congrFun (congrFun qup b) a) p2)
theorem qv3 : (fun a b=>q55 a b) = (fun a b=>U4 a b qO):=by
  funext a b a360;simp only [q55,U4,Zv,Zy,qp,Zn]
  all_goals exact Qu
theorem qv4  : ∀ a b,q55 a b = U4 a b qO:=fun a b=>(congrFun (congrFun qv3 a) b)
theorem qv5 : (fun a b c=>q56 a b c) = (fun a b c=>U5 a b c qO):=by
  funext a b c a439;simp only [q56,U5,Zv,Zy,qp,Zn]
  all_goals exact Qu
theorem qv6  : ∀ a b c,q56 a b c = U5 a b c qO:=fun a b c=>(congrFun (congrFun (congrFun qv5 a) b) c)
theorem qv1 : (fun a=>q54 a) = (fun a=>Ut a qO):=by
  funext a a304;simp only [q54,Ut,qv4,qv6]
  all_goals exact Qu
theorem qv2  : ∀ a,q54 a = Ut a qO:=fun a=>(congrFun qv1 a)
theorem quz : (fun b a p2 p3=>q53 b a p2 p3) = (fun b a p2 p3=>Us qO b a p2 p3):=by
  funext b a p2 p3;simp only [q53,Us,qv2]
  all_goals exact Qu
theorem qv0  : ∀ b a p2 p3,q53 b a p2 p3 = Us qO b a p2 p3:=fun b a p2 p3=>(congrFun (congrFun (congrFun (congrFun quz b) a) p2) p3)
theorem qv8 : (fun p2 d c b p3 a=>q58 p2 d c b p3 a) = (fun p2 d c b p3 a=>q1o p2 d c b p3 a qO):=by
  funext p2 d c b p3 a a159;simp only [q58,q1o,Zv,Zy,qp,Zn]
  all_goals exact Qu
theorem qv9  : ∀ p2 d c b p3 a,q58 p2 d c b p3 a = q1o p2 d c b p3 a qO:=fun p2 d c b p3 a=>(congrFun (congrFun (congrFun (congrFun (congrFun (congrFun qv8 p2) d) c) b) p3) a)
theorem qva : (fun a f d c p3 b=>q59 a f d c p3 b) = (fun a f d c p3 b=>q1p a f d c p3 b qO):=by
  funext a f d c p3 b a239;simp only [q59,q1p,Zv,Zy,qp,Zn]
  all_goals exact Qu
theorem qvb  : ∀ a f d c p3 b,q59 a f d c p3 b = q1p a f d c p3 b qO:=fun a f d c p3 b=>(congrFun (congrFun (congrFun (congrFun (congrFun (congrFun qva a) f) d) c) p3) b)
theorem qve : (fun a b=>q5b a b) = (fun a b=>Zt a b qO):=by
  funext a b a542;simp only [q5b,Zt,Zv,Zy,qp,Zn]
  all_goals exact Qu
theorem qvf  : ∀ a b,q5b a b = Zt a b qO:=fun a b=>(congrFun (congrFun qve a) b)
theorem qvg : (fun a b c=>q5c a b c) = (fun a b c=>Zu a b c qO):=by
  funext a b c a622;simp only [q5c,Zu,Zv,Zy,qp,Zn]
  all_goals exact Qu
theorem qvh  : ∀ a b c,q5c a b c = Zu a b c qO:=fun a b c=>(congrFun (congrFun (congrFun qvg a) b) c)
theorem qvc : (fun a=>q5a a) = (fun a=>Uu a qO):=by
  funext a a488;simp only [q5a,Uu,qvf,qvh]
  all_goals exact Qu
theorem qvd  : ∀ a,q5a a = Uu a qO:=fun a=>(congrFun qvc a)
theorem quy : (fun b a p2 p3=>q57 b a p2 p3) = (fun b a p2 p3=>Ur qO b a p2 p3):=by
  funext b a p2 p3;simp only [q57,Ur,qv9,qvb,qvd]
  all_goals exact Qu
theorem qv7  : ∀ b a p2 p3,q57 b a p2 p3 = Ur qO b a p2 p3:=fun b a p2 p3=>(congrFun (congrFun (congrFun (congrFun quy b) a) p2) p3)
theorem qvj : (fun a=>q3b a) = (fun a=>Z7 qO a):=by
  funext a a305;have b : @q3b.match_1.{1} = @Z7.match_1.{1} Int:=by funext motive m f g;cases m <;> rfl
  unfold q3b Z7;rw [b];simp only [quc,qu6,qu0,qu4,qvo,quq,qv0,qv7,Zv,Zy,qp,Zn]
  all_goals repeat' first | with_reducible rfl | (congr 1) | funext _
  done
theorem qvk  : ∀ a,q3b a = Z7 qO a:=fun a=>(congrFun qvj a)
theorem qvl : (fun a c b p2 p3=>q3c a c b p2 p3) = (fun a c b p2 p3=>U6 a qO c b p2 p3):=by
  funext a c b p2 p3;simp only [q3c,U6,qvk]
  all_goals exact Qu
theorem qvm  : ∀ a c b p2 p3,q3c a c b p2 p3 = U6 a qO c b p2 p3:=fun a c b p2 p3=>(congrFun (congrFun (congrFun (congrFun (congrFun qvl a) c) b) p2) p3)
theorem qvi : ∀ N,q5g N = Yw N qO:=by
  intro N
  induction N with
  | zero=>rfl
  | succ N ih=>
    funext a b c d;show q3c (q5g N) a b c d = U6 (Yw N qO) qO a b c d;rw [ih,qvm]
theorem qtx : (fun a=>Uf a) = (fun a=>q1j qO a):=by
  funext a;simp only [Uf,q1j,qj2,qvi]
  all_goals exact Qu
theorem qty  : ∀ a,Uf a = q1j qO a:=fun a=>(congrFun qtx a)
end Go.Sh
