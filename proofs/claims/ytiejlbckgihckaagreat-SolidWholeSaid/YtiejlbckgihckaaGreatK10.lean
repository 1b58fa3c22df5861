/- Pg4 Pg5 Pg6 Pj1 Pj2 Pl4 Pj3 Po1 -/
import Derived.Test.YtiejlbckgihckaaGreatK9
namespace Go.Sh
open Go Go.Am
section
variable {T : Type} [Inhabited T] {P : T→Prop} {lt : T→T→Bool} {q : T→T→Option Int}
theorem qh2 {f : Int→Option (Int ⊕ Int)} (p : T→Bool) (d : Array T) (j : Nat)
    (b : ∀ k : Nat,k≤1000002→f (k : Int) = if (decide (k≤j) && p d[k]!) = true then some (.inl ((k + 1 : Nat) : Int)) else some (.inr (k : Int))) (g : j≤1000000) :
    ∀ (m i : Nat),j + 1 - i = m→i≤1000002→loop f (i : Int) = some ((Sort.scanUp p d j i : Nat) : Int):=by
  intro m
  induction m with
  | zero=>
    intro i c hi;unfold Sort.scanUp;have a : ¬ (decide (i≤j) && p d[i]!) = true:=by simp;omega
    rw [qq a];exact Kn (by rw [b i hi,qq a])
  | succ m ih=>
    intro i c hi;unfold Sort.scanUp;by_cases a : (decide (i≤j) && p d[i]!) = true
    · rw [qr a,Y9 (by rw [b i hi,qr a])];exact ih (i + 1) q0 q0
    · rw [qq a];exact Kn (by rw [b i hi,qq a])
theorem qd3 {f : Int→Option (Int ⊕ Int)} (p : T→Bool) (d : Array T) (i n : Nat) (hi : 1≤i)
    (b : ∀ k : Nat,k < n→f (k : Int) = if (decide (i≤k) && p d[k]!) = true then some (.inl ((k - 1 : Nat) : Int)) else some (.inr (k : Int))) :
    ∀ (j : Nat),j < n→loop f (j : Int) = some ((Sort.scanDown p d i j : Nat) : Int)
  | 0,hj=>by
    have a : ¬ (decide (i≤0) && p d[0]!) = true:=by simp;omega
    exact Kn (by rw [b 0 hj,qq a];rfl)
  | j + 1,hj=>by
    unfold Sort.scanDown
    by_cases a : (decide (i≤j + 1) && p d[j + 1]!) = true
    · rw [qr a,Y9 (by rw [b (j + 1) hj,qr a])]
      exact qd3 p d i n hi b j q0
    · rw [qq a]
      exact Kn (by rw [b (j + 1) hj,qq a])
theorem qmg (b : Kw q lt P) {n : Nat} {d : Array T} (hd : AllP n P d) {a j : Nat} (g : a < n) (m : j < n) (x : Int) (k : Nat) (o : k≤1000002) :
    Jf (x,(j : Int),d.toList) (a : Int) q (k : Int) = if (decide (k≤j) && (fun x=>lt x d[a]!) d[k]!) = true then some (.inl ((k + 1 : Nat) : Int)) else some (.inr (k : Int)):=by
  have l:=hd.1;by_cases h : k≤j
  · obtain ⟨r,f,c⟩:=b d[k]! d[a]! (hd.2.2 _ q0) (hd.2.2 _ g);have t : decide ((k : Int)≤(j : Int)) = true:=Qf q0;simp only [Jf,t,Q2,gx (d:=d) (k:=k) q0,gx (d:=d) (k:=a) q0,qk,f,c,w1p k q0];simp only [Qf h,Bool.true_and,Bool.cond_eq_ite]
  · have t : decide ((k : Int)≤(j : Int)) = false:=Qj q0;simp only [Jf,t,Q3,qk];simp [h]
theorem qmh (g : Kw q lt P) {n : Nat} {d : Array T} (hd : AllP n P d) {a i : Nat} (f : a < n) (hi : 1≤i) (x y : Int) (k : Nat) (m : k < n) :
    Jg (i : Int) (x,y,d.toList) (a : Int) q (k : Int) = if (decide (i≤k) && (fun x=>!lt x d[a]!) d[k]!) = true then some (.inl ((k - 1 : Nat) : Int)) else some (.inr (k : Int)):=by
  have j:=hd.1;have l:=hd.2.1;by_cases h : i≤k
  · obtain ⟨r,c,b⟩:=g d[k]! d[a]! (hd.2.2 _ q0) (hd.2.2 _ f);have t : decide ((i : Int)≤(k : Int)) = true:=Qf q0;have w : w64 ((k : Int) - 1) = ((k - 1 : Nat) : Int):=by rw [Qb q0];omega
    simp only [Jg,t,Q2,gx (d:=d) (k:=k) q0,gx (d:=d) (k:=a) q0,qk,c,b,w];simp only [Qf h,Bool.true_and,Bool.cond_eq_ite]
  · have t : decide ((i : Int)≤(k : Int)) = false:=Qj q0;simp only [Jg,t,Q3,qk];simp [h]
theorem qwa (b : Kw q lt P) {n : Nat} {d : Array T} (hd : AllP n P d) {a j : Nat} (g : a < n) (m : j < n) (x : Int) (k : Nat) (o : k≤1000002) :
    q18 (x,(j : Int),d.toList) (a : Int) q (k : Int) = if (decide (k≤j) && (fun x=>!lt d[a]! x) d[k]!) = true then some (.inl ((k + 1 : Nat) : Int)) else some (.inr (k : Int)):=by
  have l:=hd.1;by_cases h : k≤j
  · obtain ⟨r,f,c⟩:=b d[a]! d[k]! (hd.2.2 _ g) (hd.2.2 _ q0);have t : decide ((k : Int)≤(j : Int)) = true:=Qf q0;simp only [q18,t,Q2,gx (d:=d) (k:=k) q0,gx (d:=d) (k:=a) q0,qk,f,c,w1p k q0];simp only [Qf h,Bool.true_and,Bool.cond_eq_ite]
  · have t : decide ((k : Int)≤(j : Int)) = false:=Qj q0;simp only [q18,t,Q3,qk];simp [h]
theorem qwb (g : Kw q lt P) {n : Nat} {d : Array T} (hd : AllP n P d) {a i : Nat} (f : a < n) (hi : 1≤i) (x y : Int) (k : Nat) (m : k < n) :
    q19 (i : Int) (x,y,d.toList) (a : Int) q (k : Int) = if (decide (i≤k) && (fun x=>lt d[a]! x) d[k]!) = true then some (.inl ((k - 1 : Nat) : Int)) else some (.inr (k : Int)):=by
  have j:=hd.1;have l:=hd.2.1;by_cases h : i≤k
  · obtain ⟨r,c,b⟩:=g d[a]! d[k]! (hd.2.2 _ f) (hd.2.2 _ q0);have t : decide ((i : Int)≤(k : Int)) = true:=Qf q0;have w : w64 ((k : Int) - 1) = ((k - 1 : Nat) : Int):=by rw [Qb q0];omega
    simp only [q19,t,Q2,gx (d:=d) (k:=k) q0,gx (d:=d) (k:=a) q0,qk,c,b,w];simp only [Qf h,Bool.true_and,Bool.cond_eq_ite]
  · have t : decide ((i : Int)≤(k : Int)) = false:=Qj q0;simp only [q19,t,Q3,qk];simp [h]
theorem qw3 (u : Kw q lt P) (a n : Nat) (r : a < n) : ∀ (m i j : Nat) (d : Array T),j + 1 - i = m→AllP n P d→1≤i→i≤n + 1→j < n→
    loop (q1y (a : Int) q) ((i : Int),(j : Int),d.toList) = some (((Sort.partLoop lt a i j d).1 : Int),(Sort.partLoop lt a i j d).2.toList)∧AllP n P (Sort.partLoop lt a i j d).2∧(Sort.partLoop lt a i j d).1 < n:=by
  intro m
  induction m using Nat.strongRecOn with
  | _ m ih=>
    intro i j d hm hd hi y s;have aa:=hd.1;have hn:=hd.2.1;rw [Sort.partLoop_eq];have o:=qh2 (f:=Jf ((i : Int),(j : Int),d.toList) (a : Int) q) (fun x=>lt x d[a]!) d j (fun k p=>qmg u hd r s _ k p) q0 _ i rfl q0;have g1:=Sort.scanUp_ge (fun x=>lt x d[a]!) d j i;have z:=(Sort.scanUp_spec (fun x=>lt x d[a]!) d j _ i rfl).2.1;generalize Sort.scanUp (fun x=>lt x d[a]!) d j i = c at o g1 z ⊢;have l:=qd3 (f:=Jg (c : Int) ((i : Int),(j : Int),d.toList) (a : Int) q) (fun x=>!lt x d[a]!) d c n q0 (fun k p=>qmh u hd r q0 _ _ k p) j s;have g2:=Sort.scanDown_le (fun x=>!lt x d[a]!) d c j;generalize Sort.scanDown (fun x=>!lt x d[a]!) d c j = g at l g2 ⊢;by_cases v : c > g
    · rw [qr v];have t : decide ((c : Int) > (g : Int)) = true:=Qf q0;refine ⟨Kn ?_,hd,by show g < n;omega⟩;simp only [q1y,o,l,qk,t,Q2]
    · rw [qq v];have t : decide ((c : Int) > (g : Int)) = false:=Qj q0;have h:=ih ((g - 1) + 1 - (c + 1)) q0 (c + 1) (g - 1) _ rfl (hd.swp (a:=c) (b:=g) q0 q0) q0 q0 q0;refine ⟨?_,h.2⟩;rw [Y9 (a':=(((c + 1 : Nat) : Int),((g - 1 : Nat) : Int),(Sort.swp d c g).toList)) ?_]
      · exact h.1
      · have w : w64 ((g : Int) - 1) = ((g - 1 : Nat) : Int):=by rw [Qb q0];omega
        simp only [q1y,o,l,qk,t,Q3,gx (d:=d) (k:=c) q0,gx (d:=d) (k:=g) q0,gxs (d:=d) (k:=g) q0,Int.toNat_natCast,gswp,w,w1p c q0]
theorem qw2 (s : Kw q lt P) (a n : Nat) (p : a < n) : ∀ (m i j : Nat) (d : Array T),j + 1 - i = m→AllP n P d→1≤i→i≤n + 1→j < n→
    loop (q1x (a : Int) q) ((i : Int),(j : Int),d.toList) = some (((Sort.partEqLoop lt a i j d).1 : Int),(Sort.partEqLoop lt a i j d).2.toList):=by
  intro m
  induction m using Nat.strongRecOn with
  | _ m ih=>
    intro i j d hm hd hi v r;have z:=hd.1;have hn:=hd.2.1;rw [Sort.partEqLoop_eq];have l:=qh2 (f:=q18 ((i : Int),(j : Int),d.toList) (a : Int) q) (fun x=>!lt d[a]! x) d j (fun k o=>qwa s hd p r _ k o) q0 _ i rfl q0;have g1:=Sort.scanUp_ge (fun x=>!lt d[a]! x) d j i;have y:=(Sort.scanUp_spec (fun x=>!lt d[a]! x) d j _ i rfl).2.1;generalize Sort.scanUp (fun x=>!lt d[a]! x) d j i = c at l g1 y ⊢;have h:=qd3 (f:=q19 (c : Int) ((i : Int),(j : Int),d.toList) (a : Int) q) (fun x=>lt d[a]! x) d c n q0 (fun k o=>qwb s hd p q0 _ _ k o) j r;have g2:=Sort.scanDown_le (fun x=>lt d[a]! x) d c j;generalize Sort.scanDown (fun x=>lt d[a]! x) d c j = g at h g2 ⊢;by_cases u : c > g
    · rw [qr u];have t : decide ((c : Int) > (g : Int)) = true:=Qf q0;refine Kn ?_;simp only [q1x,l,h,qk,t,Q2]
    · rw [qq u];have t : decide ((c : Int) > (g : Int)) = false:=Qj q0;rw [Y9 (a':=(((c + 1 : Nat) : Int),((g - 1 : Nat) : Int),(Sort.swp d c g).toList)) ?_]
      · exact ih ((g - 1) + 1 - (c + 1)) q0 (c + 1) (g - 1) _ rfl (hd.swp (a:=c) (b:=g) q0 q0) q0 q0 q0
      · have w : w64 ((g : Int) - 1) = ((g - 1 : Nat) : Int):=by rw [Qb q0];omega
        simp only [q1x,l,h,qk,t,Q3,gx (d:=d) (k:=c) q0,gx (d:=d) (k:=g) q0,gxs (d:=d) (k:=g) q0,Int.toNat_natCast,gswp,w,w1p c q0]
theorem qw5 (f : Kw q lt P) {a b n p : Nat} (hb : b≤n) (g : a < b) (hp : p < n) {d : Array T} (hd : AllP n P d) :
    q1w q d.toList (a : Int) (b : Int) (p : Int) = some (((Sort.partitionEqual lt d a b p).1 : Int),(Sort.partitionEqual lt d a b p).2.toList):=by
  have c:=hd.1;have h:=hd.2.1;have w : w64 ((b : Int) - 1) = ((b - 1 : Nat) : Int):=by rw [Qb q0];omega
  have s:=qw2 f a n q0 _ (a + 1) (b - 1) _ rfl (hd.swp (a:=a) (b:=p) q0 hp) q0 q0 q0;unfold q1w Sort.partitionEqual;simp only [gx (d:=d) (k:=p) q0,gx (d:=d) (k:=a) q0,gxs (d:=d) (k:=p) q0,qk,Int.toNat_natCast,gswp,w,w1p a q0,s]
theorem qw6 (j : Kw q lt P) {a b n p : Nat} (hb : b≤n) (v : a < b) (hp : p < n) {d : Array T} (hd : AllP n P d) :
    q1v q d.toList (a : Int) (b : Int) (p : Int) = some (((Sort.partition lt d a b p).1 : Int),(Sort.partition lt d a b p).2.1,(Sort.partition lt d a b p).2.2.toList):=by
  have z:=hd.1;have hn:=hd.2.1;have w : w64 ((b : Int) - 1) = ((b - 1 : Nat) : Int):=by rw [Qb q0];omega
  have h:=hd.swp (a:=a) (b:=p) q0 hp
  have e1 : q30 (b : Int) d.toList (a : Int) d[p]! (p : Int) d[a]! q = Jf ((0 : Int),((b - 1 : Nat) : Int),(Sort.swp d a p).toList) (a : Int) q:=by
    funext k;simp only [q30,Jf,w,Int.toNat_natCast,gswp]
  have e2 : ∀ c : Int,q31 c d.toList (a : Int) d[p]! (p : Int) d[a]! q = Jg c ((0 : Int),(0 : Int),(Sort.swp d a p).toList) (a : Int) q:=by
    intro c;funext k;simp only [q31,Jg,Int.toNat_natCast,gswp]
  unfold q1v Sort.partition;simp only [gx (d:=d) (k:=p) q0,gx (d:=d) (k:=a) q0,gxs (d:=d) (k:=p) q0,qk,e1,e2,Int.toNat_natCast,gswp,w,w1p a q0];generalize Sort.swp d a p = D at h ⊢;have y:=h.1;have o:=qh2 (f:=Jf ((0 : Int),((b - 1 : Nat) : Int),D.toList) (a : Int) q) (fun x=>lt x D[a]!) D (b - 1) (fun k l=>qmg j h q0 q0 _ k l) q0 _ (a + 1) rfl q0;have g1:=Sort.scanUp_ge (fun x=>lt x D[a]!) D (b - 1) (a + 1);generalize Sort.scanUp (fun x=>lt x D[a]!) D (b - 1) (a + 1) = c at o g1 ⊢;have m:=qd3 (f:=Jg (c : Int) ((0 : Int),(0 : Int),D.toList) (a : Int) q) (fun x=>!lt x D[a]!) D c n q0 (fun k l=>qmh j h q0 q0 _ _ k l) (b - 1) q0;have g2:=Sort.scanDown_le (fun x=>!lt x D[a]!) D c (b - 1);generalize Sort.scanDown (fun x=>!lt x D[a]!) D c (b - 1) = g at m g2 ⊢;simp only [o,m,qk];by_cases s : c > g
  · have t : decide ((c : Int) > (g : Int)) = true:=Qf q0;simp only [qr s,t,Q2,gx (d:=D) (k:=a) q0,gx (d:=D) (k:=g) q0,gxs (d:=D) (k:=a) q0,qk,Int.toNat_natCast,gswp]
  · have t : decide ((c : Int) > (g : Int)) = false:=Qj q0;have w2 : w64 ((g : Int) - 1) = ((g - 1 : Nat) : Int):=by rw [Qb q0];omega
    obtain ⟨s3,r,u⟩:=qw3 j a n q0 _ (c + 1) (g - 1) _ rfl (h.swp (a:=c) (b:=g) q0 q0) q0 q0 q0;simp only [qq s,t,Q3,gx (d:=D) (k:=c) q0,gx (d:=D) (k:=g) q0,gxs (d:=D) (k:=g) q0,qk,Int.toNat_natCast,gswp,w2,w1p c q0,s3];generalize Sort.partLoop lt a (c + 1) (g - 1) (Sort.swp D c g) = R at r u ⊢;have aa:=r.1;simp only [gx (d:=R.2) (k:=a) q0,gx (d:=R.2) (k:=R.1) q0,gxs (d:=R.2) (k:=a) q0,qk,Int.toNat_natCast,gswp]
theorem qy1 (l : Kw q lt P) {b n : Nat} (hb : b≤n) {d : Array T} (hd : AllP n P d) (x y : Int) : ∀ (m i : Nat),b - i = m→1≤i→i≤b→
    loop (q15 (b : Int) (x,y,d.toList) q) (i : Int) = some ((Sort.scanSorted lt d b i : Nat) : Int)∧i≤Sort.scanSorted lt d b i∧Sort.scanSorted lt d b i≤b:=by
  have o:=hd.1;have p:=hd.2.1;intro m
  induction m with
  | zero=>
    intro i j hi a;unfold Sort.scanSorted;rw [qq (by simp;omega)];have t : decide ((i : Int) < (b : Int)) = false:=Qj q0;exact ⟨Kn (by simp only [q15,t,Q3,qk]),Nat.le_refl _,a⟩
  | succ m ih=>
    intro i j hi a;unfold Sort.scanSorted;have t : decide ((i : Int) < (b : Int)) = true:=Qf q0;have w : w64 ((i : Int) - 1) = ((i - 1 : Nat) : Int):=by rw [Qb q0];omega
    obtain ⟨r,h,g⟩:=l d[i]! d[i - 1]! (hd.2.2 _ q0) (hd.2.2 _ q0);by_cases c : lt d[i]! d[i - 1]! = true
    · rw [qq (by simp [c])];refine ⟨Kn ?_,Nat.le_refl _,a⟩;simp only [q15,t,Q2,w,gx (d:=d) (k:=i) q0,gx (d:=d) (k:=i - 1) q0,qk,h,g,c,Bool.not_true,Q3]
    · have c : lt d[i]! d[i - 1]! = false:=by simpa using c
      rw [qr (by simp [c];omega)];have f:=ih (i + 1) q0 q0 q0;refine ⟨?_,q0,f.2.2⟩;rw [Y9 (a':=((i + 1 : Nat) : Int)) ?_]
      · exact f.1
      · simp only [q15,t,Q2,w,gx (d:=d) (k:=i) q0,gx (d:=d) (k:=i - 1) q0,qk,h,g,c,Bool.not_false,w1p i q0]
theorem qnl (l : Kw q lt P) (n : Nat) : ∀ (j : Nat) (d : Array T),AllP n P d→j < n→loop (q16 q) ((j : Int),d.toList) = some (Sort.shiftDown lt j d).toList∧AllP n P (Sort.shiftDown lt j d)
  | 0,d,hd,hj=>by
    have t : decide (((0 : Nat) : Int) ≥ 1) = false:=Qj q0
    exact ⟨Kn (by simp only [q16,t,Q3];rfl),hd⟩
  | j + 1,d,hd,hj=>by
    have m:=hd.1
    have o:=hd.2.1
    have t : decide (((j + 1 : Nat) : Int) ≥ 1) = true:=Qf q0
    obtain ⟨r,g,f⟩:=l d[j + 1]! d[j]! (hd.2.2 _ hj) (hd.2.2 _ q0)
    unfold Sort.shiftDown
    by_cases c : lt d[j + 1]! d[j]! = true
    · rw [qq (by simp [c])]
      have h:=qnl l n j _ (hd.swp (a:=j + 1) (b:=j) hj q0) q0
      refine ⟨?_,h.2⟩
      rw [Y9 (a':=((j : Int),(Sort.swp d (j + 1) j).toList)) ?_]
      · exact h.1
      · simp only [q16,t,Q2,gx (d:=d) (k:=j + 1) q0,w1m j q0,gx (d:=d) (k:=j) q0,gxs (d:=d) (k:=j) q0,qk,g,f,c,Bool.not_true,Q3,Int.toNat_natCast,gswp]
    · have c : lt d[j + 1]! d[j]! = false:=by simpa using c
      rw [qr (by simp [c])]
      refine ⟨Kn ?_,hd⟩
      simp only [q16,t,Q2,gx (d:=d) (k:=j + 1) q0,w1m j q0,gx (d:=d) (k:=j) q0,qk,g,f,c,Bool.not_false]
theorem qnn (p : Kw q lt P) {b n : Nat} (hb : b≤n) (c : Int) : ∀ (m j : Nat) (d : Array T),b - j = m→AllP n P d→1≤j→loop (q17 (b : Int) q c) ((j : Int),d.toList) = some (c,(Sort.shiftUp lt b j d).toList)∧AllP n P (Sort.shiftUp lt b j d):=by
  intro m
  induction m with
  | zero=>
    intro j d o hd s;unfold Sort.shiftUp;rw [qq q0];have t : decide ((j : Int) < (b : Int)) = false:=Qj q0;exact ⟨Kn (by simp only [q17,t,Q3]),hd⟩
  | succ m ih=>
    intro j d o hd s;have u:=hd.1;have v:=hd.2.1;unfold Sort.shiftUp;rw [qr q0];have t : decide ((j : Int) < (b : Int)) = true:=Qf q0;have w : w64 ((j : Int) - 1) = ((j - 1 : Nat) : Int):=by rw [Qb q0];omega
    obtain ⟨r,l,h⟩:=p d[j]! d[j - 1]! (hd.2.2 _ q0) (hd.2.2 _ q0);by_cases f : lt d[j]! d[j - 1]! = true
    · rw [qq (by simp [f])];have g:=ih (j + 1) _ q0 (hd.swp (a:=j) (b:=j - 1) q0 q0) q0;refine ⟨?_,g.2⟩;rw [Y9 (a':=(((j + 1 : Nat) : Int),(Sort.swp d j (j - 1)).toList)) ?_]
      · exact g.1
      · simp only [q17,t,Q2,w,gx (d:=d) (k:=j) q0,gx (d:=d) (k:=j - 1) q0,gxs (d:=d) (k:=j - 1) q0,qk,l,h,f,Bool.not_true,Q3,Int.toNat_natCast,gswp,w1p j q0]
    · have f : lt d[j]! d[j - 1]! = false:=by simpa using f
      rw [qr (by simp [f])];refine ⟨Kn ?_,hd⟩;simp only [q17,t,Q2,w,gx (d:=d) (k:=j) q0,gx (d:=d) (k:=j - 1) q0,qk,l,h,f,Bool.not_false]
theorem qmj (o : Kw q lt P) {a b n : Nat} (hb : b≤n) : ∀ (s i : Nat) (d : Array T),s≤5→AllP n P d→a < i→i≤b→
    ∃ m,loop (J7 (b : Int) q (a : Int)) ((i : Int),((5 - s : Nat) : Int),d.toList) = some m∧(match m with | .inl b441=>some (false,b441) | .inr x1=>some x1) = some ((Sort.partialIns lt a b s i d).2,(Sort.partialIns lt a b s i d).1.toList)
  | 0,i,d,hs,hd,hi,hib=>by
    have t : decide (((5 - 0 : Nat) : Int) < 5) = false:=Qj q0
    refine ⟨.inl d.toList,Kn (by simp only [J7,t,Q3]),rfl⟩
  | s + 1,i,d,hs,hd,hi,hib=>by
    have ae:=hd.1
    have hn:=hd.2.1
    have t : decide (((5 - (s + 1) : Nat) : Int) < 5) = true:=Qf q0
    rw [Sort.partialIns_succ]
    obtain ⟨p,l1,z⟩:=qy1 o hb hd (i : Int) ((5 - (s + 1) : Nat) : Int) _ i rfl q0 hib
    generalize Sort.scanSorted lt d b i = k at p l1 z ⊢
    by_cases hk : k = b
    · subst hk
      rw [qr rfl]
      refine ⟨.inr (true,d.toList),Kn ?_,rfl⟩
      simp only [J7,t,Q2,p,qk,beq_self_eq_true]
    · rw [qq hk]
      have tk : ((k : Int) == (b : Int)) = false:=by simp;omega
      have e0 : w64 ((b : Int) - (a : Int)) = ((b - a : Nat) : Int):=wsub q0 q0
      by_cases l : b - a < 50
      · rw [qr l]
        have f : decide (((b - a : Nat) : Int) < 50) = true:=Qf q0
        refine ⟨.inr (false,d.toList),Kn ?_,rfl⟩
        simp only [J7,t,Q2,p,qk,tk,Q3,e0,f]
      · rw [qq l]
        have f : decide (((b - a : Nat) : Int) < 50) = false:=Qj q0
        have wk : w64 ((k : Int) - 1) = ((k - 1 : Nat) : Int):=by rw [Qb q0];omega
        have wa : w64 ((k : Int) - (a : Int)) = ((k - a : Nat) : Int):=wsub q0 q0
        have wb : w64 ((b : Int) - (k : Int)) = ((b - k : Nat) : Int):=wsub q0 q0
        have h:=hd.swp (a:=k) (b:=k - 1) q0 q0
        have down : (cond (decide (((k - a : Nat) : Int) ≥ 2)) ((loop (q16 q) (((k - 1 : Nat) : Int),(Sort.swp d k (k - 1)).toList)).bind fun x0=>some x0) (some (Sort.swp d k (k - 1)).toList)) = some (Sort.fixDown lt a k (Sort.swp d k (k - 1))).toList∧AllP n P (Sort.fixDown lt a k (Sort.swp d k (k - 1))):=by
          unfold Sort.fixDown;by_cases j : k - a ≥ 2
          · have g : decide (((k - a : Nat) : Int) ≥ 2) = true:=Qf q0;obtain ⟨x,y⟩:=qnl o n (k - 1) _ h q0;rw [qr j,g,Q2,x];exact ⟨rfl,y⟩
          · have g : decide (((k - a : Nat) : Int) ≥ 2) = false:=Qj q0;rw [qq j,g,Q3];exact ⟨rfl,h⟩
        obtain ⟨dn,c⟩:=down
        have r : AllP n P (Sort.fixUp lt b k (Sort.fixDown lt a k (Sort.swp d k (k - 1)))):=by
          unfold Sort.fixUp;split
          · exact (qnn o hb 0 _ (k + 1) _ rfl c q0).2
          · exact c
        obtain ⟨m,v,u⟩:=qmj (a:=a) o hb s k _ q0 r q0 z
        refine ⟨m,?_,u⟩
        rw [Y9 (a':=((k : Int),((5 - s : Nat) : Int),(Sort.fixUp lt b k (Sort.fixDown lt a k (Sort.swp d k (k - 1)))).toList)) ?_]
        · exact v
        · have w : w64 (((5 - (s + 1) : Nat) : Int) + 1) = ((5 - s : Nat) : Int):=by rw [Qb q0];omega
          simp only [J7,t,Q2,p,qk,tk,Q3,e0,f,wk,gx (d:=d) (k:=k) q0,gx (d:=d) (k:=k - 1) q0,gxs (d:=d) (k:=k - 1) q0,Int.toNat_natCast,gswp,wa,dn,wb,w1p k q0]
          unfold Sort.fixUp
          by_cases j : b - k ≥ 2
          · have g : decide (((b - k : Nat) : Int) ≥ 2) = true:=Qf q0
            obtain ⟨x,y⟩:=qnn o hb (k : Int) _ (k + 1) _ rfl c q0
            rw [qr j,g,Q2,x]
            simp only [qk,w]
          · have g : decide (((b - k : Nat) : Int) ≥ 2) = false:=Qj q0
            rw [qq j,g,Q3]
            simp only [qk,w]
theorem qw4 (f : Kw q lt P) {a b n : Nat} (hb : b≤n) (h : a < b) {d : Array T} (hd : AllP n P d) :
    Um q d.toList (a : Int) (b : Int) = some ((Sort.partialInsertionSort lt d a b).2,(Sort.partialInsertionSort lt d a b).1.toList):=by
  have j:=hd.2.1;obtain ⟨m,c,g⟩:=qmj (a:=a) f hb 5 (a + 1) d q0 hd q0 q0;have c : loop (J7 (b : Int) q (a : Int)) (((a + 1 : Nat) : Int),0,d.toList) = some m:=c;unfold Um Sort.partialInsertionSort;rw [w1p a q0,c];exact g
end
end Go.Sh
namespace Go.Sh
open Go Go.Am
theorem qlf {α β : Type} {f : α→Option (α ⊕ β)} {a : α} (h : f a = none) : loop f a = none:=by
  apply Option.ext;intro b;rw [q9d];constructor
  · rintro ⟨n,c⟩
    cases n with
    | zero=>simp [iter] at c
    | succ n=>simp [iter,h] at c
  · intro h;cases h
section
variable {T : Type} [Inhabited T] {P : T→Prop} {lt : T→T→Bool} {q : T→T→Option Int}
def Srt (lt : T→T→Bool) (a b : Nat) (d : Array T) (o : Option (List T)) : Prop:=∃ d' : Array T,o = some d'.toList∧Sort.PermIn a b d d'∧Sort.SortedIn lt a b d'
theorem qw9 (hq : Kw q lt P) (hS : Sort.SWO lt) {n N : Nat} (ae : List T→Int→Int→Int→Option (List T))
    (ao : ∀ (a b f : Nat) (d : Array T),AllP n P d→a≤b→b≤n→f≤1000→Sort.Below lt a b d→Srt lt a b d (ae d.toList (a : Int) (b : Int) (f : Int))∨(N≤b - a∧ae d.toList (a : Int) (b : Int) (f : Int) = none)) :
    ∀ (m a b f : Nat) (wb wp : Bool) (d : Array T),b - a = m→AllP n P d→a≤b→b≤n→f≤1000→Sort.Below lt a b d→
      Srt lt a b d (loop (Zt q ae) ((a : Int),(b : Int),(f : Int),wb,wp,d.toList))∨(N + 1≤b - a∧loop (Zt q ae) ((a : Int),(b : Int),(f : Int),wb,wp,d.toList) = none):=by
  intro m
  induction m using Nat.strongRecOn with
  | _ m ih=>
    intro a b f wb wp d hm hd o hb hl hB;have dh:=hd.1;have hn:=hd.2.1;have e0 : w64 ((b : Int) - (a : Int)) = ((b - a : Nat) : Int):=wsub o q0;by_cases df : b - a≤12
    ·
      have t : decide (((b - a : Nat) : Int)≤12) = true:=Qf q0;obtain ⟨x,y⟩:=Sort.insertionSort_holds (lt:=lt) hS d a b o q0;have s:=qtj hq hb o hd;refine .inl ⟨_,Kn ?_,x,y⟩;simp only [Zt,e0,t,Q2,s,qk,Up hd (hd.perm o hb x)]
    have bn : decide (((b - a : Nat) : Int)≤12) = false:=Qj q0;by_cases h0 : f = 0
    ·
      have t : ((f : Int) == 0) = true:=by simp [h0]
      obtain ⟨x,y⟩:=Sort.heapSort_holds (lt:=lt) hS d a b o q0;have s:=qtc hq hb (by omega : a < b) hd;refine .inl ⟨_,Kn ?_,x,y⟩;simp only [Zt,e0,bn,Q3,t,Q2,s,qk,Up hd (hd.perm o hb x)]
    have t0 : ((f : Int) == 0) = false:=by simp [h0]
    have hA : ∃ (l1 : Nat) (d1 : Array T),(cond (!wb) ((q1r q d.toList (a : Int) (b : Int)).bind fun az=>(K1 az.length d.toList.length).bind fun cv=>some (w64 ((f : Int) - 1),az)) (some ((f : Int),d.toList))) = some ((l1 : Int),d1.toList)∧l1≤1000∧AllP n P d1∧Sort.PermIn a b d d1:=by
      cases wb with
      | true=>exact ⟨f,d,rfl,hl,hd,Sort.permIn_refl _ _ _⟩
      | false=>
        have x:=Sort.breakPatterns_holds d a b o q0;have z:=hd.perm o hb x;have w : w64 ((f : Int) - 1) = ((f - 1 : Nat) : Int):=by rw [Qb q0];omega
        refine ⟨f - 1,_,?_,q0,z,x⟩;simp only [Bool.not_false,Q2,qq8 (q:=q) hb (by omega : a < b) hd,qk,Up hd z,w]
    obtain ⟨l1,d1,eA,al,z,p1⟩:=hA;have hC:=qrc hq z (by omega : a < b) hb;obtain ⟨c1,c2⟩:=Sort.choosePivot_holds lt d1 a b q0;generalize (Sort.choosePivot lt d1 a b).1 = c at hC c1 c2;generalize qfp (Sort.choosePivot lt d1 a b).2 = h at hC
    have hR : ∃ (p : Nat) (h2 : Int) (d2 : Array T),(cond (h == 2) ((q1z q d1.toList (a : Int) (b : Int)).bind fun ba=>(K1 ba.length d1.toList.length).bind fun cr=>some (w64 ((w64 ((b : Int) - 1)) - (w64 ((c : Int) - (a : Int)))),(1 : Int),ba)) (some ((c : Int),h,d1.toList))) = some ((p : Int),h2,d2.toList)∧a≤p∧p < b∧AllP n P d2∧Sort.PermIn a b d1 d2:=by
      cases hh : (h == 2) with
      | false=>exact ⟨c,h,d1,rfl,c1,c2,z,Sort.permIn_refl _ _ _⟩
      | true=>
        have x:=Sort.reverseRange_holds d1 a b o (by rw [z.1];exact hb);have ac:=z.perm o hb x;have w1 : w64 ((b : Int) - 1) = ((b - 1 : Nat) : Int):=by rw [Qb q0];omega
        have w2 : w64 ((c : Int) - (a : Int)) = ((c - a : Nat) : Int):=wsub c1 q0;have w3 : w64 (((b - 1 : Nat) : Int) - ((c - a : Nat) : Int)) = ((b - 1 - (c - a) : Nat) : Int):=wsub q0 q0;refine ⟨b - 1 - (c - a),1,_,?_,q0,q0,ac,x⟩;simp only [Q2,qxw (q:=q) hb (by omega : a < b) z,qk,Up z ac,w1,w2,w3]
    obtain ⟨p,h2,d2,eR,hp1,hp2,ac,p2⟩:=hR;have bl : Sort.Below lt a b d2:=(hB.perm q0 p1).perm (by rw [z.1];exact hb) p2;have bo:=Sort.permIn_trans _ _ _ a b p1 p2
    have hP : ∀ cc : Bool,∃ ab : (List T) ⊕ (List T),(cond cc ((Um q d2.toList (a : Int) (b : Int)).bind fun ag=>(K1 ag.2.length d2.toList.length).bind fun cu=>cond ag.1 (some (.inr ag.2)) (some (.inl ag.2))) (some (.inl d2.toList)) : Option ((List T) ⊕ (List T))) = some ab∧
        ((∃ l : Array T,ab = .inr l.toList∧Sort.PermIn a b d2 l∧Sort.SortedIn lt a b l)∨(∃ l : Array T,ab = .inl l.toList∧AllP n P l∧Sort.PermIn a b d2 l)):=by
      intro cc
      cases cc with
      | false=>exact ⟨_,rfl,.inr ⟨d2,rfl,ac,Sort.permIn_refl _ _ _⟩⟩
      | true=>
        obtain ⟨x,y⟩:=Sort.partialInsertionSort_holds (lt:=lt) hS d2 a b q0 (by rw [ac.1];exact hb) bl;have u:=ac.perm o hb x;have s:=qw4 hq hb (by omega : a < b) ac;simp only [Q2,s,qk,Up ac u]
        cases hz : (Sort.partialInsertionSort lt d2 a b).2 with
        | true=>exact ⟨_,rfl,.inl ⟨_,rfl,x,y hz⟩⟩
        | false=>exact ⟨_,rfl,.inr ⟨_,rfl,u,x⟩⟩
    obtain ⟨ab,eP,bs⟩:=hP (wb && wp && (h2 == 1))
    have co : ∀ {γ : Type} (X : Bool→Option γ),((cond wb (some wp) (some false)).bind fun br=>(cond br (some (h2 == 1)) (some false)).bind X) = X (wb && wp && (h2 == 1)):=by
      intro γ X;cases wb <;> cases wp <;> rfl
    have head : Zt q ae ((a : Int),(b : Int),(f : Int),wb,wp,d.toList) = (match (generalizing:=false) ab with | .inl b377=>(cond (decide ((a : Int) > 0)) ((idx b377 (w64 ((a : Int) - 1))).bind fun an=>(idx b377 (p : Int)).bind fun au=>(q an au).bind fun av=>some (!(decide (av < 0)))) (some false)).bind fun bv=>cond bv ((q1w q b377 (a : Int) (b : Int) (p : Int)).bind fun aq=>(K1 aq.2.length b377.length).bind fun cz=>some (.inl (aq.1,(b : Int),(l1 : Int),wb,wp,aq.2))) ((q1v q b377 (a : Int) (b : Int) (p : Int)).bind fun g=>(K1 g.2.2.length b377.length).bind fun cx=>cond (decide ((w64 (g.1 - (a : Int))) < (w64 ((b : Int) - g.1)))) ((ae g.2.2 (a : Int) g.1 (l1 : Int)).bind fun bc=>(K1 bc.length g.2.2.length).bind fun ct=>some (.inl (w64 (g.1 + 1),(b : Int),(l1 : Int),decide ((w64 (g.1 - (a : Int))) ≥ (w64 (Int.tdiv ((b - a : Nat) : Int) 8))),g.2.1,bc))) ((ae g.2.2 (w64 (g.1 + 1)) (b : Int) (l1 : Int)).bind fun be=>(K1 be.length g.2.2.length).bind fun cs=>some (.inl ((a : Int),g.1,(l1 : Int),decide ((w64 ((b : Int) - g.1)) ≥ (w64 (Int.tdiv ((b - a : Nat) : Int) 8))),g.2.1,be)))) | .inr x1=>some (.inr x1)):=by
      simp only [Zt,e0,bn,Q3,t0,eA,qk,hC,eR,co,eP]
      clear eP bs hP ao ih
      cases ab <;> rfl
    rcases bs with ⟨l,rfl,x,y⟩ | ⟨l,rfl,u,p3⟩
    · refine .inl ⟨l,Kn ?_,Sort.permIn_trans _ _ _ a b bo x,y⟩;rw [head]
    have ay:=u.1;have P3:=Sort.permIn_trans _ _ _ a b bo p3;have B3 : Sort.Below lt a b l:=bl.perm (by rw [ac.1];exact hb) p3
    have bj : (cond (decide ((a : Int) > 0)) ((idx l.toList (w64 ((a : Int) - 1))).bind fun an=>(idx l.toList (p : Int)).bind fun au=>(q an au).bind fun av=>some (!(decide (av < 0)))) (some false)) = some (decide (a > 0) && !lt l[a - 1]! l[p]!):=by
      by_cases ha : a > 0
      · have ta : decide ((a : Int) > 0) = true:=Qf q0;have w : w64 ((a : Int) - 1) = ((a - 1 : Nat) : Int):=by rw [Qb q0];omega
        obtain ⟨r,h1,h2⟩:=hq l[a - 1]! l[p]! (u.2.2 _ q0) (u.2.2 _ q0);simp only [ta,Q2,w,gx (d:=l) (k:=a - 1) q0,gx (d:=l) (k:=p) q0,qk,h1,h2,Qf ha,Bool.true_and]
      · have ta : decide ((a : Int) > 0) = false:=Qj q0;simp only [ta,Q3,Qj ha,Bool.false_and]
    simp only [bj,qk] at head;by_cases hc : (decide (a > 0) && !lt l[a - 1]! l[p]!) = true
    ·
      rw [hc] at head;have s:=qw5 hq hb (by omega : a < b) (by omega : p < n) u;simp only [Bool.and_eq_true,decide_eq_true_eq,Bool.not_eq_true'] at hc
      cases hx : Sort.partitionEqual lt l a b p with
      | mk j d4=>
        obtain ⟨g1,g2,ci,cf,ad⟩:=Sort.round_eq hS (Sort.partitionEqual_holds lt) hc.1 hp1 hp2 (by rw [ay];exact hb) B3 hc.2 hx
        have cl : ∀ i,a≤i→i < b→lt l[i]! l[p]! = false:=fun i hi cg=>by
          rcases B3 with h0 | hB
          · omega
          · exact hS.ntrans _ _ _ (hB i hi cg) hc.2
        obtain ⟨_,_,v,_,_⟩:=Sort.partitionEqual_holds lt hS l a b p hp1 hp2 (by rw [ay];exact hb) cl;rw [hx] at v s;have aa:=u.perm o hb v;simp only [Q2,s,qk,Up u aa] at head;rw [Y9 head];rcases ih (b - j) q0 j b l1 wb wp d4 rfl aa g2 hb al cf with ⟨R,r0,r1,r2⟩ | ⟨r1,r2⟩
        · obtain ⟨q1,q2⟩:=ad _ r1 r2;exact .inl ⟨R,r0,Sort.permIn_trans _ _ _ a b P3 q1,q2⟩
        · exact .inr ⟨q0,r2⟩
    ·
      have hc : (decide (a > 0) && !lt l[a - 1]! l[p]!) = false:=by simpa using hc
      rw [hc] at head;have s:=qw6 hq hb (by omega : a < b) (by omega : p < n) u
      cases hx : Sort.partition lt l a b p with
      | mk j r=>
      cases r with
      | mk ap d4=>
        obtain ⟨g1,g2,ci,cm,ch,bg,ax⟩:=Sort.round_part hS (Sort.partition_holds lt) hp1 hp2 (by rw [ay];exact hb) B3 hx;obtain ⟨_,_,v,_,_⟩:=Sort.partition_holds lt hS l a b p hp1 hp2 (by rw [ay];exact hb);rw [hx] at v s;have aa:=u.perm o hb v;have w1 : w64 ((j : Int) - (a : Int)) = ((j - a : Nat) : Int):=wsub g1 q0;have w2 : w64 ((b : Int) - (j : Int)) = ((b - j : Nat) : Int):=wsub q0 q0;simp only [Q3,s,qk,Up u aa,w1,w2,w1p j q0] at head;by_cases dl : j - a < b - j
        · have tl : decide (((j - a : Nat) : Int) < ((b - j : Nat) : Int)) = true:=Qf q0;simp only [tl,Q2] at head;rcases ao a j l1 d4 aa g1 q0 al cm with ⟨L,e,ar,bk⟩ | ⟨r1,r2⟩
          · have am:=aa.perm g1 q0 ar;obtain ⟨bi,ad⟩:=bg _ ar bk;simp only [e,qk,Up aa am] at head;rw [Y9 head];rcases ih (b - (j + 1)) q0 (j + 1) b l1 _ _ L rfl am q0 hb al bi with ⟨R,r0,r1,r2⟩ | ⟨r1,r2⟩
            · obtain ⟨q1,q2⟩:=ad _ r1 r2;exact .inl ⟨R,r0,Sort.permIn_trans _ _ _ a b P3 q1,q2⟩
            · exact .inr ⟨q0,r2⟩
          · simp only [r2,Option.bind_none] at head;exact .inr ⟨q0,qlf head⟩
        · have tl : decide (((j - a : Nat) : Int) < ((b - j : Nat) : Int)) = false:=Qj q0;simp only [tl,Q3] at head;rcases ao (j + 1) b l1 d4 aa q0 hb al ch with ⟨L,e,ar,bk⟩ | ⟨r1,r2⟩
          · have am:=aa.perm (by omega : j + 1≤b) hb ar;obtain ⟨bi,ad⟩:=ax _ ar bk;simp only [e,qk,Up aa am] at head;rw [Y9 head];rcases ih (j - a) q0 a j l1 _ _ L rfl am g1 q0 al bi with ⟨R,r0,r1,r2⟩ | ⟨r1,r2⟩
            · obtain ⟨q1,q2⟩:=ad _ r1 r2;exact .inl ⟨R,r0,Sort.permIn_trans _ _ _ a b P3 q1,q2⟩
            · exact .inr ⟨q0,r2⟩
          · simp only [r2,Option.bind_none] at head;exact .inr ⟨q0,qlf head⟩
theorem qmk (g : Kw q lt P) (f : Sort.SWO lt) {n : Nat} : ∀ (N a b c : Nat) (d : Array T),AllP n P d→a≤b→b≤n→c≤1000→Sort.Below lt a b d→
    Srt lt a b d (Zg N q d.toList (a : Int) (b : Int) (c : Int))∨(N≤b - a∧Zg N q d.toList (a : Int) (b : Int) (c : Int) = none)
  | 0,a,b,c,d,_,_,_,_,_=>.inr ⟨q0,rfl⟩
  | N + 1,a,b,c,d,hd,hab,hb,hl,hB=>by
    have h:=qw9 g f (N:=N) (Zg N q) (fun a b c d l k j m o=>qmk g f N a b c d l k j m o) _ a b c true true d rfl hd hab hb hl hB
    have e : Zg (N + 1) q d.toList (a : Int) (b : Int) (c : Int) = loop (Zt q (Zg N q)) ((a : Int),(b : Int),(c : Int),true,true,d.toList):=by
      show q1a (Zg N q) q d.toList (a : Int) (b : Int) (c : Int) = _;unfold q1a;cases loop (Zt q (Zg N q)) ((a : Int),(b : Int),(c : Int),true,true,d.toList) <;> rfl
    rw [e]
    exact h
theorem qoh (u : Kw q lt P) (s : Sort.SWO lt) (xs : List T) (o : xs.length≤1000000) (z : ∀ x∈xs,P x) :
    ∃ ys,q2v q xs = some ys∧ys.Perm xs∧ys.Pairwise (fun x y=>lt y x = false):=by
  have hd : AllP xs.length P xs.toArray:=by
    refine ⟨qd,o,fun i hi=>?_⟩;have : xs.toArray[i]! = xs[i]:=by simp [hi]
    rw [this];exact z _ (Ki hi)
  have hk : Sort.bitsLen xs.length≤20:=(Sort.bitsLen_le_iff _ 20).2 q0;have c : ∀ N,_:=fun N=>qmk u s N 0 xs.length (Sort.bitsLen xs.length) xs.toArray hd q0 q0 q0 (.inl rfl);have p:=c (xs.length + 1);rcases p with ⟨d',e,_,_⟩ | ⟨h,_⟩
  · obtain ⟨r,n⟩:=qtx (f:=fun N=>Zg N q xs 0 (xs.length : Int) ((Sort.bitsLen xs.length : Nat) : Int)) e;obtain ⟨N,g⟩:=qfw n;have g : Zg N q xs 0 (xs.length : Int) ((Sort.bitsLen xs.length : Nat) : Int) = some r:=g;rcases c N with ⟨a,b,x,y⟩ | ⟨_,b⟩
    · have b : Zg N q xs 0 (xs.length : Int) ((Sort.bitsLen xs.length : Nat) : Int) = some a.toList:=b;rw [g] at b;obtain rfl : r = a.toList:=qe3 b;have d : a.size = xs.length:=by rw [x.1];simp
      refine ⟨a.toList,?_,?_,?_⟩
      · unfold q2v;rw [q2o,show ((xs.length : Int) % 18446744073709551616) = (xs.length : Int) by omega,qld _ o];simp only [qk,n];unfold K1;rw [qr (by simp [d])];rfl
      · have:=x.2.2;have v : a.extract 0 xs.length = a:=by rw [← d];simp
        have w : xs.toArray.extract 0 xs.length = xs.toArray:=by simp
        rw [v,w] at this;exact this
      · rw [List.pairwise_iff_getElem];intro i j hi t m;have l : i < a.size:=by simpa using hi
        have k : j < a.size:=by simpa using t
        have:=y i j q0 m q0;rw [getElem!_pos a i l,getElem!_pos a j k] at this;simpa using this
    · have b : Zg N q xs 0 (xs.length : Int) ((Sort.bitsLen xs.length : Nat) : Int) = none:=b;rw [g] at b;cases b
  · omega
end
end Go.Sh
namespace Go.Sh
open Go Go.Am
theorem qz1 : qdq = q5y:=rfl
theorem qy2 : q37 = q40:=by
  funext p0;simp only [q37,q40,qz1]
  all_goals exact K0
theorem qnf : q1e = q1q:=by
  funext p0;simp only [q1e,q1q,qy2]
  all_goals exact K0
theorem qyc : qah = Uk:=by
  funext p1 q1 a459;simp only [qah,Uk]
  all_goals exact K0
theorem qyb : qag = q1u:=by
  funext p2 p1 q1 a278;simp only [qag,q1u,qyc]
  all_goals exact K0
theorem qya : qaf = q2y:=by
  funext q1 p0 p1 p2;simp only [qaf,q2y,qyb]
  all_goals exact K0
theorem qz0 : qaz = Un:=by
  funext p2 p3 q1 a197;simp only [qaz,Un]
  all_goals exact K0
theorem qnh : q81 = q1b:=by
  funext q1 p0 p1 p2 p3;simp only [q81,q1b,qz0]
  all_goals exact K0
theorem qy8 : qad = q1s:=by
  funext q1 p2 p1 a123;simp only [qad,q1s,qnh]
  all_goals exact K0
theorem qy9 : qae = q1t:=by
  funext p1 q1 a191;simp only [qae,q1t,qnh]
  all_goals exact K0
theorem qy7 : qac = q2x:=by
  funext q1 p0 p1 p2;simp only [qac,q2x,qy8,qy9]
  all_goals exact K0
theorem qye : q2c = q2z:=by
  funext p0;simp only [q2c,q2z,qnf]
  all_goals exact K0
theorem qz2 : q2d = q33:=by
  funext p0;simp only [q2d,q33]
  all_goals exact K0
theorem qy5 : qaa = q12:=by
  funext p1 p2 r101 a153;simp only [qaa,q12,qz2]
  all_goals exact K0
theorem qy4 : qa9 = q1r:=by
  funext q1 p0 p1 p2;simp only [qa9,q1r,qye,qy5]
  all_goals exact K0
theorem qyf : q4t = q14:=by
  funext q1 p0 p1 p2 p3;simp only [q4t,q14]
  all_goals exact K0
theorem qng : q7h = q13:=by
  funext q1 p0 p1 p2 p3 p4;simp only [q7h,q13,qyf]
  all_goals exact K0
theorem qyd : q4r = Ul:=by
  funext q1 p0 p1 p2;simp only [q4r,Ul,qng]
  all_goals exact K0
theorem qy6 : qab = q2w:=by
  funext p0 p1 p2 p3;simp only [qab,q2w,qng,qyd]
  all_goals exact K0
theorem qyz : qax = q32:=by
  funext a119;simp only [qax,q32]
  all_goals exact K0
theorem qyy : qaw = q1z:=by
  funext q1 p0 p1 p2;simp only [qaw,q1z,qyz]
  all_goals exact K0
theorem qyi : qai = q15:=by
  funext p2 a438 q1 a681;simp only [qai,q15]
  all_goals exact K0
theorem qyj : qaj = q16:=by
  funext q1 a838;simp only [qaj,q16]
  all_goals exact K0
theorem qyk : qak = q17:=by
  funext p2 q1 b684 a928;simp only [qak,q17]
  all_goals exact K0
theorem qyh : q7j = J7:=by
  funext p2 q1 p1 a438;have a : @q7j.match_1.{1} = @J7.match_1.{1} ql:=by funext motive m f g;cases m <;> rfl
  unfold q7j J7;rw [a];simp only [qyi,qyj,qyk]
theorem qyg : q7i = Um:=by
  funext q1 p0 p1 p2;have a : @q7i.match_1.{1} = @Um.match_1.{1} ql:=by funext motive m f g;cases m <;> rfl
  unfold q7i Um;rw [a];simp only [qyh]
theorem qyo : qau = q18:=by
  funext a318 p1 q1 a378;simp only [qau,q18]
  all_goals exact K0
theorem qyp : qav = q19:=by
  funext b381 a318 p1 q1 a463;simp only [qav,q19]
  all_goals exact K0
theorem qyn : qat = q1x:=by
  funext p1 q1 a318;simp only [qat,q1x,qyo,qyp]
  all_goals exact K0
theorem qym : qas = q1w:=by
  funext q1 p0 p1 p2 p3;simp only [qas,q1w,qyn]
  all_goals exact K0
theorem qyq : qan = q30:=by
  funext p2 p0 p1 v101 p3 v103 q1 a163;simp only [qan,q30]
  all_goals exact K0
theorem qyr : qao = q31:=by
  funext b166 p0 p1 v101 p3 v103 q1 a249;simp only [qao,q31]
  all_goals exact K0
theorem qyt : qaq = Jf:=by
  funext a514 p1 q1 a572;simp only [qaq,Jf]
  all_goals exact K0
theorem qyu : qar = Jg:=by
  funext b575 a514 p1 q1 a658;simp only [qar,Jg]
  all_goals exact K0
theorem qys : qap = q1y:=by
  funext p1 q1 a514;simp only [qap,q1y,qyt,qyu]
  all_goals exact K0
theorem qyl : qam = q1v:=by
  funext q1 p0 p1 p2 p3;simp only [qam,q1v,qyq,qyr,qys]
  all_goals exact K0
theorem qyw : q7x = Zt:=by
  funext q1 rec a309;have a : @q7x.match_1.{1} = @Zt.match_1.{1} ql:=by funext motive m f g;cases m <;> rfl
  unfold q7x Zt;rw [a];simp only [qya,qy7,qy4,qy6,qyy,qyg,qym,qyl]
theorem qyx : q7y = q1a:=by
  funext rec q1 p0 p1 p2 p3;simp only [q7y,q1a,qyw]
  all_goals exact K0
theorem qyv : ∀ N q,q7w N q = Zg N q:=by
  intro N q
  induction N with
  | zero=>rfl
  | succ N ih=>
    funext a b c d;show q7y (q7w N q) q a b c d = q1a (Zg N q) q a b c d;rw [ih,qyx]
theorem qy3 : q77 = q2v:=by
  funext q1 p0;simp only [q77,q2v,qnf,qyv]
  all_goals exact K0
end Go.Sh
namespace Go.Sh
open Go Go.Am
instance : Inhabited ql:=⟨⟨0,0,0⟩⟩
theorem q12j (q : ql→ql→Option Int) (xs : List ql) : q77 q xs = q2v q xs:=by rw [qy3]
def evs (s : List qj) (l : Int) : List ql:=s.flatMap fun t=>[{at_:=t.Lo,list_:=l,by_:=1},{at_:=t.Hi,list_:=l,by_:=-1}]
theorem q96 (s : List qj) (l : Int) : (evs s l).length = 2 * s.length:=by
  induction s with
  | nil=>rfl
  | cons t s ih=>simp only [evs,List.flatMap_cons,List.length_append,List.length_cons,List.length_nil] at ih ⊢;omega
theorem qcf {s : List qj} {l : Int} {e : ql} (h : e∈evs s l) : e.list_ = l∧(e.by_ = 1∨e.by_ = -1)∧∃ t∈s,e.at_ = t.Lo∨e.at_ = t.Hi:=by
  simp only [evs,List.mem_flatMap] at h;obtain ⟨t,a,h⟩:=h;simp only [List.mem_cons,List.not_mem_nil,or_false] at h;rcases h with rfl | rfl
  · exact ⟨rfl,.inl rfl,t,a,.inl rfl⟩
  · exact ⟨rfl,.inr rfl,t,a,.inr rfl⟩
theorem qjq (s : List qj) (l : Int) (y : List ql) (hs : s.length≤1000) (base : List ql) (hb : base.length≤10000) :
    loop (q5c s (l,y)) (0,base) = some (base ++ evs s l):=by
  have:=Zz (f:=q5c s (l,y)) (σ:=List ql) (fun k c=>((k : Int),c)) s.length (fun k c=>c = base ++ evs (s.take k) l) (fun t=>t = base ++ evs s l) ?_ ?_ (k0:=0) (c0:=base) q0 (by simp [evs])
  · obtain ⟨b,h,rfl⟩:=this;exact h
  · rintro k c g rfl;have a : decide ((k : Int) < (s.length : Int)) = true:=Qf q0;refine .inl ⟨base ++ evs (s.take (k + 1)) l,?_,rfl⟩;have d : (evs (s.take k) l).length≤2000:=by rw [q96,List.length_take];omega
    simp only [q5c,a,Q2,Qx g,qk];rw [Y4 (by rw [List.length_append];simp only [List.length_cons,List.length_nil];omega),qk,Qb q0,List.take_succ_eq_append_getElem g,List.append_assoc];have : evs (s.take k ++ [s[k]]) l = evs (s.take k) l ++ [{at_:=s[k].Lo,list_:=l,by_:=1},{at_:=s[k].Hi,list_:=l,by_:=-1}]:=by simp only [evs,List.flatMap_append,List.flatMap_cons,List.flatMap_nil,List.append_nil]
    rw [this];rfl
  · rintro c rfl;have a : decide ((s.length : Int) < (s.length : Int)) = false:=Qj q0;exact ⟨_,by simp only [q5c,a,Q3];rfl,by rw [List.take_length]⟩
def ltE (a b : ql) : Bool:=decide (a.at_ < b.at_)
def inE (e : ql) : Prop:=-1000000≤e.at_∧e.at_≤1000000
theorem swoE : Sort.SWO ltE where
  irrefl:=by intro x;simp [ltE]
  trans:=by intro x y z;simp only [ltE,decide_eq_true_eq];omega
  ntrans:=by intro x y z;simp only [ltE,decide_eq_false_iff_not];omega
theorem cmpE : Kw (fun b a=>qb4 b a) ltE inE:=by
  rintro x y ⟨g,d⟩ ⟨c,f⟩;refine ⟨x.at_ - y.at_,?_,?_⟩
  · show some (w64 (x.at_ - y.at_)) = _;rw [Qb q0]
  · unfold ltE;exact decide_eq_decide.2 q0
theorem q12i (p q : List qj) (hp : p.length≤500) (v : q.length≤500) (n : ∀ t∈p,vld t) (o : ∀ t∈q,vld t) :
    ∃ ys,qb5 [p,q] = some ([p,q],ys)∧ys.Perm (evs p 0 ++ evs q 1)∧ys.Pairwise (fun x y=>x.at_≤y.at_):=by
  have u : ∀ x∈evs p 0 ++ evs q 1,inE x:=by
    intro x s;rcases List.mem_append.1 s with h | h
    · obtain ⟨_,_,t,g,h⟩:=qcf h;obtain ⟨a,b,c⟩:=n t g;unfold inE;rcases h with h | h <;> omega
    · obtain ⟨_,_,t,g,h⟩:=qcf h;obtain ⟨a,b,c⟩:=o t g;unfold inE;rcases h with h | h <;> omega
  have w:=q96 p 0;have z:=q96 q 1;obtain ⟨ys,r,j,k⟩:=qoh cmpE swoE (evs p 0 ++ evs q 1) (by rw [List.length_append];omega) u;refine ⟨ys,?_,j,k.imp (fun {x y} h=>by simp only [ltE,decide_eq_false_iff_not] at h;omega)⟩
  have d : loop (q1i [p,q]) (0,[]) = some (evs p 0 ++ evs q 1):=by
    have s0 : q1i [p,q] (0,[]) = some (.inl (1,evs p 0)):=by
      have t : decide ((0 : Int) < (([p,q] : List (List qj)).length : Int)) = true:=rfl;simp only [q1i,t,Q2];have : idx [p,q] 0 = some p:=rfl;rw [this];simp only [qk,qjq p 0 [] q0 [] qd,List.nil_append];rfl
    have m : q1i [p,q] (1,evs p 0) = some (.inl (2,evs p 0 ++ evs q 1)):=by
      have t : decide ((1 : Int) < (([p,q] : List (List qj)).length : Int)) = true:=rfl;simp only [q1i,t,Q2];have : idx [p,q] 1 = some q:=rfl;rw [this];simp only [qk,qjq q 1 (evs p 0) q0 (evs p 0) q0];rfl
    have l : q1i [p,q] (2,evs p 0 ++ evs q 1) = some (.inr (evs p 0 ++ evs q 1)):=by
      have t : decide ((2 : Int) < (([p,q] : List (List qj)).length : Int)) = false:=rfl;simp only [q1i,t,Q3]
    rw [Y9 s0,Y9 m,Kn l]
  unfold qb5;rw [d];simp only [qk,q12j,r];have le : K1 ys.length (evs p 0 ++ evs q 1).length = some ():=by unfold K1;rw [qr j.length_eq]
  have f : K1 ys.length ys.length = some ():=by unfold K1;rw [qr rfl]
  simp only [le,qk,qde,f]
def cnt (l : Int) (c : Int→Bool) : List ql→Int
  | []=>0
  | e::es=>(if e.list_ = l∧c e.at_ = true then e.by_ else 0) + cnt l c es
theorem q2s (l : Int) (c : Int→Bool) (a b : List ql) : cnt l c (a ++ b) = cnt l c a + cnt l c b:=by
  induction a with
  | nil=>simp [cnt]
  | cons e a ih=>simp only [List.cons_append,cnt,ih];omega
theorem qj7 {l : Int} {c : Int→Bool} {a b : List ql} (h : a.Perm b) : cnt l c a = cnt l c b:=by
  induction h with
  | nil=>rfl
  | cons x _ ih=>simp only [cnt,ih]
  | swap x y l=>simp only [cnt];omega
  | trans _ _ ih1 ih2=>rw [ih1,ih2]
theorem qj3 {l : Int} {c b : Int→Bool} : ∀ {a : List ql},(∀ e∈a,c e.at_ = b e.at_)→cnt l c a = cnt l b a
  | [],_=>rfl
  | e::a,h=>by simp only [cnt,h e qd,qj3 (fun e d=>h e (List.mem_cons_of_mem _ d))]
theorem qj5 {l : Int} {c : Int→Bool} : ∀ {a : List ql},(∀ e∈a,c e.at_ = false)→cnt l c a = 0
  | [],_=>rfl
  | e::a,h=>by
    simp only [cnt,qj5 (fun e b=>h e (List.mem_cons_of_mem _ b)),h e qd]
    simp
theorem q8x {s : List qj} {l l' : Int} {c : Int→Bool} (h : l≠l') : cnt l c (evs s l') = 0:=by
  induction s with
  | nil=>rfl
  | cons t s ih=>
    have : evs (t::s) l' = [{at_:=t.Lo,list_:=l',by_:=1},{at_:=t.Hi,list_:=l',by_:=-1}] ++ evs s l':=rfl;rw [this,q2s,ih];have a : ¬ l' = l:=fun e=>h e.symm;simp [cnt,a]
theorem qj4 {s : List qj} {l : Int} (v : ∀ t∈s,vld t) (x : Int) : 0≤cnt l (fun a=>decide (a≤x)) (evs s l)∧(0 < cnt l (fun a=>decide (a≤x)) (evs s l)↔has s x):=by
  induction s with
  | nil=>exact ⟨Int.le_refl 0,by simp [evs,cnt,has]⟩
  | cons t s ih=>
    obtain ⟨f,b⟩:=ih (fun t d=>v t (List.mem_cons_of_mem _ d));have c:=v t qd;have : evs (t::s) l = [{at_:=t.Lo,list_:=l,by_:=1},{at_:=t.Hi,list_:=l,by_:=-1}] ++ evs s l:=rfl;rw [this,q2s,Zx,← b];obtain ⟨j,h,g⟩:=c;simp only [cnt,true_and,decide_eq_true_eq];split <;> split <;> omega
theorem qj8 {s : List qj} {l : Int} : cnt l (fun _=>true) (evs s l) = 0:=by
  induction s with
  | nil=>rfl
  | cons t s ih=>
    have : evs (t::s) l = [{at_:=t.Lo,list_:=l,by_:=1},{at_:=t.Hi,list_:=l,by_:=-1}] ++ evs s l:=rfl;rw [this,q2s,ih];simp [cnt]
theorem qez {l : Int} {c : Int→Bool} : ∀ {a : List ql},(∀ e∈a,e.by_ = 1∨e.by_ = -1)→-(a.length : Int)≤cnt l c a∧cnt l c a≤(a.length : Int)
  | [],_=>by simp [cnt]
  | e::a,h=>by
    obtain ⟨f,d⟩:=qez (l:=l) (c:=c) (fun e b=>h e (List.mem_cons_of_mem _ b))
    have:=h e qd
    simp only [cnt,List.length_cons]
    split <;> omega
end Go.Sh
namespace Go.Sh
open Go Go.Am
theorem qre (at_ a : Int) (inn : Bool) (out : List qj) (h : out.length≤10000) :
    qb6 at_ inn a out = some (inn,a,if inn = true∧a≠at_ then addS out a at_ else out):=by
  unfold qb6
  cases inn with
  | false=>rfl
  | true=>
    by_cases c : a = at_
    · simp [c]
    · have hb : (a == at_) = false:=by simpa using c
      simp only [Bool.not_true,Q3,qk,hb];rw [qr ⟨trivial,c⟩];rcases qdf out with rfl | ⟨d,t,rfl⟩
      · rfl
      · have l : (d ++ [t]).length = d.length + 1:=by simp
        have k : decide (((d ++ [t]).length : Int) > 0) = true:=Qf q0;have j : w64 (((d ++ [t]).length : Int) - 1) = (d.length : Int):=by rw [Qb q0];omega
        have g : idx (d ++ [t]) (d.length : Int) = some t:=by
          rw [Qx q0];simp
        simp only [k,Q2,j,g,qk];by_cases b : t.Hi = a
        · subst b;simp only [beq_self_eq_true,Q2,qbi,Int.toNat_natCast,qnk]
        · have f : (t.Hi == a) = false:=by simpa using b
          simp only [f,Q3,qbj b];rw [Y4 (by simp;omega)];rfl
open Classical in
structure qpq (f : Bool→Bool→Bool) (p q : List qj) (ys : List ql) (k : Nat) (c : List Int × Int × Bool × List qj) : Prop where
  opn : c.1 = [cnt 0 (fun _=>true) (ys.take k),cnt 1 (fun _=>true) (ys.take k)]
  inn : c.2.2.1 = f (decide (0 < cnt 0 (fun _=>true) (ys.take k))) (decide (0 < cnt 1 (fun _=>true) (ys.take k)))
  lst : ∀ (h : k - 1 < ys.length),0 < k→c.2.1 = ys[k - 1].at_
  can : Can c.2.2.2
  his : ∀ t∈c.2.2.2,t.Hi≤c.2.1
  zro : k = 0→c.2.2.2 = []
  pts : ∀ x,has c.2.2.2 x↔0 < k∧x < c.2.1∧f (decide (has p x)) (decide (has q x)) = true
  len : c.2.2.2.length≤k
theorem qps (c : List qj) (a b : Int) : (addS c a b).length≤c.length + 1:=by
  rcases qdf c with rfl | ⟨d,t,rfl⟩
  · simp [qi0]
  · by_cases h : t.Hi = a
    · subst h;rw [qbi];simp
    · rw [qbj h];simp
theorem qj2 {p q : List qj} {ys : List ql} (hp : ∀ t∈p,vld t) (m : ∀ t∈q,vld t) (b : ys.Perm (evs p 0 ++ evs q 1)) (hs : ys.Pairwise (fun x y=>x.at_≤y.at_)) (k : Nat) (x : Int)
    (j : ∀ i (h : i < ys.length),i < k→ys[i].at_≤x) (g : ∀ i (h : i < ys.length),k≤i→x < ys[i].at_) :
    (0 < cnt 0 (fun _=>true) (ys.take k)↔has p x)∧(0 < cnt 1 (fun _=>true) (ys.take k)↔has q x):=by
  have key : ∀ l,cnt l (fun _=>true) (ys.take k) = cnt l (fun a=>decide (a≤x)) (evs p 0) + cnt l (fun a=>decide (a≤x)) (evs q 1):=by
    intro l;rw [← q2s,← qj7 b]
    conv=>rhs;rw [← List.take_append_drop k ys]
    rw [q2s]
    have f : cnt l (fun a=>decide (a≤x)) (ys.drop k) = 0:=by
      refine qj5 fun e c=>?_;obtain ⟨i,hi,rfl⟩:=List.mem_iff_getElem.1 c;rw [List.getElem_drop];rw [List.length_drop] at hi;have:=g (k + i) q0 q0;exact Qj q0
    have d : cnt l (fun a=>decide (a≤x)) (ys.take k) = cnt l (fun _=>true) (ys.take k):=by
      refine qj3 fun e c=>?_;obtain ⟨i,hi,rfl⟩:=List.mem_iff_getElem.1 c;rw [List.getElem_take];rw [List.length_take] at hi;exact Qf (j i q0 q0)
    rw [f,d];omega
  rw [key 0,key 1,q8x (l:=0) (l':=1) Q1,q8x (l:=1) (l':=0) Q1];have o:=qj4 (l:=0) hp x;have n:=qj4 (l:=1) m x;rw [Int.add_zero,Int.zero_add];exact ⟨o.2,n.2⟩
open Classical in
theorem ql3 (f : Bool→Bool→Bool) (hf : f false false = false) (p2 : Bool→Bool→Option Bool) (hp2 : ∀ a b,p2 a b = some (f a b)) (p q : List qj)
    (hp : p.length≤500) (hq : q.length≤500) (vp : ∀ t∈p,vld t) (vq : ∀ t∈q,vld t) :
    ∃ out,q3p p q p2 = some out∧Can out∧∀ x,has out x↔f (decide (has p x)) (decide (has q x)) = true:=by
  obtain ⟨ys,e1,g,hs⟩:=q12i p q hp hq vp vq;have bh : ys.length≤2000:=by rw [g.length_eq,List.length_append,q96,q96];omega
  have w : ∀ i j (hi : i < ys.length) (hj : j < ys.length),i≤j→ys[i].at_≤ys[j].at_:=by
    intro i j hi hj bj;rcases Nat.lt_or_ge i j with h | h
    · exact List.pairwise_iff_getElem.1 hs i j hi hj h
    · obtain rfl : i = j:=by omega
      exact Int.le_refl _
  have y : ∀ e∈ys,(e.list_ = 0∨e.list_ = 1)∧(e.by_ = 1∨e.by_ = -1):=by
    intro e he;rcases List.mem_append.1 (g.mem_iff.1 he) with h | h
    · obtain ⟨a,b,_⟩:=qcf h;exact ⟨.inl a,b⟩
    · obtain ⟨a,b,_⟩:=qcf h;exact ⟨.inr a,b⟩
  have:=Zz (f:=q5d ([p,q],ys) p2) (σ:=List Int × Int × Bool × List qj) (fun k c=>((k : Int),c)) ys.length (qpq f p q ys) (fun out=>Can out∧∀ x,has out x↔f (decide (has p x)) (decide (has q x)) = true) ?_ ?_ (k0:=0) (c0:=([0,0],0,false,[])) q0 ?_
  · obtain ⟨out,o,m⟩:=this;refine ⟨out,?_,m⟩;unfold q3p;have o : loop (q5d ([p,q],ys) p2) (0,[0,0],0,false,[]) = some out:=o;rw [e1];simp only [qk,o];rfl
  · rintro k ⟨opn,d,inn,out⟩ hk ⟨s1,s2,s3,s4,s5,s6,s7,s8⟩;simp only at s1 s2 s3 s4 s5 s6 s7 s8;have ae : decide ((k : Int) < (ys.length : Int)) = true:=Qf q0;have az:=qre ys[k].at_ d inn out q0;have hm:=y ys[k] (Ki hk);have bb : ys.take (k + 1) = ys.take k ++ [ys[k]]:=List.take_succ_eq_append_getElem hk;have ao : ∀ e∈ys.take k,e.by_ = 1∨e.by_ = -1:=fun e he=>(y e (List.mem_of_mem_take he)).2;have b0:=qez (l:=0) (c:=fun _=>true) ao;have b1:=qez (l:=1) (c:=fun _=>true) ao;have bd : (ys.take k).length = k:=by rw [List.length_take];omega
    rw [bd] at b0 b1
    have aa : ∃ v,idxA 2 opn ys[k].list_ = some v∧opn.set ys[k].list_.toNat (w64 (v + ys[k].by_)) = [cnt 0 (fun _=>true) (ys.take (k + 1)),cnt 1 (fun _=>true) (ys.take (k + 1))]:=by
      subst s1;rw [bb,q2s,q2s];rcases hm.1 with h | h
      · refine ⟨cnt 0 (fun _=>true) (ys.take k),by rw [h];rfl,?_⟩;rw [h,Qb q0];simp [cnt,h]
      · refine ⟨cnt 1 (fun _=>true) (ys.take k),by rw [h];rfl,?_⟩;rw [h,Qb q0];simp [cnt,h]
    obtain ⟨v,o1,o2⟩:=aa;refine .inl ⟨([cnt 0 (fun _=>true) (ys.take (k + 1)),cnt 1 (fun _=>true) (ys.take (k + 1))],ys[k].at_,f (decide (0 < cnt 0 (fun _=>true) (ys.take (k + 1)))) (decide (0 < cnt 1 (fun _=>true) (ys.take (k + 1)))),if inn = true∧d≠ys[k].at_ then addS out d ys[k].at_ else out),?_,?_⟩
    · have x0 : ∀ a b : Int,idxA 2 [a,b] 0 = some a:=fun a b=>rfl;have x1 : ∀ a b : Int,idxA 2 [a,b] 1 = some b:=fun a b=>rfl;simp only [q5d,ae,Q2,Qx hk,qk,az,o1,o2,x0,x1,hp2,Bool.not_true,Q3];rw [Qb q0];rfl
    · have ad : ∀ x,(0 < k→d≤x)→∀ i (h : i < ys.length),i < k→ys[i].at_≤x:=by
        intro x r i hi ai;have:=s3 q0 q0;have:=w i (k - 1) hi q0 q0;have:=r q0;omega
      have ab : ∀ x,x < ys[k].at_→∀ i (h : i < ys.length),k≤i→x < ys[i].at_:=by
        intro x r i hi ai;have:=w k i hk hi ai;omega
      have hF : ∀ x,(0 < k→d≤x)→x < ys[k].at_→f (decide (has p x)) (decide (has q x)) = inn:=by
        intro x r bc;obtain ⟨c1,c2⟩:=qj2 vp vq g hs k x (ad x r) (ab x bc);rw [s2,decide_eq_decide.2 c1,decide_eq_decide.2 c2]
      have n : 0 < k→d≤ys[k].at_:=by
        intro u;rw [s3 q0 u];exact w (k - 1) k q0 hk q0
      have z : k = 0→inn = false:=by
        intro u;subst u;rw [s2];exact hf
      by_cases s : inn = true∧d≠ys[k].at_
      · have an : 0 < k:=by
          rcases Nat.eq_zero_or_pos k with h | h
          · rw [z h] at s;cases s.1
          · exact h
        have hl:=n an;have ay : d < ys[k].at_:=by have:=s.2;omega
        obtain ⟨d1,d2,d3,d4⟩:=qi1 s4 s5 ay;constructor
        · rfl
        · rfl
        · intro h _;rfl
        · simp only [qr s];exact d1
        · simp only [qr s];exact d3
        · omega
        · intro x;simp only [qr s];rw [d2,s7];constructor
          · rintro (⟨u,o,m⟩ | ⟨o,m⟩)
            · exact ⟨q0,q0,m⟩
            · exact ⟨q0,m,by rw [hF x (fun _=>o) m];exact s.1⟩
          · rintro ⟨u,o,m⟩;by_cases r : x < d
            · exact .inl ⟨an,r,m⟩
            · exact .inr ⟨q0,o⟩
        · simp only [qr s];have:=qps out d ys[k].at_;omega
      · constructor
        · rfl
        · rfl
        · intro h _;rfl
        · simp only [qq s];exact s4
        · simp only [qq s];intro t ht;rcases Nat.eq_zero_or_pos k with h | h
          · rw [s6 h] at ht;cases ht
          · have:=s5 t ht;have:=n h;omega
        · omega
        · intro x;simp only [qq s];rw [s7];constructor
          · rintro ⟨u,o,m⟩;exact ⟨q0,by have:=n u;omega,m⟩
          · rintro ⟨u,o,m⟩;by_cases r : 0 < k∧x < d
            · exact ⟨r.1,r.2,m⟩
            · have am : 0 < k→d≤x:=fun h=>by
                refine Int.not_lt.1 fun h'=>r ⟨h,h'⟩
              have:=hF x am o;rw [this] at m;refine absurd ⟨m,?_⟩ s;intro e;rcases Nat.eq_zero_or_pos k with h | h
              · rw [z h] at m;cases m
              · have:=am h;omega
        · simp only [qq s];omega
  · rintro ⟨opn,d,inn,out⟩ ⟨s1,s2,s3,s4,s5,s6,s7,s8⟩;simp only at s1 s2 s3 s4 s5 s6 s7 s8;have ae : decide ((ys.length : Int) < (ys.length : Int)) = false:=Qj q0;refine ⟨out,by simp only [q5d,ae,Q3],s4,fun x=>?_⟩;rw [s7];constructor
    · rintro ⟨_,_,h⟩;exact h
    · intro h;by_cases r : 0 < ys.length∧x < d
      · exact ⟨r.1,r.2,h⟩
      · obtain ⟨c1, c2⟩ := qj2 vp vq g hs ys.length x (fun i hi _ => by
            have:=s3 q0 q0;have:=w i (ys.length - 1) hi q0 q0;have : d≤x:=Int.not_lt.1 fun h'=>r ⟨q0,h'⟩
            omega) (fun i hi bt=>q0)
        have aw : ∀ l,cnt l (fun _=>true) (ys.take ys.length) = 0:=by
          intro l;rw [List.take_length,qj7 g,q2s];by_cases u : l = 0
          · subst u;rw [qj8,q8x Q1];rfl
          · rw [q8x u];by_cases o : l = 1
            · subst o;rw [qj8];rfl
            · rw [q8x o];rfl
        rw [aw] at c1 c2;have n1 : ¬ has p x:=fun h=>absurd (c1.2 h) Q1;have n2 : ¬ has q x:=fun h=>absurd (c2.2 h) Q1;rw [Qj n1,Qj n2,hf] at h;cases h
  · constructor
    · simp [cnt]
    · simp [cnt,hf]
    · intro h u;omega
    · exact ⟨fun t ht=>(by cases ht),.nil⟩
    · intro t ht;cases ht
    · intro _;rfl
    · intro x;simp [has]
    · simp
end Go.Sh
namespace Go.Sh
open Go Go.Am
theorem qet {s : List qj} (h : Yp s = 0) : s.length≤400∧Good s:=by
  unfold Yp at h;split at h
  · cases h
  · split at h
    · rename_i b a;exact ⟨q0,a⟩
    · cases h
def dst (x : Int) (t : qj) : Int:=max (max (t.Lo - x) (x - t.Hi + 1)) 0
end Go.Sh
namespace Go.Sh
open Go Go.Am
noncomputable def Jj (kind : Int) (p q : List qj) : List qj:=(qcr kind p q).getD []
theorem q64 (kind : Int) (p q : List qj) (hp : p.length≤100000) (a : q.length≤100000) : qcr kind p q = some (Jj kind p q)∧qe7 kind p q (Jj kind p q):=by
  obtain ⟨out,c,b⟩:=qtt kind p q hp a;unfold Jj;rw [c];exact ⟨rfl,b⟩
noncomputable def opS (kind : Int) (p q : List qj) : List qj × Int:=
  if Yp p≠0 then ([],Yp p) else if Yp q≠0 then ([],Yp q) else if 400 < (Jj kind p q).length then ([],4) else (Jj kind p q,0)
open Classical in
theorem qtn (kind : Int) (f : Bool→Bool→Bool) (c : f false false = false) (d : ∀ a b : Prop,(f (decide a) (decide b) = true↔Ks kind a b)) (p2 : Bool→Bool→Option Bool) (hp2 : ∀ a b,p2 a b = some (f a b))
    (p q : List qj) (hp : p.length≤500) (n : q.length≤500) (k : ∀ t∈p,vld t) (m : ∀ t∈q,vld t) : q3p p q p2 = some (Jj kind p q):=by
  obtain ⟨out,l,h,g⟩:=ql3 f c p2 hp2 p q hp n k m;obtain ⟨_,j⟩:=q64 kind p q q0 q0;rw [l];congr 1;refine q5m h j.can fun x=>?_;rw [g,j.pts,d]
open Classical in
theorem qiu (kind : Int) (f : Bool→Bool→Bool) (h : f false false = false) (m : ∀ a b : Prop,(f (decide a) (decide b) = true↔Ks kind a b)) (p2 : Bool→Bool→Option Bool) (hp2 : ∀ a b,p2 a b = some (f a b))
    (p q : List qj) : q8j p q p2 = some (opS kind p q):=by
  unfold q8j opS;simp only [qeu,qk];by_cases d : Yp p = 0
  · have k : (Yp p != 0) = false:=by simpa using d
    simp only [k,Q3];simp only [d,ne_eq,not_true_eq_false,if_false];by_cases c : Yp q = 0
    · have j : (Yp q != 0) = false:=by simpa using c
      obtain ⟨r,n⟩:=qet d;obtain ⟨s,o⟩:=qet c;simp only [j,Q3,c,not_true_eq_false,if_false,qtn kind f h m p2 hp2 p q q0 q0 n.1 o.1,qk];by_cases l : 400 < (Jj kind p q).length
      · have g : decide (((Jj kind p q).length : Int) > 400) = true:=Qf q0;rw [g,qr l];rfl
      · have g : decide (((Jj kind p q).length : Int) > 400) = false:=Qj q0;rw [g,qq l];rfl
    · have j : (Yp q != 0) = true:=by simpa using c
      simp only [j,Q2,c,not_false_eq_true,if_true]
  · have k : (Yp p != 0) = true:=by simpa using d
    simp only [k,Q2,d,ne_eq,not_false_eq_true,if_true]
theorem q13k (p q : List qj) : q8i p q = some (opS 2 p q):=by
  classical
  unfold q8i;rw [qiu 2 (fun a b=>a || b) rfl (by intro a b;by_cases c : a <;> by_cases hb : b <;> simp [Ks,c,hb]) _ (by intro a b;cases a <;> rfl)];rfl
theorem qu9 (p q : List qj) : q8h p q = some (opS 1 p q):=by
  classical
  unfold q8h;rw [qiu 1 (fun a b=>a && b) rfl (by intro a b;by_cases c : a <;> by_cases hb : b <;> simp [Ks,c,hb]) _ (by intro a b;cases a <;> rfl)];rfl
theorem qtg (s : List qj) (b : qj→Option Bool) (c : qj→Bool) (h : ∀ t,b t = some (c t)) (q : s.length≤1000000) :
    ∃ r,qa8 s b = some r∧decide (r ≥ 0) = s.any c:=by
  have:=Zz (f:=q3g s b) (σ:=Unit) (fun k _=>(k : Int)) s.length (fun k _=>∀ i (h : i < s.length),i < k→c s[i] = false)
    (fun m=>∃ r : Int,(match m with | .inl b22=>some (-1) | .inr x1=>some x1) = some r∧decide (r ≥ 0) = s.any c) ?_ ?_ (k0:=0) (c0:=()) q0 (fun i _ hi=>q0)
  · obtain ⟨m,g,r,n,l⟩:=this;have g : loop (q3g s b) 0 = some m:=g;exact ⟨r,by unfold qa8;rw [g];exact n,l⟩
  · rintro k _ j hi;have hb : decide ((k : Int) < (s.length : Int)) = true:=Qf q0
    cases d : c s[k] with
    | true=>
      refine .inr ⟨.inr (k : Int),?_,(k : Int),rfl,?_⟩
      · simp only [q3g,hb,Q2,Qx j,qk,h,d]
      · have : s.any c = true:=List.any_eq_true.2 ⟨s[k],Ki j,d⟩;rw [this];exact Qf q0
    | false=>
      refine .inl ⟨(),?_,?_⟩
      · simp only [q3g,hb,Q2,Qx j,qk,h,d,Q3];rw [Qb q0];rfl
      · intro i a o;by_cases e : i = k
        · subst e;exact d
        · exact hi i a q0
  · rintro _ hi;have hb : decide ((s.length : Int) < (s.length : Int)) = false:=Qj q0;refine ⟨.inl (),by simp only [q3g,hb,Q3],-1,rfl,?_⟩
    have : s.any c = false:=by
      rw [List.any_eq_false];intro t p;obtain ⟨i,a,rfl⟩:=List.mem_iff_getElem.1 p;simp [hi i a a]
    rw [this];rfl
theorem qrw (s : List qj) (a : qj→Option Bool) (c : qj→Bool) (h : ∀ t,a t = some (c t)) (f : s.length≤1000000) : qa5 s a = some (s.any c):=by
  obtain ⟨r,d,b⟩:=qtg s a c h f;unfold qa5;rw [d,qk,b]
open Classical in
noncomputable def qg1 (s : List qj) : List qj × Int:=if 400 < s.length then ([],4) else if ∀ t∈s,vld t then (Jj 2 s [],0) else ([],8)
theorem qu6 (s : List qj) (k : s.length≤400) (f : ∀ t∈s,vld t) (p2 : Bool→Bool→Option Bool) (hp2 : ∀ a b,p2 a b = some a) : q3p s [] p2 = some (Jj 2 s []):=by
  classical
  obtain ⟨out,g,d,c⟩:=ql3 (fun a _=>a) rfl p2 hp2 s [] q0 qd f (fun t h=>by cases h);obtain ⟨_,j⟩:=q64 2 s [] q0 qd;rw [g];congr 1;refine q5m d j.can fun x=>?_;rw [c,j.pts];simp [Ks,q21]
theorem qu5 (s : List qj) : q8g s = some (qg1 s):=by
  classical
  unfold q8g qg1;by_cases f : 400 < s.length
  · have e : decide ((s.length : Int) > 400) = true:=Qf q0;rw [e,qr f];rfl
  · have e : decide ((s.length : Int) > 400) = false:=Qj q0;rw [e,qq f,Q3,qrw s _ (fun t=>!decide (vld t)) (fun t=>by show (q3q t).bind _ = _;rw [qpe];rfl) q0,qk];by_cases c : ∀ t∈s,vld t
    · have : (s.any fun t=>!decide (vld t)) = false:=by
        rw [List.any_eq_false];intro t d;simp [c t d]
      rw [this,Q3,qr c,qu6 s q0 c (fun j g=>qb3 j g) (fun a b=>rfl)];rfl
    · have : (s.any fun t=>!decide (vld t)) = true:=by
        rw [List.any_eq_true];obtain ⟨t,c⟩:=Classical.not_forall.1 c;obtain ⟨d,h⟩:=Classical.not_imp.1 c;exact ⟨t,d,by simp [h]⟩
      rw [this,Q2,qq c]
def lenL : List qj→Int
  | []=>0
  | t::s=>(t.Hi - t.Lo) + lenL s
theorem qlb (a b : List qj) : lenL (a ++ b) = lenL a + lenL b:=by
  induction a with
  | nil=>simp [lenL]
  | cons t a ih=>simp only [List.cons_append,lenL,ih];omega
theorem qlc : ∀ {s : List qj},(∀ t∈s,vld t)→0≤lenL s∧lenL s≤2000000 * (s.length : Int)
  | [],_=>by simp [lenL]
  | t::s,h=>by
    obtain ⟨f,b⟩:=qlc (fun t a=>h t (List.mem_cons_of_mem _ a))
    obtain ⟨g,d,c⟩:=h t qd
    simp only [lenL,List.length_cons]
    omega
noncomputable def qfv (s : List qj) : Int × Int:=if Yp s = 0 then (lenL s,0) else (0,Yp s)
theorem qtw (s : List qj) (o : s.length≤400) (h : ∀ t∈s,vld t) : loop (qb2 s) (0,0) = some (lenL s)∧loop (q9p s) (0,0) = some (lenL s):=by
  have d : ∀ k,0≤lenL (s.take k)∧lenL (s.take k)≤800000000:=by
    intro k;have:=qlc (s:=s.take k) (fun t m=>h t (List.mem_of_mem_take m));have : (s.take k).length≤400:=by rw [List.length_take];omega
    omega
  constructor
  · have:=Zz (f:=qb2 s) (σ:=Int) (fun k c=>(c,(k : Int))) s.length (fun k c=>c = lenL (s.take k)) (fun r=>r = lenL s) ?_ ?_ (k0:=0) (c0:=0) q0 (by simp [lenL])
    · obtain ⟨b,g,rfl⟩:=this;exact g
    · rintro k c a rfl;have hb : decide ((k : Int) < (s.length : Int)) = true:=Qf q0;obtain ⟨n,j,l⟩:=h _ (Ki a);have:=d k;refine .inl ⟨lenL (s.take (k + 1)),?_,rfl⟩;simp only [qb2,hb,Q2,Qx a,qk];rw [Qb (x:=s[k].Hi - s[k].Lo) q0,Qb (x:=lenL (s.take k) + _) q0,Qb q0,List.take_succ_eq_append_getElem a,qlb];simp only [lenL,Int.add_zero];rfl
    · rintro c rfl;have hb : decide ((s.length : Int) < (s.length : Int)) = false:=Qj q0;exact ⟨_,by simp only [qb2,hb,Q3];rfl,by rw [List.take_length]⟩
  · have:=Zz (f:=q9p s) (σ:=Int) (fun k c=>(c,(k : Int))) s.length (fun k c=>c = lenL (s.take k)) (fun r=>r = lenL s) ?_ ?_ (k0:=0) (c0:=0) q0 (by simp [lenL])
    · obtain ⟨b,g,rfl⟩:=this;exact g
    · rintro k c a rfl;have hb : decide ((k : Int) < (s.length : Int)) = true:=Qf q0;obtain ⟨n,j,l⟩:=h _ (Ki a);have:=d k;refine .inl ⟨lenL (s.take (k + 1)),?_,rfl⟩;simp only [q9p,hb,Q2,Qx a,qk];rw [Qb (x:=lenL (s.take k) + s[k].Hi) q0,Qb (x:=lenL (s.take k) + s[k].Hi - _) q0,Qb q0,List.take_succ_eq_append_getElem a,qlb];have : lenL (s.take k) + s[k].Hi - s[k].Lo = lenL (s.take k) + lenL [s[k]]:=by simp only [lenL];omega
      rw [this];rfl
    · rintro c rfl;have hb : decide ((s.length : Int) < (s.length : Int)) = false:=Qj q0;exact ⟨_,by simp only [q9p,hb,Q3];rfl,by rw [List.take_length]⟩
theorem q14g (s : List qj) : qon s = some (qfv s)∧qmp s = some (qfv s):=by
  unfold qon qmp qfv;simp only [qeu,qwk,qk];by_cases h : Yp s = 0
  · obtain ⟨c,d⟩:=qet h;obtain ⟨a,b⟩:=qtw s c d.1;have e : (Yp s != 0) = false:=by simpa using h
    simp only [e,Q3,a,b,qk];simp only [h,if_true];exact ⟨trivial,trivial⟩
  · have e : (Yp s != 0) = true:=by simpa using h
    simp only [e,Q2,qq h];exact ⟨trivial,trivial⟩
end Go.Sh
set_option maxHeartbeats 4000000
namespace Go.Sh
open Go Go.Am
def sg (a b : Int) : Int:=if a < b then -1 else 0
theorem Ja {a b : Int} : decide (sg a b < 0) = decide (a < b):=by
  unfold sg;by_cases h : a < b <;> simp [h]
def qO (a b : Int) : Option Int:=some (sg a b)
theorem Jp (a b : Int) : qO a b = some (sg a b):=rfl
theorem Jl (a b : Int) : Zb a b = some (decide (a < b)):=by
  unfold Zb q8w;have : (a != a) = false:=by simp
  simp []
theorem q123 : qdq = q5y:=rfl
theorem q106 : (fun p0=>q37 p0) = (fun p0=>q40 p0):=by
  funext p0;simp only [q37,q40,q123]
  all_goals exact K0
theorem q107  : ∀ p0,q37 p0 = q40 p0:=fun p0=>(congrFun q106 p0)
theorem q105 : (fun p0=>q1e p0) = (fun p0=>q1q p0):=by
  funext p0;simp only [q1e,q1q,q107]
  all_goals exact K0
theorem qnx  : ∀ p0,q1e p0 = q1q p0:=fun p0=>(congrFun q105 p0)
theorem q10q : (fun a=>q7g a) = (fun a=>Uk a qO):=by
  funext a a443;simp only [q7g,Uk,Jl,Jp,qk,Ja]
  all_goals exact K0
theorem q10r  : ∀ a,q7g a = Uk a qO:=fun a=>(congrFun q10q a)
theorem q10o : (fun p2 a=>q7f p2 a) = (fun p2 a=>q1u p2 a qO):=by
  funext p2 a a270;simp only [q7f,q1u,q10r]
  all_goals exact K0
theorem q10p  : ∀ p2 a,q7f p2 a = q1u p2 a qO:=fun p2 a=>(congrFun (congrFun q10o p2) a)
theorem q10m : (fun p0 a p2=>q7e p0 a p2) = (fun p0 a p2=>q2y qO p0 a p2):=by
  funext p0 a p2;simp only [q7e,q2y,q10p]
  all_goals exact K0
theorem q10n  : ∀ p0 a p2,q7e p0 a p2 = q2y qO p0 a p2:=fun p0 a p2=>(congrFun (congrFun (congrFun q10m p0) a) p2)
theorem q121 : (fun p2 p3=>q82 p2 p3) = (fun p2 p3=>Un p2 p3 qO):=by
  funext p2 p3 a193;simp only [q82,Un,Jl,Jp,qk,Ja]
  all_goals exact K0
theorem q122  : ∀ p2 p3,q82 p2 p3 = Un p2 p3 qO:=fun p2 p3=>(congrFun (congrFun q121 p2) p3)
theorem q120 : (fun p0 a p2 p3=>q4y p0 a p2 p3) = (fun p0 a p2 p3=>q1b qO p0 a p2 p3):=by
  funext p0 a p2 p3;simp only [q4y,q1b,q122]
  all_goals exact K0
theorem qnz  : ∀ p0 a p2 p3,q4y p0 a p2 p3 = q1b qO p0 a p2 p3:=fun p0 a p2 p3=>(congrFun (congrFun (congrFun (congrFun q120 p0) a) p2) p3)
theorem q10i : (fun p2 a=>q7c p2 a) = (fun p2 a=>q1s qO p2 a):=by
  funext p2 a a123;simp only [q7c,q1s,qnz]
  all_goals exact K0
theorem q10j  : ∀ p2 a,q7c p2 a = q1s qO p2 a:=fun p2 a=>(congrFun (congrFun q10i p2) a)
theorem q10k : (fun a=>q7d a) = (fun a=>q1t a qO):=by
  funext a a191;simp only [q7d,q1t,qnz]
  all_goals exact K0
theorem q10l  : ∀ a,q7d a = q1t a qO:=fun a=>(congrFun q10k a)
theorem q10g : (fun p0 a p2=>q7b p0 a p2) = (fun p0 a p2=>q2x qO p0 a p2):=by
  funext p0 a p2;simp only [q7b,q2x,q10j,q10l]
  all_goals exact K0
theorem q10h  : ∀ p0 a p2,q7b p0 a p2 = q2x qO p0 a p2:=fun p0 a p2=>(congrFun (congrFun (congrFun q10g p0) a) p2)
theorem q10v : (fun p0=>q2c p0) = (fun p0=>q2z p0):=by
  funext p0;simp only [q2c,q2z,qnx]
  all_goals exact K0
theorem q10w  : ∀ p0,q2c p0 = q2z p0:=fun p0=>(congrFun q10v p0)
theorem q124 : (fun p0=>q2d p0) = (fun p0=>q33 p0):=by
  funext p0;simp only [q2d,q33]
  all_goals exact K0
theorem q125  : ∀ p0,q2d p0 = q33 p0:=fun p0=>(congrFun q124 p0)
theorem q10c : (fun b p2 a=>q79 b p2 a) = (fun b p2 a=>q12 b p2 a):=by
  funext b p2 a a153;simp only [q79,q12,q125]
  all_goals exact K0
theorem q10d  : ∀ b p2 a,q79 b p2 a = q12 b p2 a:=fun b p2 a=>(congrFun (congrFun (congrFun q10c b) p2) a)
theorem q10a : (fun p0 a p2=>q78 p0 a p2) = (fun p0 a p2=>q1r qO p0 a p2):=by
  funext p0 a p2;simp only [q78,q1r,q10w,q10d]
  all_goals exact K0
theorem q10b  : ∀ p0 a p2,q78 p0 a p2 = q1r qO p0 a p2:=fun p0 a p2=>(congrFun (congrFun (congrFun q10a p0) a) p2)
theorem q10x : (fun p0 a p2 p3=>q3i p0 a p2 p3) = (fun p0 a p2 p3=>q14 qO p0 a p2 p3):=by
  funext p0 a p2 p3;simp only [q3i,q14,Jl,Jp,qk,Ja]
  all_goals exact K0
theorem q10y  : ∀ p0 a p2 p3,q3i p0 a p2 p3 = q14 qO p0 a p2 p3:=fun p0 a p2 p3=>(congrFun (congrFun (congrFun (congrFun q10x p0) a) p2) p3)
theorem q10s : (fun p0 a p2 p3 p4=>q4s p0 a p2 p3 p4) = (fun p0 a p2 p3 p4=>q13 qO p0 a p2 p3 p4):=by
  funext p0 a p2 p3 p4;simp only [q4s,q13,q10y]
  all_goals exact K0
theorem qny  : ∀ p0 a p2 p3 p4,q4s p0 a p2 p3 p4 = q13 qO p0 a p2 p3 p4:=fun p0 a p2 p3 p4=>(congrFun (congrFun (congrFun (congrFun (congrFun q10s p0) a) p2) p3) p4)
theorem q10t : (fun p0 a p2=>q3h p0 a p2) = (fun p0 a p2=>Ul qO p0 a p2):=by
  funext p0 a p2;simp only [q3h,Ul,qny]
  all_goals exact K0
theorem q10u  : ∀ p0 a p2,q3h p0 a p2 = Ul qO p0 a p2:=fun p0 a p2=>(congrFun (congrFun (congrFun q10t p0) a) p2)
theorem q10e : (fun p0 a p2=>q7a p0 a p2) = (fun p0 a p2=>q2w p0 a p2 qO):=by
  funext p0 a p2;simp only [q7a,q2w,qny,q10u]
  all_goals exact K0
theorem q10f  : ∀ p0 a p2,q7a p0 a p2 = q2w p0 a p2 qO:=fun p0 a p2=>(congrFun (congrFun (congrFun q10e p0) a) p2)
theorem q11z : qay = q32:=by
  funext a119;simp only [qay,q32]
  all_goals exact K0
theorem q11x : (fun p0 a p2=>q80 p0 a p2) = (fun p0 a p2=>q1z qO p0 a p2):=by
  funext p0 a p2;simp only [q80,q1z,q11z]
  all_goals exact K0
theorem q11y  : ∀ p0 a p2,q80 p0 a p2 = q1z qO p0 a p2:=fun p0 a p2=>(congrFun (congrFun (congrFun q11x p0) a) p2)
theorem q113 : (fun p2 a=>q7k p2 a) = (fun p2 a=>q15 p2 a qO):=by
  funext p2 a a667;simp only [q7k,q15,Jl,Jp,qk,Ja]
  all_goals exact K0
theorem q114  : ∀ p2 a,q7k p2 a = q15 p2 a qO:=fun p2 a=>(congrFun (congrFun q113 p2) a)
theorem q115 : qal = q16 qO:=by
  funext a822;simp only [qal,q16,Jl,Jp,qk,Ja]
  all_goals exact K0
theorem q116 : (fun p2 a=>q7l p2 a) = (fun p2 a=>q17 p2 qO a):=by
  funext p2 a a912;simp only [q7l,q17,Jl,Jp,qk,Ja]
  all_goals exact K0
theorem q117  : ∀ p2 a,q7l p2 a = q17 p2 qO a:=fun p2 a=>(congrFun (congrFun q116 p2) a)
theorem q111 : (fun p2 a=>q4v p2 a) = (fun p2 a=>J7 p2 qO a):=by
  funext p2 a a432;have b : @q4v.match_1.{1} = @J7.match_1.{1} Int:=by funext motive m f g;cases m <;> rfl
  unfold q4v J7;rw [b];simp only [q114,q115,q117]
  all_goals repeat' first | with_reducible rfl | (congr 1) | funext _
  done
theorem q112  : ∀ p2 a,q4v p2 a = J7 p2 qO a:=fun p2 a=>(congrFun (congrFun q111 p2) a)
theorem q10z : (fun p0 a p2=>q4u p0 a p2) = (fun p0 a p2=>Um qO p0 a p2):=by
  funext p0 a p2;have b : @q4u.match_1.{1} = @Um.match_1.{1} Int:=by funext motive m f g;cases m <;> rfl
  unfold q4u Um;rw [b];simp only [q112]
  all_goals repeat' first | with_reducible rfl | (congr 1) | funext _
  done
theorem q110  : ∀ p0 a p2,q4u p0 a p2 = Um qO p0 a p2:=fun p0 a p2=>(congrFun (congrFun (congrFun q10z p0) a) p2)
theorem q11d : (fun a b=>q7o a b) = (fun a b=>q18 a b qO):=by
  funext a b a360;simp only [q7o,q18,Jl,Jp,qk,Ja]
  all_goals exact K0
theorem q11e  : ∀ a b,q7o a b = q18 a b qO:=fun a b=>(congrFun (congrFun q11d a) b)
theorem q11f : (fun b a c=>q7p b a c) = (fun b a c=>q19 b a c qO):=by
  funext b a c a439;simp only [q7p,q19,Jl,Jp,qk,Ja]
  all_goals exact K0
theorem q11g  : ∀ b a c,q7p b a c = q19 b a c qO:=fun b a c=>(congrFun (congrFun (congrFun q11f b) a) c)
theorem q11b : (fun a=>q7n a) = (fun a=>q1x a qO):=by
  funext a a304;simp only [q7n,q1x,q11e,q11g]
  all_goals exact K0
theorem q11c  : ∀ a,q7n a = q1x a qO:=fun a=>(congrFun q11b a)
theorem q119 : (fun p0 a p2 p3=>q7m p0 a p2 p3) = (fun p0 a p2 p3=>q1w qO p0 a p2 p3):=by
  funext p0 a p2 p3;simp only [q7m,q1w,q11c]
  all_goals exact K0
theorem q11a  : ∀ p0 a p2 p3,q7m p0 a p2 p3 = q1w qO p0 a p2 p3:=fun p0 a p2 p3=>(congrFun (congrFun (congrFun (congrFun q119 p0) a) p2) p3)
theorem q11i : (fun p2 p0 c b p3 a=>q7r p2 p0 c b p3 a) = (fun p2 p0 c b p3 a=>q30 p2 p0 c b p3 a qO):=by
  funext p2 p0 c b p3 a a159;simp only [q7r,q30,Jl,Jp,qk,Ja]
  all_goals exact K0
theorem q11j  : ∀ p2 p0 c b p3 a,q7r p2 p0 c b p3 a = q30 p2 p0 c b p3 a qO:=fun p2 p0 c b p3 a=>(congrFun (congrFun (congrFun (congrFun (congrFun (congrFun q11i p2) p0) c) b) p3) a)
theorem q11k : (fun b p0 d c p3 a=>q7s b p0 d c p3 a) = (fun b p0 d c p3 a=>q31 b p0 d c p3 a qO):=by
  funext b p0 d c p3 a a239;simp only [q7s,q31,Jl,Jp,qk,Ja]
  all_goals exact K0
theorem q11l  : ∀ b p0 d c p3 a,q7s b p0 d c p3 a = q31 b p0 d c p3 a qO:=fun b p0 d c p3 a=>(congrFun (congrFun (congrFun (congrFun (congrFun (congrFun q11k b) p0) d) c) p3) a)
theorem q11o : (fun a b=>q7u a b) = (fun a b=>Jf a b qO):=by
  funext a b a542;simp only [q7u,Jf,Jl,Jp,qk,Ja]
  all_goals exact K0
theorem q11p  : ∀ a b,q7u a b = Jf a b qO:=fun a b=>(congrFun (congrFun q11o a) b)
theorem q11q : (fun a b c=>q7v a b c) = (fun a b c=>Jg a b c qO):=by
  funext a b c a622;simp only [q7v,Jg,Jl,Jp,qk,Ja]
  all_goals exact K0
theorem q11r  : ∀ a b c,q7v a b c = Jg a b c qO:=fun a b c=>(congrFun (congrFun (congrFun q11q a) b) c)
theorem q11m : (fun a=>q7t a) = (fun a=>q1y a qO):=by
  funext a a488;simp only [q7t,q1y,q11p,q11r]
  all_goals exact K0
theorem q11n  : ∀ a,q7t a = q1y a qO:=fun a=>(congrFun q11m a)
theorem q118 : (fun p0 a p2 p3=>q7q p0 a p2 p3) = (fun p0 a p2 p3=>q1v qO p0 a p2 p3):=by
  funext p0 a p2 p3;simp only [q7q,q1v,q11j,q11l,q11n]
  all_goals exact K0
theorem q11h  : ∀ p0 a p2 p3,q7q p0 a p2 p3 = q1v qO p0 a p2 p3:=fun p0 a p2 p3=>(congrFun (congrFun (congrFun (congrFun q118 p0) a) p2) p3)
theorem q11t : (fun a=>q4w a) = (fun a=>Zt qO a):=by
  funext a a305;have b : @q4w.match_1.{1} = @Zt.match_1.{1} Int:=by funext motive m f g;cases m <;> rfl
  unfold q4w Zt;rw [b];simp only [q10n,q10h,q10b,q10f,q11y,q110,q11a,q11h,Jl,Jp,qk,Ja]
  all_goals repeat' first | with_reducible rfl | (congr 1) | funext _
  done
theorem q11u  : ∀ a,q4w a = Zt qO a:=fun a=>(congrFun q11t a)
theorem q11v : (fun a p0 b p2 p3=>q4x a p0 b p2 p3) = (fun a p0 b p2 p3=>q1a a qO p0 b p2 p3):=by
  funext a p0 b p2 p3;simp only [q4x,q1a,q11u]
  all_goals exact K0
theorem q11w  : ∀ a p0 b p2 p3,q4x a p0 b p2 p3 = q1a a qO p0 b p2 p3:=fun a p0 b p2 p3=>(congrFun (congrFun (congrFun (congrFun (congrFun q11v a) p0) b) p2) p3)
theorem q11s : ∀ N,q7z N = Zg N qO:=by
  intro N
  induction N with
  | zero=>rfl
  | succ N ih=>
    funext a b c d;show q4x (q7z N) a b c d = q1a (Zg N qO) qO a b c d;rw [ih,q11w]
theorem q108 : (fun p0=>Ud p0) = (fun p0=>q2v qO p0):=by
  funext p0;simp only [Ud,q2v,qnx,q11s]
  all_goals exact K0
theorem q109  : ∀ p0,Ud p0 = q2v qO p0:=fun p0=>(congrFun q108 p0)
end Go.Sh
