/- Pg4 Pg5 Pg6 Pj1 Pj2 Pl4 Pj3 Po1 -/
import Derived.Test.YtiejlbckgihckaaGreatK9
namespace Go.Sh
open Go Go.Am
section
variable {T : Type} [Inhabited T] {P : T→Prop} {lt : T→T→Bool} {q : T→T→Option Int}
theorem qfp {f : Int→Option (Int ⊕ Int)} (p : T→Bool) (d : Array T) (j : Nat)
    (b : ∀ k : Nat,k≤1000002→f (k : Int) = if (decide (k≤j) && p d[k]!) = true then some (.inl ((k + 1 : Nat) : Int)) else some (.inr (k : Int))) (g : j≤1000000) :
    ∀ (m i : Nat),j + 1 - i = m→i≤1000002→loop f (i : Int) = some ((Sort.scanUp p d j i : Nat) : Int):=by
  intro m
  induction m with
  | zero=>
    intro i c hi;unfold Sort.scanUp;have a : ¬ (decide (i≤j) && p d[i]!) = true:=by simp;omega
    rw [qx a];exact Kg (by rw [b i hi,qx a])
  | succ m ih=>
    intro i c hi;unfold Sort.scanUp;by_cases a : (decide (i≤j) && p d[i]!) = true
    · rw [qs a,Ke (by rw [b i hi,qs a])];exact ih (i + 1) q0 q0
    · rw [qx a];exact Kg (by rw [b i hi,qx a])
theorem qbs {f : Int→Option (Int ⊕ Int)} (p : T→Bool) (d : Array T) (i n : Nat) (hi : 1≤i)
    (b : ∀ k : Nat,k < n→f (k : Int) = if (decide (i≤k) && p d[k]!) = true then some (.inl ((k - 1 : Nat) : Int)) else some (.inr (k : Int))) :
    ∀ (j : Nat),j < n→loop f (j : Int) = some ((Sort.scanDown p d i j : Nat) : Int)
  | 0,hj=>by
    have a : ¬ (decide (i≤0) && p d[0]!) = true:=by simp;omega
    exact Kg (by rw [b 0 hj,qx a];rfl)
  | j + 1,hj=>by
    unfold Sort.scanDown
    by_cases a : (decide (i≤j + 1) && p d[j + 1]!) = true
    · rw [qs a,Ke (by rw [b (j + 1) hj,qs a])]
      exact qbs p d i n hi b j q0
    · rw [qx a]
      exact Kg (by rw [b (j + 1) hj,qx a])
theorem qkl (g : Kz q lt P) {n : Nat} {d : Array T} (hd : AllP n P d) {a j : Nat} (c : a < n) (o : j < n) (x : Int) (k : Nat) (m : k≤1000002) :
    Jf (x,(j : Int),d.toList) (a : Int) q (k : Int) = if (decide (k≤j) && (fun x=>lt x d[a]!) d[k]!) = true then some (.inl ((k + 1 : Nat) : Int)) else some (.inr (k : Int)):=by
  have f:=hd.1;by_cases h : k≤j
  · obtain ⟨r,b,l⟩:=g d[k]! d[a]! (hd.2.2 _ q0) (hd.2.2 _ c);have t : decide ((k : Int)≤(j : Int)) = true:=Q9 q0;simp only [Jf,t,Q2,gx (d:=d) (k:=k) q0,gx (d:=d) (k:=a) q0,qh,b,l,w1p k q0];simp only [Q9 h,Bool.true_and,Bool.cond_eq_ite]
  · have t : decide ((k : Int)≤(j : Int)) = false:=Qb q0;simp only [Jf,t,Q1,qh];simp [h]
theorem qkm (j : Kz q lt P) {n : Nat} {d : Array T} (hd : AllP n P d) {a i : Nat} (f : a < n) (hi : 1≤i) (x y : Int) (k : Nat) (l : k < n) :
    Jg (i : Int) (x,y,d.toList) (a : Int) q (k : Int) = if (decide (i≤k) && (fun x=>!lt x d[a]!) d[k]!) = true then some (.inl ((k - 1 : Nat) : Int)) else some (.inr (k : Int)):=by
  have c:=hd.1;have m:=hd.2.1;by_cases h : i≤k
  · obtain ⟨r,b,g⟩:=j d[k]! d[a]! (hd.2.2 _ q0) (hd.2.2 _ f);have t : decide ((i : Int)≤(k : Int)) = true:=Q9 q0;have w : w64 ((k : Int) - 1) = ((k - 1 : Nat) : Int):=by rw [Q5 q0];omega
    simp only [Jg,t,Q2,gx (d:=d) (k:=k) q0,gx (d:=d) (k:=a) q0,qh,b,g,w];simp only [Q9 h,Bool.true_and,Bool.cond_eq_ite]
  · have t : decide ((i : Int)≤(k : Int)) = false:=Qb q0;simp only [Jg,t,Q1,qh];simp [h]
theorem qtn (g : Kz q lt P) {n : Nat} {d : Array T} (hd : AllP n P d) {a j : Nat} (c : a < n) (o : j < n) (x : Int) (k : Nat) (m : k≤1000002) :
    Un (x,(j : Int),d.toList) (a : Int) q (k : Int) = if (decide (k≤j) && (fun x=>!lt d[a]! x) d[k]!) = true then some (.inl ((k + 1 : Nat) : Int)) else some (.inr (k : Int)):=by
  have f:=hd.1;by_cases h : k≤j
  · obtain ⟨r,b,l⟩:=g d[a]! d[k]! (hd.2.2 _ c) (hd.2.2 _ q0);have t : decide ((k : Int)≤(j : Int)) = true:=Q9 q0;simp only [Un,t,Q2,gx (d:=d) (k:=k) q0,gx (d:=d) (k:=a) q0,qh,b,l,w1p k q0];simp only [Q9 h,Bool.true_and,Bool.cond_eq_ite]
  · have t : decide ((k : Int)≤(j : Int)) = false:=Qb q0;simp only [Un,t,Q1,qh];simp [h]
theorem qto (j : Kz q lt P) {n : Nat} {d : Array T} (hd : AllP n P d) {a i : Nat} (f : a < n) (hi : 1≤i) (x y : Int) (k : Nat) (l : k < n) :
    Uo (i : Int) (x,y,d.toList) (a : Int) q (k : Int) = if (decide (i≤k) && (fun x=>lt d[a]! x) d[k]!) = true then some (.inl ((k - 1 : Nat) : Int)) else some (.inr (k : Int)):=by
  have c:=hd.1;have m:=hd.2.1;by_cases h : i≤k
  · obtain ⟨r,b,g⟩:=j d[a]! d[k]! (hd.2.2 _ f) (hd.2.2 _ q0);have t : decide ((i : Int)≤(k : Int)) = true:=Q9 q0;have w : w64 ((k : Int) - 1) = ((k - 1 : Nat) : Int):=by rw [Q5 q0];omega
    simp only [Uo,t,Q2,gx (d:=d) (k:=k) q0,gx (d:=d) (k:=a) q0,qh,b,g,w];simp only [Q9 h,Bool.true_and,Bool.cond_eq_ite]
  · have t : decide ((i : Int)≤(k : Int)) = false:=Qb q0;simp only [Uo,t,Q1,qh];simp [h]
theorem qth (u : Kz q lt P) (a n : Nat) (s : a < n) : ∀ (m i j : Nat) (d : Array T),j + 1 - i = m→AllP n P d→1≤i→i≤n + 1→j < n→
    loop (q1e (a : Int) q) ((i : Int),(j : Int),d.toList) = some (((Sort.partLoop lt a i j d).1 : Int),(Sort.partLoop lt a i j d).2.toList)∧AllP n P (Sort.partLoop lt a i j d).2∧(Sort.partLoop lt a i j d).1 < n:=by
  intro m
  induction m using Nat.strongRecOn with
  | _ m ih=>
    intro i j d hm hd hi y v;have z:=hd.1;have hn:=hd.2.1;rw [Sort.partLoop_eq];have p:=qfp (f:=Jf ((i : Int),(j : Int),d.toList) (a : Int) q) (fun x=>lt x d[a]!) d j (fun k l=>qkl u hd s v _ k l) q0 _ i rfl q0;have g1:=Sort.scanUp_ge (fun x=>lt x d[a]!) d j i;have u1:=(Sort.scanUp_spec (fun x=>lt x d[a]!) d j _ i rfl).2.1;generalize Sort.scanUp (fun x=>lt x d[a]!) d j i = c at p g1 u1 ⊢;have o:=qbs (f:=Jg (c : Int) ((i : Int),(j : Int),d.toList) (a : Int) q) (fun x=>!lt x d[a]!) d c n q0 (fun k l=>qkm u hd s q0 _ _ k l) j v;have g2:=Sort.scanDown_le (fun x=>!lt x d[a]!) d c j;generalize Sort.scanDown (fun x=>!lt x d[a]!) d c j = g at o g2 ⊢;by_cases r : c > g
    · rw [qs r];have t : decide ((c : Int) > (g : Int)) = true:=Q9 q0;refine ⟨Kg ?_,hd,by show g < n;omega⟩;simp only [q1e,p,o,qh,t,Q2]
    · rw [qx r];have t : decide ((c : Int) > (g : Int)) = false:=Qb q0;have h:=ih ((g - 1) + 1 - (c + 1)) q0 (c + 1) (g - 1) _ rfl (hd.swp (a:=c) (b:=g) q0 q0) q0 q0 q0;refine ⟨?_,h.2⟩;rw [Ke (a':=(((c + 1 : Nat) : Int),((g - 1 : Nat) : Int),(Sort.swp d c g).toList)) ?_]
      · exact h.1
      · have w : w64 ((g : Int) - 1) = ((g - 1 : Nat) : Int):=by rw [Q5 q0];omega
        simp only [q1e,p,o,qh,t,Q1,gx (d:=d) (k:=c) q0,gx (d:=d) (k:=g) q0,gxs (d:=d) (k:=g) q0,Int.toNat_natCast,gswp,w,w1p c q0]
theorem qtg (s : Kz q lt P) (a n : Nat) (r : a < n) : ∀ (m i j : Nat) (d : Array T),j + 1 - i = m→AllP n P d→1≤i→i≤n + 1→j < n→
    loop (q1d (a : Int) q) ((i : Int),(j : Int),d.toList) = some (((Sort.partEqLoop lt a i j d).1 : Int),(Sort.partEqLoop lt a i j d).2.toList):=by
  intro m
  induction m using Nat.strongRecOn with
  | _ m ih=>
    intro i j d hm hd hi v u;have y:=hd.1;have hn:=hd.2.1;rw [Sort.partEqLoop_eq];have o:=qfp (f:=Un ((i : Int),(j : Int),d.toList) (a : Int) q) (fun x=>!lt d[a]! x) d j (fun k h=>qtn s hd r u _ k h) q0 _ i rfl q0;have g1:=Sort.scanUp_ge (fun x=>!lt d[a]! x) d j i;have u1:=(Sort.scanUp_spec (fun x=>!lt d[a]! x) d j _ i rfl).2.1;generalize Sort.scanUp (fun x=>!lt d[a]! x) d j i = c at o g1 u1 ⊢;have l:=qbs (f:=Uo (c : Int) ((i : Int),(j : Int),d.toList) (a : Int) q) (fun x=>lt d[a]! x) d c n q0 (fun k h=>qto s hd r q0 _ _ k h) j u;have z:=Sort.scanDown_le (fun x=>lt d[a]! x) d c j;generalize Sort.scanDown (fun x=>lt d[a]! x) d c j = g at l z ⊢;by_cases p : c > g
    · rw [qs p];have t : decide ((c : Int) > (g : Int)) = true:=Q9 q0;refine Kg ?_;simp only [q1d,o,l,qh,t,Q2]
    · rw [qx p];have t : decide ((c : Int) > (g : Int)) = false:=Qb q0;rw [Ke (a':=(((c + 1 : Nat) : Int),((g - 1 : Nat) : Int),(Sort.swp d c g).toList)) ?_]
      · exact ih ((g - 1) + 1 - (c + 1)) q0 (c + 1) (g - 1) _ rfl (hd.swp (a:=c) (b:=g) q0 q0) q0 q0 q0
      · have w : w64 ((g : Int) - 1) = ((g - 1 : Nat) : Int):=by rw [Q5 q0];omega
        simp only [q1d,o,l,qh,t,Q1,gx (d:=d) (k:=c) q0,gx (d:=d) (k:=g) q0,gxs (d:=d) (k:=g) q0,Int.toNat_natCast,gswp,w,w1p c q0]
theorem qtj (g : Kz q lt P) {a b n p : Nat} (hb : b≤n) (c : a < b) (hp : p < n) {d : Array T} (hd : AllP n P d) :
    q1c q d.toList (a : Int) (b : Int) (p : Int) = some (((Sort.partitionEqual lt d a b p).1 : Int),(Sort.partitionEqual lt d a b p).2.toList):=by
  have f:=hd.1;have h:=hd.2.1;have w : w64 ((b : Int) - 1) = ((b - 1 : Nat) : Int):=by rw [Q5 q0];omega
  have s:=qtg g a n q0 _ (a + 1) (b - 1) _ rfl (hd.swp (a:=a) (b:=p) q0 hp) q0 q0 q0;unfold q1c Sort.partitionEqual;simp only [gx (d:=d) (k:=p) q0,gx (d:=d) (k:=a) q0,gxs (d:=d) (k:=p) q0,qh,Int.toNat_natCast,gswp,w,w1p a q0,s]
theorem qtk (l : Kz q lt P) {a b n p : Nat} (hb : b≤n) (ag : a < b) (hp : p < n) {d : Array T} (hd : AllP n P d) :
    q1b q d.toList (a : Int) (b : Int) (p : Int) = some (((Sort.partition lt d a b p).1 : Int),(Sort.partition lt d a b p).2.1,(Sort.partition lt d a b p).2.2.toList):=by
  have ad:=hd.1;have hn:=hd.2.1;have w : w64 ((b : Int) - 1) = ((b - 1 : Nat) : Int):=by rw [Q5 q0];omega
  have h:=hd.swp (a:=a) (b:=p) q0 hp
  have e1 : q2c (b : Int) d.toList (a : Int) d[p]! (p : Int) d[a]! q = Jf ((0 : Int),((b - 1 : Nat) : Int),(Sort.swp d a p).toList) (a : Int) q:=by
    funext k;simp only [q2c,Jf,w,Int.toNat_natCast,gswp]
  have e2 : ∀ c : Int,q2d c d.toList (a : Int) d[p]! (p : Int) d[a]! q = Jg c ((0 : Int),(0 : Int),(Sort.swp d a p).toList) (a : Int) q:=by
    intro c;funext k;simp only [q2d,Jg,Int.toNat_natCast,gswp]
  unfold q1b Sort.partition;simp only [gx (d:=d) (k:=p) q0,gx (d:=d) (k:=a) q0,gxs (d:=d) (k:=p) q0,qh,e1,e2,Int.toNat_natCast,gswp,w,w1p a q0];generalize Sort.swp d a p = D at h ⊢;have z:=h.1;have s:=qfp (f:=Jf ((0 : Int),((b - 1 : Nat) : Int),D.toList) (a : Int) q) (fun x=>lt x D[a]!) D (b - 1) (fun k j=>qkl l h q0 q0 _ k j) q0 _ (a + 1) rfl q0;have g1:=Sort.scanUp_ge (fun x=>lt x D[a]!) D (b - 1) (a + 1);generalize Sort.scanUp (fun x=>lt x D[a]!) D (b - 1) (a + 1) = c at s g1 ⊢;have r:=qbs (f:=Jg (c : Int) ((0 : Int),(0 : Int),D.toList) (a : Int) q) (fun x=>!lt x D[a]!) D c n q0 (fun k j=>qkm l h q0 q0 _ _ k j) (b - 1) q0;have g2:=Sort.scanDown_le (fun x=>!lt x D[a]!) D c (b - 1);generalize Sort.scanDown (fun x=>!lt x D[a]!) D c (b - 1) = g at r g2 ⊢;simp only [s,r,qh];by_cases o : c > g
  · have t : decide ((c : Int) > (g : Int)) = true:=Q9 q0;simp only [qs o,t,Q2,gx (d:=D) (k:=a) q0,gx (d:=D) (k:=g) q0,gxs (d:=D) (k:=a) q0,qh,Int.toNat_natCast,gswp]
  · have t : decide ((c : Int) > (g : Int)) = false:=Qb q0;have y : w64 ((g : Int) - 1) = ((g - 1 : Nat) : Int):=by rw [Q5 q0];omega
    obtain ⟨s3,m,u⟩:=qth l a n q0 _ (c + 1) (g - 1) _ rfl (h.swp (a:=c) (b:=g) q0 q0) q0 q0 q0;simp only [qx o,t,Q1,gx (d:=D) (k:=c) q0,gx (d:=D) (k:=g) q0,gxs (d:=D) (k:=g) q0,qh,Int.toNat_natCast,gswp,y,w1p c q0,s3];generalize Sort.partLoop lt a (c + 1) (g - 1) (Sort.swp D c g) = R at m u ⊢;have v:=m.1;simp only [gx (d:=R.2) (k:=a) q0,gx (d:=R.2) (k:=R.1) q0,gxs (d:=R.2) (k:=a) q0,qh,gswp]
theorem qv2 (o : Kz q lt P) {b n : Nat} (hb : b≤n) {d : Array T} (hd : AllP n P d) (x y : Int) : ∀ (m i : Nat),b - i = m→1≤i→i≤b→
    loop (Uk (b : Int) (x,y,d.toList) q) (i : Int) = some ((Sort.scanSorted lt d b i : Nat) : Int)∧i≤Sort.scanSorted lt d b i∧Sort.scanSorted lt d b i≤b:=by
  have j:=hd.1;have p:=hd.2.1;intro m
  induction m with
  | zero=>
    intro i l hi a;unfold Sort.scanSorted;rw [qx (by simp;omega)];have t : decide ((i : Int) < (b : Int)) = false:=Qb q0;exact ⟨Kg (by simp only [Uk,t,Q1,qh]),Nat.le_refl _,a⟩
  | succ m ih=>
    intro i l hi a;unfold Sort.scanSorted;have t : decide ((i : Int) < (b : Int)) = true:=Q9 q0;have w : w64 ((i : Int) - 1) = ((i - 1 : Nat) : Int):=by rw [Q5 q0];omega
    obtain ⟨r,g,h⟩:=o d[i]! d[i - 1]! (hd.2.2 _ q0) (hd.2.2 _ q0);by_cases c : lt d[i]! d[i - 1]! = true
    · rw [qx (by simp [c])];refine ⟨Kg ?_,Nat.le_refl _,a⟩;simp only [Uk,t,Q2,w,gx (d:=d) (k:=i) q0,gx (d:=d) (k:=i - 1) q0,qh,g,h,c,Bool.not_true,Q1]
    · have c : lt d[i]! d[i - 1]! = false:=by simpa using c
      rw [qs (by simp [c];omega)];have f:=ih (i + 1) q0 q0 q0;refine ⟨?_,q0,f.2.2⟩;rw [Ke (a':=((i + 1 : Nat) : Int)) ?_]
      · exact f.1
      · simp only [Uk,t,Q2,w,gx (d:=d) (k:=i) q0,gx (d:=d) (k:=i - 1) q0,qh,g,h,c,Bool.not_false,w1p i q0]
theorem qlo (l : Kz q lt P) (n : Nat) : ∀ (j : Nat) (d : Array T),AllP n P d→j < n→loop (Ul q) ((j : Int),d.toList) = some (Sort.shiftDown lt j d).toList∧AllP n P (Sort.shiftDown lt j d)
  | 0,d,hd,hj=>by
    have t : decide (((0 : Nat) : Int) ≥ 1) = false:=Qb q0
    exact ⟨Kg (by simp only [Ul,t,Q1];rfl),hd⟩
  | j + 1,d,hd,hj=>by
    have m:=hd.1
    have o:=hd.2.1
    have t : decide (((j + 1 : Nat) : Int) ≥ 1) = true:=Q9 q0
    obtain ⟨r,f,h⟩:=l d[j + 1]! d[j]! (hd.2.2 _ hj) (hd.2.2 _ q0)
    unfold Sort.shiftDown
    by_cases c : lt d[j + 1]! d[j]! = true
    · rw [qx (by simp [c])]
      have g:=qlo l n j _ (hd.swp (a:=j + 1) (b:=j) hj q0) q0
      refine ⟨?_,g.2⟩
      rw [Ke (a':=((j : Int),(Sort.swp d (j + 1) j).toList)) ?_]
      · exact g.1
      · simp only [Ul,t,Q2,gx (d:=d) (k:=j + 1) q0,w1m j q0,gx (d:=d) (k:=j) q0,gxs (d:=d) (k:=j) q0,qh,f,h,c,Bool.not_true,Q1,Int.toNat_natCast,gswp]
    · have c : lt d[j + 1]! d[j]! = false:=by simpa using c
      rw [qs (by simp [c])]
      refine ⟨Kg ?_,hd⟩
      simp only [Ul,t,Q2,gx (d:=d) (k:=j + 1) q0,w1m j q0,gx (d:=d) (k:=j) q0,qh,f,h,c,Bool.not_false]
theorem qlq (s : Kz q lt P) {b n : Nat} (hb : b≤n) (c : Int) : ∀ (m j : Nat) (d : Array T),b - j = m→AllP n P d→1≤j→loop (Um (b : Int) q c) ((j : Int),d.toList) = some (c,(Sort.shiftUp lt b j d).toList)∧AllP n P (Sort.shiftUp lt b j d):=by
  intro m
  induction m with
  | zero=>
    intro j d p hd u;unfold Sort.shiftUp;rw [qx q0];have t : decide ((j : Int) < (b : Int)) = false:=Qb q0;exact ⟨Kg (by simp only [Um,t,Q1]),hd⟩
  | succ m ih=>
    intro j d p hd u;have o:=hd.1;have v:=hd.2.1;unfold Sort.shiftUp;rw [qs q0];have t : decide ((j : Int) < (b : Int)) = true:=Q9 q0;have w : w64 ((j : Int) - 1) = ((j - 1 : Nat) : Int):=by rw [Q5 q0];omega
    obtain ⟨r,h,l⟩:=s d[j]! d[j - 1]! (hd.2.2 _ q0) (hd.2.2 _ q0);by_cases f : lt d[j]! d[j - 1]! = true
    · rw [qx (by simp [f])];have g:=ih (j + 1) _ q0 (hd.swp (a:=j) (b:=j - 1) q0 q0) q0;refine ⟨?_,g.2⟩;rw [Ke (a':=(((j + 1 : Nat) : Int),(Sort.swp d j (j - 1)).toList)) ?_]
      · exact g.1
      · simp only [Um,t,Q2,w,gx (d:=d) (k:=j) q0,gx (d:=d) (k:=j - 1) q0,gxs (d:=d) (k:=j - 1) q0,qh,h,l,f,Bool.not_true,Q1,Int.toNat_natCast,gswp,w1p j q0]
    · have f : lt d[j]! d[j - 1]! = false:=by simpa using f
      rw [qs (by simp [f])];refine ⟨Kg ?_,hd⟩;simp only [Um,t,Q2,w,gx (d:=d) (k:=j) q0,gx (d:=d) (k:=j - 1) q0,qh,h,l,f,Bool.not_false]
theorem qko (o : Kz q lt P) {a b n : Nat} (hb : b≤n) : ∀ (s i : Nat) (d : Array T),s≤5→AllP n P d→a < i→i≤b→
    ∃ m,loop (J6 (b : Int) q (a : Int)) ((i : Int),((5 - s : Nat) : Int),d.toList) = some m∧(match m with | .inl b441=>some (false,b441) | .inr x1=>some x1) = some ((Sort.partialIns lt a b s i d).2,(Sort.partialIns lt a b s i d).1.toList)
  | 0,i,d,hs,hd,hi,hib=>by
    have t : decide (((5 - 0 : Nat) : Int) < 5) = false:=Qb q0
    refine ⟨.inl d.toList,Kg (by simp only [J6,t,Q1]),rfl⟩
  | s + 1,i,d,hs,hd,hi,hib=>by
    have ah:=hd.1
    have hn:=hd.2.1
    have t : decide (((5 - (s + 1) : Nat) : Int) < 5) = true:=Q9 q0
    rw [Sort.partialIns_succ]
    obtain ⟨p,l1,z⟩:=qv2 o hb hd (i : Int) ((5 - (s + 1) : Nat) : Int) _ i rfl q0 hib
    generalize Sort.scanSorted lt d b i = k at p l1 z ⊢
    by_cases hk : k = b
    · subst hk
      rw [qs rfl]
      refine ⟨.inr (true,d.toList),Kg ?_,rfl⟩
      simp only [J6,t,Q2,p,qh,beq_self_eq_true]
    · rw [qx hk]
      have tk : ((k : Int) == (b : Int)) = false:=by simp;omega
      have w : w64 ((b : Int) - (a : Int)) = ((b - a : Nat) : Int):=wsub q0 q0
      by_cases j : b - a < 50
      · rw [qs j]
        have f : decide (((b - a : Nat) : Int) < 50) = true:=Q9 q0
        refine ⟨.inr (false,d.toList),Kg ?_,rfl⟩
        simp only [J6,t,Q2,p,qh,tk,Q1,w,f]
      · rw [qx j]
        have f : decide (((b - a : Nat) : Int) < 50) = false:=Qb q0
        have wk : w64 ((k : Int) - 1) = ((k - 1 : Nat) : Int):=by rw [Q5 q0];omega
        have wa : w64 ((k : Int) - (a : Int)) = ((k - a : Nat) : Int):=wsub q0 q0
        have wb : w64 ((b : Int) - (k : Int)) = ((b - k : Nat) : Int):=wsub q0 q0
        have h:=hd.swp (a:=k) (b:=k - 1) q0 q0
        have down : (cond (decide (((k - a : Nat) : Int) ≥ 2)) ((loop (Ul q) (((k - 1 : Nat) : Int),(Sort.swp d k (k - 1)).toList)).bind fun x0=>some x0) (some (Sort.swp d k (k - 1)).toList)) = some (Sort.fixDown lt a k (Sort.swp d k (k - 1))).toList∧AllP n P (Sort.fixDown lt a k (Sort.swp d k (k - 1))):=by
          unfold Sort.fixDown;by_cases l : k - a ≥ 2
          · have g : decide (((k - a : Nat) : Int) ≥ 2) = true:=Q9 q0;obtain ⟨x,y⟩:=qlo o n (k - 1) _ h q0;rw [qs l,g,Q2,x];exact ⟨rfl,y⟩
          · have g : decide (((k - a : Nat) : Int) ≥ 2) = false:=Qb q0;rw [qx l,g,Q1];exact ⟨rfl,h⟩
        obtain ⟨dn,c⟩:=down
        have v : AllP n P (Sort.fixUp lt b k (Sort.fixDown lt a k (Sort.swp d k (k - 1)))):=by
          unfold Sort.fixUp;split
          · exact (qlq o hb 0 _ (k + 1) _ rfl c q0).2
          · exact c
        obtain ⟨m,u,r⟩:=qko (a:=a) o hb s k _ q0 v q0 z
        refine ⟨m,?_,r⟩
        rw [Ke (a':=((k : Int),((5 - s : Nat) : Int),(Sort.fixUp lt b k (Sort.fixDown lt a k (Sort.swp d k (k - 1)))).toList)) ?_]
        · exact u
        · have w5 : w64 (((5 - (s + 1) : Nat) : Int) + 1) = ((5 - s : Nat) : Int):=by rw [Q5 q0];omega
          simp only [J6,t,Q2,p,qh,tk,Q1,w,f,wk,gx (d:=d) (k:=k) q0,gx (d:=d) (k:=k - 1) q0,gxs (d:=d) (k:=k - 1) q0,Int.toNat_natCast,gswp,wa,dn,wb,w1p k q0]
          unfold Sort.fixUp
          by_cases l : b - k ≥ 2
          · have g : decide (((b - k : Nat) : Int) ≥ 2) = true:=Q9 q0
            obtain ⟨x,y⟩:=qlq o hb (k : Int) _ (k + 1) _ rfl c q0
            rw [qs l,g,Q2,x]
            simp only [qh,w5]
          · have g : decide (((b - k : Nat) : Int) ≥ 2) = false:=Qb q0
            rw [qx l,g,Q1]
            simp only [qh,w5]
theorem qti (g : Kz q lt P) {a b n : Nat} (hb : b≤n) (f : a < b) {d : Array T} (hd : AllP n P d) :
    U8 q d.toList (a : Int) (b : Int) = some ((Sort.partialInsertionSort lt d a b).2,(Sort.partialInsertionSort lt d a b).1.toList):=by
  have j:=hd.2.1;obtain ⟨m,c,h⟩:=qko (a:=a) g hb 5 (a + 1) d q0 hd q0 q0;have c : loop (J6 (b : Int) q (a : Int)) (((a + 1 : Nat) : Int),0,d.toList) = some m:=c;unfold U8 Sort.partialInsertionSort;rw [w1p a q0,c];exact h
end
end Go.Sh
namespace Go.Sh
open Go Go.Am
theorem qjn {α β : Type} {f : α→Option (α ⊕ β)} {a : α} (h : f a = none) : loop f a = none:=by
  apply Option.ext;intro b;rw [q83];constructor
  · rintro ⟨n,c⟩
    cases n with
    | zero=>simp [iter] at c
    | succ n=>simp [iter,h] at c
  · intro h;cases h
section
variable {T : Type} [Inhabited T] {P : T→Prop} {lt : T→T→Bool} {q : T→T→Option Int}
def Srt (lt : T→T→Bool) (a b : Nat) (d : Array T) (o : Option (List T)) : Prop:=∃ d' : Array T,o = some d'.toList∧Sort.PermIn a b d d'∧Sort.SortedIn lt a b d'
theorem qtm (hq : Kz q lt P) (hS : Sort.SWO lt) {n N : Nat} (ae : List T→Int→Int→Int→Option (List T))
    (au : ∀ (a b f : Nat) (d : Array T),AllP n P d→a≤b→b≤n→f≤1000→Sort.Below lt a b d→Srt lt a b d (ae d.toList (a : Int) (b : Int) (f : Int))∨(N≤b - a∧ae d.toList (a : Int) (b : Int) (f : Int) = none)) :
    ∀ (m a b f : Nat) (wb wp : Bool) (d : Array T),b - a = m→AllP n P d→a≤b→b≤n→f≤1000→Sort.Below lt a b d→
      Srt lt a b d (loop (Zq q ae) ((a : Int),(b : Int),(f : Int),wb,wp,d.toList))∨(N + 1≤b - a∧loop (Zq q ae) ((a : Int),(b : Int),(f : Int),wb,wp,d.toList) = none):=by
  intro m
  induction m using Nat.strongRecOn with
  | _ m ih=>
    intro a b f wb wp d hm hd o hb hl hB;have dj:=hd.1;have hn:=hd.2.1;have e0 : w64 ((b : Int) - (a : Int)) = ((b - a : Nat) : Int):=wsub o q0;by_cases dd : b - a≤12
    ·
      have t : decide (((b - a : Nat) : Int)≤12) = true:=Q9 q0;obtain ⟨x,y⟩:=Sort.insertionSort_holds (lt:=lt) hS d a b o q0;have s:=qr1 hq hb o hd;refine .inl ⟨_,Kg ?_,x,y⟩;simp only [Zq,e0,t,Q2,s,qh,Ua hd (hd.perm o hb x)]
    have bl : decide (((b - a : Nat) : Int)≤12) = false:=Qb q0;by_cases h0 : f = 0
    ·
      have t : ((f : Int) == 0) = true:=by simp [h0]
      obtain ⟨x,y⟩:=Sort.heapSort_holds (lt:=lt) hS d a b o q0;have s:=qqs hq hb (by omega : a < b) hd;refine .inl ⟨_,Kg ?_,x,y⟩;simp only [Zq,e0,bl,Q1,t,Q2,s,qh,Ua hd (hd.perm o hb x)]
    have t0 : ((f : Int) == 0) = false:=by simp [h0]
    have hA : ∃ (l1 : Nat) (d1 : Array T),(cond (!wb) ((q17 q d.toList (a : Int) (b : Int)).bind fun bb=>(Qu bb.length d.toList.length).bind fun cv=>some (w64 ((f : Int) - 1),bb)) (some ((f : Int),d.toList))) = some ((l1 : Int),d1.toList)∧l1≤1000∧AllP n P d1∧Sort.PermIn a b d d1:=by
      cases wb with
      | true=>exact ⟨f,d,rfl,hl,hd,Sort.permIn_refl _ _ _⟩
      | false=>
        have x:=Sort.breakPatterns_holds d a b o q0;have z:=hd.perm o hb x;have w : w64 ((f : Int) - 1) = ((f - 1 : Nat) : Int):=by rw [Q5 q0];omega
        refine ⟨f - 1,_,?_,q0,z,x⟩;simp only [Bool.not_false,Q2,qnx (q:=q) hb (by omega : a < b) hd,qh,Ua hd z,w]
    obtain ⟨l1,d1,eA,ao,z,p1⟩:=hA;have hC:=qox hq z (by omega : a < b) hb;obtain ⟨c1,c2⟩:=Sort.choosePivot_holds lt d1 a b q0;generalize (Sort.choosePivot lt d1 a b).1 = c at hC c1 c2;generalize qeb (Sort.choosePivot lt d1 a b).2 = h at hC
    have hR : ∃ (p : Nat) (h2 : Int) (d2 : Array T),(cond (h == 2) ((q1f q d1.toList (a : Int) (b : Int)).bind fun ba=>(Qu ba.length d1.toList.length).bind fun cu=>some (w64 ((w64 ((b : Int) - 1)) - (w64 ((c : Int) - (a : Int)))),(1 : Int),ba)) (some ((c : Int),h,d1.toList))) = some ((p : Int),h2,d2.toList)∧a≤p∧p < b∧AllP n P d2∧Sort.PermIn a b d1 d2:=by
      cases hh : (h == 2) with
      | false=>exact ⟨c,h,d1,rfl,c1,c2,z,Sort.permIn_refl _ _ _⟩
      | true=>
        have x:=Sort.reverseRange_holds d1 a b o (by rw [z.1];exact hb);have ac:=z.perm o hb x;have w1 : w64 ((b : Int) - 1) = ((b - 1 : Nat) : Int):=by rw [Q5 q0];omega
        have w2 : w64 ((c : Int) - (a : Int)) = ((c - a : Nat) : Int):=wsub c1 q0;have w3 : w64 (((b - 1 : Nat) : Int) - ((c - a : Nat) : Int)) = ((b - 1 - (c - a) : Nat) : Int):=wsub q0 q0;refine ⟨b - 1 - (c - a),1,_,?_,q0,q0,ac,x⟩;simp only [Q2,quw (q:=q) hb (by omega : a < b) z,qh,Ua z ac,w1,w2,w3]
    obtain ⟨p,h2,d2,eR,hp1,hp2,ac,p2⟩:=hR;have bq : Sort.Below lt a b d2:=(hB.perm q0 p1).perm (by rw [z.1];exact hb) p2;have bs:=Sort.permIn_trans _ _ _ a b p1 p2
    have hP : ∀ cc : Bool,∃ ab : (List T) ⊕ (List T),(cond cc ((U8 q d2.toList (a : Int) (b : Int)).bind fun ag=>(Qu ag.2.length d2.toList.length).bind fun cz=>cond ag.1 (some (.inr ag.2)) (some (.inl ag.2))) (some (.inl d2.toList)) : Option ((List T) ⊕ (List T))) = some ab∧
        ((∃ l : Array T,ab = .inr l.toList∧Sort.PermIn a b d2 l∧Sort.SortedIn lt a b l)∨(∃ l : Array T,ab = .inl l.toList∧AllP n P l∧Sort.PermIn a b d2 l)):=by
      intro cc
      cases cc with
      | false=>exact ⟨_,rfl,.inr ⟨d2,rfl,ac,Sort.permIn_refl _ _ _⟩⟩
      | true=>
        obtain ⟨x,y⟩:=Sort.partialInsertionSort_holds (lt:=lt) hS d2 a b q0 (by rw [ac.1];exact hb) bq;have u:=ac.perm o hb x;have s:=qti hq hb (by omega : a < b) ac;simp only [Q2,s,qh,Ua ac u]
        cases hz : (Sort.partialInsertionSort lt d2 a b).2 with
        | true=>exact ⟨_,rfl,.inl ⟨_,rfl,x,y hz⟩⟩
        | false=>exact ⟨_,rfl,.inr ⟨_,rfl,u,x⟩⟩
    obtain ⟨ab,eP,bp⟩:=hP (wb && wp && (h2 == 1))
    have ch : ∀ {γ : Type} (X : Bool→Option γ),((cond wb (some wp) (some false)).bind fun bn=>(cond bn (some (h2 == 1)) (some false)).bind X) = X (wb && wp && (h2 == 1)):=by
      intro γ X;cases wb <;> cases wp <;> rfl
    have head : Zq q ae ((a : Int),(b : Int),(f : Int),wb,wp,d.toList) = (match (generalizing:=false) ab with | .inl b377=>(cond (decide ((a : Int) > 0)) ((idx b377 (w64 ((a : Int) - 1))).bind fun av=>(idx b377 (p : Int)).bind fun an=>(q av an).bind fun am=>some (!(decide (am < 0)))) (some false)).bind fun bv=>cond bv ((q1c q b377 (a : Int) (b : Int) (p : Int)).bind fun aq=>(Qu aq.2.length b377.length).bind fun cy=>some (.inl (aq.1,(b : Int),(l1 : Int),wb,wp,aq.2))) ((q1b q b377 (a : Int) (b : Int) (p : Int)).bind fun g=>(Qu g.2.2.length b377.length).bind fun cx=>cond (decide ((w64 (g.1 - (a : Int))) < (w64 ((b : Int) - g.1)))) ((ae g.2.2 (a : Int) g.1 (l1 : Int)).bind fun be=>(Qu be.length g.2.2.length).bind fun dc=>some (.inl (w64 (g.1 + 1),(b : Int),(l1 : Int),decide ((w64 (g.1 - (a : Int))) ≥ (w64 (Int.tdiv ((b - a : Nat) : Int) 8))),g.2.1,be))) ((ae g.2.2 (w64 (g.1 + 1)) (b : Int) (l1 : Int)).bind fun az=>(Qu az.length g.2.2.length).bind fun cq=>some (.inl ((a : Int),g.1,(l1 : Int),decide ((w64 ((b : Int) - g.1)) ≥ (w64 (Int.tdiv ((b - a : Nat) : Int) 8))),g.2.1,az)))) | .inr x1=>some (.inr x1)):=by
      simp only [Zq,e0,bl,Q1,t0,eA,qh,hC,eR,ch,eP]
      clear eP bp hP au ih
      cases ab <;> rfl
    rcases bp with ⟨l,rfl,x,y⟩ | ⟨l,rfl,u,p3⟩
    · refine .inl ⟨l,Kg ?_,Sort.permIn_trans _ _ _ a b bs x,y⟩;rw [head]
    have ax:=u.1;have P3:=Sort.permIn_trans _ _ _ a b bs p3;have B3 : Sort.Below lt a b l:=bq.perm (by rw [ac.1];exact hb) p3
    have bj : (cond (decide ((a : Int) > 0)) ((idx l.toList (w64 ((a : Int) - 1))).bind fun av=>(idx l.toList (p : Int)).bind fun an=>(q av an).bind fun am=>some (!(decide (am < 0)))) (some false)) = some (decide (a > 0) && !lt l[a - 1]! l[p]!):=by
      by_cases ha : a > 0
      · have ta : decide ((a : Int) > 0) = true:=Q9 q0;have w : w64 ((a : Int) - 1) = ((a - 1 : Nat) : Int):=by rw [Q5 q0];omega
        obtain ⟨r,h1,h2⟩:=hq l[a - 1]! l[p]! (u.2.2 _ q0) (u.2.2 _ q0);simp only [ta,Q2,w,gx (d:=l) (k:=a - 1) q0,gx (d:=l) (k:=p) q0,qh,h1,h2,Q9 ha,Bool.true_and]
      · have ta : decide ((a : Int) > 0) = false:=Qb q0;simp only [ta,Q1,Qb ha,Bool.false_and]
    simp only [bj,qh] at head;by_cases hc : (decide (a > 0) && !lt l[a - 1]! l[p]!) = true
    ·
      rw [hc] at head;have s:=qtj hq hb (by omega : a < b) (by omega : p < n) u;simp only [Bool.and_eq_true,decide_eq_true_eq,Bool.not_eq_true'] at hc
      cases hx : Sort.partitionEqual lt l a b p with
      | mk j d4=>
        obtain ⟨g1,g2,bx,co,ad⟩:=Sort.round_eq hS (Sort.partitionEqual_holds lt) hc.1 hp1 hp2 (by rw [ax];exact hb) B3 hc.2 hx
        have cd : ∀ i,a≤i→i < b→lt l[i]! l[p]! = false:=fun i hi cf=>by
          rcases B3 with h0 | hB
          · omega
          · exact hS.ntrans _ _ _ (hB i hi cf) hc.2
        obtain ⟨_,_,v,_,_⟩:=Sort.partitionEqual_holds lt hS l a b p hp1 hp2 (by rw [ax];exact hb) cd;rw [hx] at v s;have aa:=u.perm o hb v;simp only [Q2,s,qh,Ua u aa] at head;rw [Ke head];rcases ih (b - j) q0 j b l1 wb wp d4 rfl aa g2 hb ao co with ⟨R,r0,r1,r2⟩ | ⟨r1,r2⟩
        · obtain ⟨q1,q2⟩:=ad _ r1 r2;exact .inl ⟨R,r0,Sort.permIn_trans _ _ _ a b P3 q1,q2⟩
        · exact .inr ⟨q0,r2⟩
    ·
      have hc : (decide (a > 0) && !lt l[a - 1]! l[p]!) = false:=by simpa using hc
      rw [hc] at head;have s:=qtk hq hb (by omega : a < b) (by omega : p < n) u
      cases hx : Sort.partition lt l a b p with
      | mk j r=>
      cases r with
      | mk ap d4=>
        obtain ⟨g1,g2,bx,ci,cn,bg,ay⟩:=Sort.round_part hS (Sort.partition_holds lt) hp1 hp2 (by rw [ax];exact hb) B3 hx;obtain ⟨_,_,v,_,_⟩:=Sort.partition_holds lt hS l a b p hp1 hp2 (by rw [ax];exact hb);rw [hx] at v s;have aa:=u.perm o hb v;have w1 : w64 ((j : Int) - (a : Int)) = ((j - a : Nat) : Int):=wsub g1 q0;have w2 : w64 ((b : Int) - (j : Int)) = ((b - j : Nat) : Int):=wsub q0 q0;simp only [Q1,s,qh,Ua u aa,w1,w2,w1p j q0] at head;by_cases de : j - a < b - j
        · have tl : decide (((j - a : Nat) : Int) < ((b - j : Nat) : Int)) = true:=Q9 q0;simp only [tl,Q2] at head;rcases au a j l1 d4 aa g1 q0 ao ci with ⟨L,e,al,bh⟩ | ⟨r1,r2⟩
          · have ar:=aa.perm g1 q0 al;obtain ⟨bi,ad⟩:=bg _ al bh;simp only [e,qh,Ua aa ar] at head;rw [Ke head];rcases ih (b - (j + 1)) q0 (j + 1) b l1 _ _ L rfl ar q0 hb ao bi with ⟨R,r0,r1,r2⟩ | ⟨r1,r2⟩
            · obtain ⟨q1,q2⟩:=ad _ r1 r2;exact .inl ⟨R,r0,Sort.permIn_trans _ _ _ a b P3 q1,q2⟩
            · exact .inr ⟨q0,r2⟩
          · simp only [r2,Option.bind_none] at head;exact .inr ⟨q0,qjn head⟩
        · have tl : decide (((j - a : Nat) : Int) < ((b - j : Nat) : Int)) = false:=Qb q0;simp only [tl,Q1] at head;rcases au (j + 1) b l1 d4 aa q0 hb ao cn with ⟨L,e,al,bh⟩ | ⟨r1,r2⟩
          · have ar:=aa.perm (by omega : j + 1≤b) hb al;obtain ⟨bi,ad⟩:=ay _ al bh;simp only [e,qh,Ua aa ar] at head;rw [Ke head];rcases ih (j - a) q0 a j l1 _ _ L rfl ar g1 q0 ao bi with ⟨R,r0,r1,r2⟩ | ⟨r1,r2⟩
            · obtain ⟨q1,q2⟩:=ad _ r1 r2;exact .inl ⟨R,r0,Sort.permIn_trans _ _ _ a b P3 q1,q2⟩
            · exact .inr ⟨q0,r2⟩
          · simp only [r2,Option.bind_none] at head;exact .inr ⟨q0,qjn head⟩
theorem qkp (g : Kz q lt P) (f : Sort.SWO lt) {n : Nat} : ∀ (N a b c : Nat) (d : Array T),AllP n P d→a≤b→b≤n→c≤1000→Sort.Below lt a b d→
    Srt lt a b d (Zh N q d.toList (a : Int) (b : Int) (c : Int))∨(N≤b - a∧Zh N q d.toList (a : Int) (b : Int) (c : Int) = none)
  | 0,a,b,c,d,_,_,_,_,_=>.inr ⟨q0,rfl⟩
  | N + 1,a,b,c,d,hd,hab,hb,hl,hB=>by
    have h:=qtm g f (N:=N) (Zh N q) (fun a b c d j m k o l=>qkp g f N a b c d j m k o l) _ a b c true true d rfl hd hab hb hl hB
    have e : Zh (N + 1) q d.toList (a : Int) (b : Int) (c : Int) = loop (Zq q (Zh N q)) ((a : Int),(b : Int),(c : Int),true,true,d.toList):=by
      show Up (Zh N q) q d.toList (a : Int) (b : Int) (c : Int) = _;unfold Up;cases loop (Zq q (Zh N q)) ((a : Int),(b : Int),(c : Int),true,true,d.toList) <;> rfl
    rw [e]
    exact h
theorem qma (v : Kz q lt P) (t : Sort.SWO lt) (xs : List T) (o : xs.length≤1000000) (p : ∀ x∈xs,P x) :
    ∃ ys,q27 q xs = some ys∧ys.Perm xs∧ys.Pairwise (fun x y=>lt y x = false):=by
  have hd : AllP xs.length P xs.toArray:=by
    refine ⟨qe,o,fun i hi=>?_⟩;have : xs.toArray[i]! = xs[i]:=by simp [hi]
    rw [this];exact p _ (Y5 hi)
  have hk : Sort.bitsLen xs.length≤20:=(Sort.bitsLen_le_iff _ 20).2 q0;have c : ∀ N,_:=fun N=>qkp v t N 0 xs.length (Sort.bitsLen xs.length) xs.toArray hd q0 q0 q0 (.inl rfl);have s:=c (xs.length + 1);rcases s with ⟨d',e,_,_⟩ | ⟨h,_⟩
  · obtain ⟨r,n⟩:=qre (f:=fun N=>Zh N q xs 0 (xs.length : Int) ((Sort.bitsLen xs.length : Nat) : Int)) e;obtain ⟨N,g⟩:=qek n;have g : Zh N q xs 0 (xs.length : Int) ((Sort.bitsLen xs.length : Nat) : Int) = some r:=g;rcases c N with ⟨a,b,x,y⟩ | ⟨_,b⟩
    · have b : Zh N q xs 0 (xs.length : Int) ((Sort.bitsLen xs.length : Nat) : Int) = some a.toList:=b;rw [g] at b;obtain rfl : r = a.toList:=qcq b;have d : a.size = xs.length:=by rw [x.1];simp
      refine ⟨a.toList,?_,?_,?_⟩
      · unfold q27;rw [q1x,show ((xs.length : Int) % 18446744073709551616) = (xs.length : Int) by omega,qjl _ o];simp only [qh,n];unfold Qu;rw [qs (by simp [d])];rfl
      · have:=x.2.2;have u : a.extract 0 xs.length = a:=by rw [← d];simp
        have w : xs.toArray.extract 0 xs.length = xs.toArray:=by simp
        rw [u,w] at this;exact this
      · rw [List.pairwise_iff_getElem];intro i j hi z l;have m : i < a.size:=by simpa using hi
        have k : j < a.size:=by simpa using z
        have:=y i j q0 l q0;rw [getElem!_pos a i m,getElem!_pos a j k] at this;simpa using this
    · have b : Zh N q xs 0 (xs.length : Int) ((Sort.bitsLen xs.length : Nat) : Int) = none:=b;rw [g] at b;cases b
  · omega
end
end Go.Sh
namespace Go.Sh
open Go Go.Am
theorem qw4 : qcg = q52:=rfl
theorem qv5 : q2k = q3j:=by
  funext p0;simp only [q2k,q3j,qw4]
  all_goals exact Qy
theorem qlg : Ut = q16:=by
  funext p0;simp only [Ut,q16,qv5]
  all_goals exact Qy
theorem qvf : q97 = U6:=by
  funext p1 q1 a459;simp only [q97,U6]
  all_goals exact Qy
theorem qve : q96 = q1a:=by
  funext p2 p1 q1 a278;simp only [q96,q1a,qvf]
  all_goals exact Qy
theorem qvd : q95 = q2a:=by
  funext q1 p0 p1 p2;simp only [q95,q2a,qve]
  all_goals exact Qy
theorem qw3 : q9p = U9:=by
  funext p2 p3 q1 a197;simp only [q9p,U9]
  all_goals exact Qy
theorem qli : q6t = Uq:=by
  funext q1 p0 p1 p2 p3;simp only [q6t,Uq,qw3]
  all_goals exact Qy
theorem qvb : q93 = q18:=by
  funext q1 p2 p1 a123;simp only [q93,q18,qli]
  all_goals exact Qy
theorem qvc : q94 = q19:=by
  funext p1 q1 a191;simp only [q94,q19,qli]
  all_goals exact Qy
theorem qva : q92 = q29:=by
  funext q1 p0 p1 p2;simp only [q92,q29,qvb,qvc]
  all_goals exact Qy
theorem qvh : q1o = q2b:=by
  funext p0;simp only [q1o,q2b,qlg]
  all_goals exact Qy
theorem qw5 : q1p = q2f:=by
  funext p0;simp only [q1p,q2f]
  all_goals exact Qy
theorem qv8 : q90 = Uh:=by
  funext p1 p2 r101 a153;simp only [q90,Uh,qw5]
  all_goals exact Qy
theorem qv7 : q8z = q17:=by
  funext q1 p0 p1 p2;simp only [q8z,q17,qvh,qv8]
  all_goals exact Qy
theorem qvi : q48 = Uj:=by
  funext q1 p0 p1 p2 p3;simp only [q48,Uj]
  all_goals exact Qy
theorem qlh : q69 = Ui:=by
  funext q1 p0 p1 p2 p3 p4;simp only [q69,Ui,qvi]
  all_goals exact Qy
theorem qvg : q46 = U7:=by
  funext q1 p0 p1 p2;simp only [q46,U7,qlh]
  all_goals exact Qy
theorem qv9 : q91 = q28:=by
  funext p0 p1 p2 p3;simp only [q91,q28,qlh,qvg]
  all_goals exact Qy
theorem qw2 : q9n = q2e:=by
  funext a119;simp only [q9n,q2e]
  all_goals exact Qy
theorem qw1 : q9m = q1f:=by
  funext q1 p0 p1 p2;simp only [q9m,q1f,qw2]
  all_goals exact Qy
theorem qvl : q98 = Uk:=by
  funext p2 a438 q1 a681;simp only [q98,Uk]
  all_goals exact Qy
theorem qvm : q99 = Ul:=by
  funext q1 a838;simp only [q99,Ul]
  all_goals exact Qy
theorem qvn : q9a = Um:=by
  funext p2 q1 b684 a928;simp only [q9a,Um]
  all_goals exact Qy
theorem qvk : q6b = J6:=by
  funext p2 q1 p1 a438;have a : @q6b.match_1.{1} = @J6.match_1.{1} qj:=by funext motive m f g;cases m <;> rfl
  unfold q6b J6;rw [a];simp only [qvl,qvm,qvn]
theorem qvj : q6a = U8:=by
  funext q1 p0 p1 p2;have a : @q6a.match_1.{1} = @U8.match_1.{1} qj:=by funext motive m f g;cases m <;> rfl
  unfold q6a U8;rw [a];simp only [qvk]
theorem qvr : q9k = Un:=by
  funext a318 p1 q1 a378;simp only [q9k,Un]
  all_goals exact Qy
theorem qvs : q9l = Uo:=by
  funext b381 a318 p1 q1 a463;simp only [q9l,Uo]
  all_goals exact Qy
theorem qvq : q9j = q1d:=by
  funext p1 q1 a318;simp only [q9j,q1d,qvr,qvs]
  all_goals exact Qy
theorem qvp : q9i = q1c:=by
  funext q1 p0 p1 p2 p3;simp only [q9i,q1c,qvq]
  all_goals exact Qy
theorem qvt : q9d = q2c:=by
  funext p2 p0 p1 v101 p3 v103 q1 a163;simp only [q9d,q2c]
  all_goals exact Qy
theorem qvu : q9e = q2d:=by
  funext b166 p0 p1 v101 p3 v103 q1 a249;simp only [q9e,q2d]
  all_goals exact Qy
theorem qvw : q9g = Jf:=by
  funext a514 p1 q1 a572;simp only [q9g,Jf]
  all_goals exact Qy
theorem qvx : q9h = Jg:=by
  funext b575 a514 p1 q1 a658;simp only [q9h,Jg]
  all_goals exact Qy
theorem qvv : q9f = q1e:=by
  funext p1 q1 a514;simp only [q9f,q1e,qvw,qvx]
  all_goals exact Qy
theorem qvo : q9c = q1b:=by
  funext q1 p0 p1 p2 p3;simp only [q9c,q1b,qvt,qvu,qvv]
  all_goals exact Qy
theorem qvz : q6p = Zq:=by
  funext q1 rec a309;have a : @q6p.match_1.{1} = @Zq.match_1.{1} qj:=by funext motive m f g;cases m <;> rfl
  unfold q6p Zq;rw [a];simp only [qvd,qva,qv7,qv9,qw1,qvj,qvp,qvo]
theorem qw0 : q6q = Up:=by
  funext rec q1 p0 p1 p2 p3;simp only [q6q,Up,qvz]
  all_goals exact Qy
theorem qvy : ∀ N q,q6o N q = Zh N q:=by
  intro N q
  induction N with
  | zero=>rfl
  | succ N ih=>
    funext a b c d;show q6q (q6o N q) q a b c d = Up (Zh N q) q a b c d;rw [ih,qw0]
theorem qv6 : q5z = q27:=by
  funext q1 p0;simp only [q5z,q27,qlg,qvy]
  all_goals exact Qy
end Go.Sh
namespace Go.Sh
open Go Go.Am
instance : Inhabited qj:=⟨⟨0,0,0⟩⟩
theorem q102 (q : qj→qj→Option Int) (xs : List qj) : q5z q xs = q27 q xs:=by rw [qv6]
def evs (s : List qi) (l : Int) : List qj:=s.flatMap fun t=>[{at_:=t.Lo,list_:=l,by_:=1},{at_:=t.Hi,list_:=l,by_:=-1}]
theorem q7r (s : List qi) (l : Int) : (evs s l).length = 2 * s.length:=by
  induction s with
  | nil=>rfl
  | cons t s ih=>simp only [evs,List.flatMap_cons,List.length_append,List.length_cons,List.length_nil] at ih ⊢;omega
theorem qbb {s : List qi} {l : Int} {e : qj} (h : e∈evs s l) : e.list_ = l∧(e.by_ = 1∨e.by_ = -1)∧∃ t∈s,e.at_ = t.Lo∨e.at_ = t.Hi:=by
  simp only [evs,List.mem_flatMap] at h;obtain ⟨t,a,h⟩:=h;simp only [List.mem_cons,List.not_mem_nil,or_false] at h;rcases h with rfl | rfl
  · exact ⟨rfl,.inl rfl,t,a,.inl rfl⟩
  · exact ⟨rfl,.inr rfl,t,a,.inr rfl⟩
theorem qhy (s : List qi) (l : Int) (y : List qj) (hs : s.length≤1000) (base : List qj) (hb : base.length≤10000) :
    loop (q4g s (l,y)) (0,base) = some (base ++ evs s l):=by
  have:=Yg (f:=q4g s (l,y)) (σ:=List qj) (fun k c=>((k : Int),c)) s.length (fun k c=>c = base ++ evs (s.take k) l) (fun t=>t = base ++ evs s l) ?_ ?_ (k0:=0) (c0:=base) q0 (by simp [evs])
  · obtain ⟨b,h,rfl⟩:=this;exact h
  · rintro k c g rfl;have a : decide ((k : Int) < (s.length : Int)) = true:=Q9 q0;refine .inl ⟨base ++ evs (s.take (k + 1)) l,?_,rfl⟩;have d : (evs (s.take k) l).length≤2000:=by rw [q7r,List.length_take];omega
    simp only [q4g,a,Q2,K5 g,qh];rw [Z7 (by rw [List.length_append];simp only [List.length_cons,List.length_nil];omega),qh,Q5 q0,List.take_succ_eq_append_getElem g,List.append_assoc];have : evs (s.take k ++ [s[k]]) l = evs (s.take k) l ++ [{at_:=s[k].Lo,list_:=l,by_:=1},{at_:=s[k].Hi,list_:=l,by_:=-1}]:=by simp only [evs,List.flatMap_append,List.flatMap_cons,List.flatMap_nil,List.append_nil]
    rw [this];rfl
  · rintro c rfl;have a : decide ((s.length : Int) < (s.length : Int)) = false:=Qb q0;exact ⟨_,by simp only [q4g,a,Q1];rfl,by rw [List.take_length]⟩
def ltE (a b : qj) : Bool:=decide (a.at_ < b.at_)
def inE (e : qj) : Prop:=-1000000≤e.at_∧e.at_≤1000000
theorem swoE : Sort.SWO ltE where
  irrefl:=by intro x;simp [ltE]
  trans:=by intro x y z;simp only [ltE,decide_eq_true_eq];omega
  ntrans:=by intro x y z;simp only [ltE,decide_eq_false_iff_not];omega
theorem cmpE : Kz (fun b a=>q9y b a) ltE inE:=by
  rintro x y ⟨f,g⟩ ⟨d,c⟩;refine ⟨x.at_ - y.at_,?_,?_⟩
  · show some (w64 (x.at_ - y.at_)) = _;rw [Q5 q0]
  · unfold ltE;exact decide_eq_decide.2 q0
theorem q101 (p q : List qi) (hp : p.length≤500) (z : q.length≤500) (o : ∀ t∈p,vld t) (u : ∀ t∈q,vld t) :
    ∃ ys,q9z [p,q] = some ([p,q],ys)∧ys.Perm (evs p 0 ++ evs q 1)∧ys.Pairwise (fun x y=>x.at_≤y.at_):=by
  have k : ∀ x∈evs p 0 ++ evs q 1,inE x:=by
    intro x l;rcases List.mem_append.1 l with h | h
    · obtain ⟨_,_,t,f,h⟩:=qbb h;obtain ⟨a,b,c⟩:=o t f;unfold inE;rcases h with h | h <;> omega
    · obtain ⟨_,_,t,f,h⟩:=qbb h;obtain ⟨a,b,c⟩:=u t f;unfold inE;rcases h with h | h <;> omega
  have w:=q7r p 0;have v:=q7r q 1;obtain ⟨ys,m,j,r⟩:=qma cmpE swoE (evs p 0 ++ evs q 1) (by rw [List.length_append];omega) k;refine ⟨ys,?_,j,r.imp (fun {x y} h=>by simp only [ltE,decide_eq_false_iff_not] at h;omega)⟩
  have d : loop (Uw [p,q]) (0,[]) = some (evs p 0 ++ evs q 1):=by
    have s0 : Uw [p,q] (0,[]) = some (.inl (1,evs p 0)):=by
      have t : decide ((0 : Int) < (([p,q] : List (List qi)).length : Int)) = true:=rfl;simp only [Uw,t,Q2];have : idx [p,q] 0 = some p:=rfl;rw [this];simp only [qh,qhy p 0 [] q0 [] qe,List.nil_append];rfl
    have s : Uw [p,q] (1,evs p 0) = some (.inl (2,evs p 0 ++ evs q 1)):=by
      have t : decide ((1 : Int) < (([p,q] : List (List qi)).length : Int)) = true:=rfl;simp only [Uw,t,Q2];have : idx [p,q] 1 = some q:=rfl;rw [this];simp only [qh,qhy q 1 (evs p 0) q0 (evs p 0) q0];rfl
    have n : Uw [p,q] (2,evs p 0 ++ evs q 1) = some (.inr (evs p 0 ++ evs q 1)):=by
      have t : decide ((2 : Int) < (([p,q] : List (List qi)).length : Int)) = false:=rfl;simp only [Uw,t,Q1]
    rw [Ke s0,Ke s,Kg n]
  unfold q9z;rw [d];simp only [qh,q102,m];have le : Qu ys.length (evs p 0 ++ evs q 1).length = some ():=by unfold Qu;rw [qs j.length_eq]
  have g : Qu ys.length ys.length = some ():=by unfold Qu;rw [qs rfl]
  simp only [le,qh,qc6,g]
def cnt (l : Int) (c : Int→Bool) : List qj→Int
  | []=>0
  | e::es=>(if e.list_ = l∧c e.at_ = true then e.by_ else 0) + cnt l c es
theorem q20 (l : Int) (c : Int→Bool) (a b : List qj) : cnt l c (a ++ b) = cnt l c a + cnt l c b:=by
  induction a with
  | nil=>simp [cnt]
  | cons e a ih=>simp only [List.cons_append,cnt,ih];omega
theorem qhd {l : Int} {c : Int→Bool} {a b : List qj} (h : a.Perm b) : cnt l c a = cnt l c b:=by
  induction h with
  | nil=>rfl
  | cons x _ ih=>simp only [cnt,ih]
  | swap x y l=>simp only [cnt];omega
  | trans _ _ ih1 ih2=>rw [ih1,ih2]
theorem qha {l : Int} {c b : Int→Bool} : ∀ {a : List qj},(∀ e∈a,c e.at_ = b e.at_)→cnt l c a = cnt l b a
  | [],_=>rfl
  | e::a,h=>by simp only [cnt,h e qe,qha (fun e d=>h e (List.mem_cons_of_mem _ d))]
theorem qhc {l : Int} {c : Int→Bool} : ∀ {a : List qj},(∀ e∈a,c e.at_ = false)→cnt l c a = 0
  | [],_=>rfl
  | e::a,h=>by
    simp only [cnt,qhc (fun e b=>h e (List.mem_cons_of_mem _ b)),h e qe]
    simp
theorem q7j {s : List qi} {l l' : Int} {c : Int→Bool} (h : l≠l') : cnt l c (evs s l') = 0:=by
  induction s with
  | nil=>rfl
  | cons t s ih=>
    have : evs (t::s) l' = [{at_:=t.Lo,list_:=l',by_:=1},{at_:=t.Hi,list_:=l',by_:=-1}] ++ evs s l':=rfl;rw [this,q20,ih];have a : ¬ l' = l:=fun e=>h e.symm;simp [cnt,a]
theorem qhb {s : List qi} {l : Int} (v : ∀ t∈s,vld t) (x : Int) : 0≤cnt l (fun a=>decide (a≤x)) (evs s l)∧(0 < cnt l (fun a=>decide (a≤x)) (evs s l)↔has s x):=by
  induction s with
  | nil=>exact ⟨Int.le_refl 0,by simp [evs,cnt,has]⟩
  | cons t s ih=>
    obtain ⟨f,c⟩:=ih (fun t d=>v t (List.mem_cons_of_mem _ d));have b:=v t qe;have : evs (t::s) l = [{at_:=t.Lo,list_:=l,by_:=1},{at_:=t.Hi,list_:=l,by_:=-1}] ++ evs s l:=rfl;rw [this,q20,Zy,← c];obtain ⟨h,j,g⟩:=b;simp only [cnt,true_and,decide_eq_true_eq];split <;> split <;> omega
theorem qhe {s : List qi} {l : Int} : cnt l (fun _=>true) (evs s l) = 0:=by
  induction s with
  | nil=>rfl
  | cons t s ih=>
    have : evs (t::s) l = [{at_:=t.Lo,list_:=l,by_:=1},{at_:=t.Hi,list_:=l,by_:=-1}] ++ evs s l:=rfl;rw [this,q20,ih];simp [cnt]
theorem qdk {l : Int} {c : Int→Bool} : ∀ {a : List qj},(∀ e∈a,e.by_ = 1∨e.by_ = -1)→-(a.length : Int)≤cnt l c a∧cnt l c a≤(a.length : Int)
  | [],_=>by simp [cnt]
  | e::a,h=>by
    obtain ⟨d,f⟩:=qdk (l:=l) (c:=c) (fun e b=>h e (List.mem_cons_of_mem _ b))
    have:=h e qe
    simp only [cnt,List.length_cons]
    split <;> omega
end Go.Sh
namespace Go.Sh
open Go Go.Am
theorem qoz (at_ a : Int) (inn : Bool) (out : List qi) (h : out.length≤10000) :
    qa0 at_ inn a out = some (inn,a,if inn = true∧a≠at_ then addS out a at_ else out):=by
  unfold qa0
  cases inn with
  | false=>rfl
  | true=>
    by_cases c : a = at_
    · simp [c]
    · have hb : (a == at_) = false:=by simpa using c
      simp only [Bool.not_true,Q1,qh,hb];rw [qs ⟨trivial,c⟩];rcases qc7 out with rfl | ⟨d,t,rfl⟩
      · rfl
      · have l : (d ++ [t]).length = d.length + 1:=by simp
        have j : decide (((d ++ [t]).length : Int) > 0) = true:=Q9 q0;have g : w64 (((d ++ [t]).length : Int) - 1) = (d.length : Int):=by rw [Q5 q0];omega
        have k : idx (d ++ [t]) (d.length : Int) = some t:=by
          rw [K5 q0];simp
        simp only [j,Q2,g,k,qh];by_cases f : t.Hi = a
        · subst f;simp only [beq_self_eq_true,Q2,qad,Int.toNat_natCast,qln]
        · have b : (t.Hi == a) = false:=by simpa using f
          simp only [b,Q1,qae f];rw [Z7 (by simp;omega)];rfl
open Classical in
structure qnb (f : Bool→Bool→Bool) (p q : List qi) (ys : List qj) (k : Nat) (c : List Int × Int × Bool × List qi) : Prop where
  opn : c.1 = [cnt 0 (fun _=>true) (ys.take k),cnt 1 (fun _=>true) (ys.take k)]
  inn : c.2.2.1 = f (decide (0 < cnt 0 (fun _=>true) (ys.take k))) (decide (0 < cnt 1 (fun _=>true) (ys.take k)))
  lst : ∀ (h : k - 1 < ys.length),0 < k→c.2.1 = ys[k - 1].at_
  can : Can c.2.2.2
  his : ∀ t∈c.2.2.2,t.Hi≤c.2.1
  zro : k = 0→c.2.2.2 = []
  pts : ∀ x,has c.2.2.2 x↔0 < k∧x < c.2.1∧f (decide (has p x)) (decide (has q x)) = true
  len : c.2.2.2.length≤k
theorem qne (c : List qi) (a b : Int) : (addS c a b).length≤c.length + 1:=by
  rcases qc7 c with rfl | ⟨d,t,rfl⟩
  · simp [qge]
  · by_cases h : t.Hi = a
    · subst h;rw [qad];simp
    · rw [qae h];simp
theorem qh9 {p q : List qi} {ys : List qj} (hp : ∀ t∈p,vld t) (o : ∀ t∈q,vld t) (b : ys.Perm (evs p 0 ++ evs q 1)) (_ : ys.Pairwise (fun x y=>x.at_≤y.at_)) (k : Nat) (x : Int)
    (m : ∀ i (h : i < ys.length),i < k→ys[i].at_≤x) (d : ∀ i (h : i < ys.length),k≤i→x < ys[i].at_) :
    (0 < cnt 0 (fun _=>true) (ys.take k)↔has p x)∧(0 < cnt 1 (fun _=>true) (ys.take k)↔has q x):=by
  have key : ∀ l,cnt l (fun _=>true) (ys.take k) = cnt l (fun a=>decide (a≤x)) (evs p 0) + cnt l (fun a=>decide (a≤x)) (evs q 1):=by
    intro l;rw [← q20,← qhd b]
    conv=>rhs;rw [← List.take_append_drop k ys]
    rw [q20]
    have g : cnt l (fun a=>decide (a≤x)) (ys.drop k) = 0:=by
      refine qhc fun e c=>?_;obtain ⟨i,hi,rfl⟩:=List.mem_iff_getElem.1 c;rw [List.getElem_drop];rw [List.length_drop] at hi;have:=d (k + i) q0 q0;exact Qb q0
    have n : cnt l (fun a=>decide (a≤x)) (ys.take k) = cnt l (fun _=>true) (ys.take k):=by
      refine qha fun e c=>?_;obtain ⟨i,hi,rfl⟩:=List.mem_iff_getElem.1 c;rw [List.getElem_take];rw [List.length_take] at hi;exact Q9 (m i q0 q0)
    rw [g,n];omega
  rw [key 0,key 1,q7j (l:=0) (l':=1) qn,q7j (l:=1) (l':=0) qn];have f:=qhb (l:=0) hp x;have j:=qhb (l:=1) o x;rw [Int.add_zero,Int.zero_add];exact ⟨f.2,j.2⟩
open Classical in
theorem qjc (f : Bool→Bool→Bool) (hf : f false false = false) (p2 : Bool→Bool→Option Bool) (hp2 : ∀ a b,p2 a b = some (f a b)) (p q : List qi)
    (hp : p.length≤500) (hq : q.length≤500) (vp : ∀ t∈p,vld t) (vq : ∀ t∈q,vld t) :
    ∃ out,q2x p q p2 = some out∧Can out∧∀ x,has out x↔f (decide (has p x)) (decide (has q x)) = true:=by
  obtain ⟨ys,e1,g,hs⟩:=q101 p q hp hq vp vq;have bf : ys.length≤2000:=by rw [g.length_eq,List.length_append,q7r,q7r];omega
  have w : ∀ i j (hi : i < ys.length) (hj : j < ys.length),i≤j→ys[i].at_≤ys[j].at_:=by
    intro i j hi hj bo;rcases Nat.lt_or_ge i j with h | h
    · exact List.pairwise_iff_getElem.1 hs i j hi hj h
    · obtain rfl : i = j:=by omega
      exact Int.le_refl _
  have y : ∀ e∈ys,(e.list_ = 0∨e.list_ = 1)∧(e.by_ = 1∨e.by_ = -1):=by
    intro e he;rcases List.mem_append.1 (g.mem_iff.1 he) with h | h
    · obtain ⟨a,b,_⟩:=qbb h;exact ⟨.inl a,b⟩
    · obtain ⟨a,b,_⟩:=qbb h;exact ⟨.inr a,b⟩
  have:=Yg (f:=q4h ([p,q],ys) p2) (σ:=List Int × Int × Bool × List qi) (fun k c=>((k : Int),c)) ys.length (qnb f p q ys) (fun out=>Can out∧∀ x,has out x↔f (decide (has p x)) (decide (has q x)) = true) ?_ ?_ (k0:=0) (c0:=([0,0],0,false,[])) q0 ?_
  · obtain ⟨out,o,m⟩:=this;refine ⟨out,?_,m⟩;unfold q2x;have o : loop (q4h ([p,q],ys) p2) (0,[0,0],0,false,[]) = some out:=o;rw [e1];simp only [qh,o];rfl
  · rintro k ⟨opn,d,inn,out⟩ hk ⟨s1,s2,s3,s4,s5,s6,s7,s8⟩;simp only at s1 s2 s3 s4 s5 s6 s7 s8;have ae : decide ((k : Int) < (ys.length : Int)) = true:=Q9 q0;have bc:=qoz ys[k].at_ d inn out q0;have hm:=y ys[k] (Y5 hk);have ay : ys.take (k + 1) = ys.take k ++ [ys[k]]:=List.take_succ_eq_append_getElem hk;have an : ∀ e∈ys.take k,e.by_ = 1∨e.by_ = -1:=fun e he=>(y e (List.mem_of_mem_take he)).2;have b0:=qdk (l:=0) (c:=fun _=>true) an;have b1:=qdk (l:=1) (c:=fun _=>true) an;have au : (ys.take k).length = k:=by rw [List.length_take];omega
    rw [au] at b0 b1
    have ad : ∃ v,idxA 2 opn ys[k].list_ = some v∧opn.set ys[k].list_.toNat (w64 (v + ys[k].by_)) = [cnt 0 (fun _=>true) (ys.take (k + 1)),cnt 1 (fun _=>true) (ys.take (k + 1))]:=by
      subst s1;rw [ay,q20,q20];rcases hm.1 with h | h
      · refine ⟨cnt 0 (fun _=>true) (ys.take k),by rw [h];rfl,?_⟩;rw [h,Q5 q0];simp [cnt,h]
      · refine ⟨cnt 1 (fun _=>true) (ys.take k),by rw [h];rfl,?_⟩;rw [h,Q5 q0];simp [cnt,h]
    obtain ⟨v,o1,o2⟩:=ad;refine .inl ⟨([cnt 0 (fun _=>true) (ys.take (k + 1)),cnt 1 (fun _=>true) (ys.take (k + 1))],ys[k].at_,f (decide (0 < cnt 0 (fun _=>true) (ys.take (k + 1)))) (decide (0 < cnt 1 (fun _=>true) (ys.take (k + 1)))),if inn = true∧d≠ys[k].at_ then addS out d ys[k].at_ else out),?_,?_⟩
    · have x0 : ∀ a b : Int,idxA 2 [a,b] 0 = some a:=fun a b=>rfl;have x1 : ∀ a b : Int,idxA 2 [a,b] 1 = some b:=fun a b=>rfl;simp only [q4h,ae,Q2,K5 hk,qh,bc,o1,o2,x0,x1,hp2];rw [Q5 q0];rfl
    · have ab : ∀ x,(0 < k→d≤x)→∀ i (h : i < ys.length),i < k→ys[i].at_≤x:=by
        intro x r i hi ak;have:=s3 q0 q0;have:=w i (k - 1) hi q0 q0;have:=r q0;omega
      have ac : ∀ x,x < ys[k].at_→∀ i (h : i < ys.length),k≤i→x < ys[i].at_:=by
        intro x r i hi ak;have:=w k i hk hi ak;omega
      have hF : ∀ x,(0 < k→d≤x)→x < ys[k].at_→f (decide (has p x)) (decide (has q x)) = inn:=by
        intro x r ax;obtain ⟨c1,c2⟩:=qh9 vp vq g hs k x (ab x r) (ac x ax);rw [s2,decide_eq_decide.2 c1,decide_eq_decide.2 c2]
      have n : 0 < k→d≤ys[k].at_:=by
        intro u;rw [s3 q0 u];exact w (k - 1) k q0 hk q0
      have z : k = 0→inn = false:=by
        intro u;subst u;rw [s2];exact hf
      by_cases s : inn = true∧d≠ys[k].at_
      · have ai : 0 < k:=by
          rcases Nat.eq_zero_or_pos k with h | h
          · rw [z h] at s;cases s.1
          · exact h
        have hl:=n ai;have av : d < ys[k].at_:=by have:=s.2;omega
        obtain ⟨d1,d2,d3,d4⟩:=qgf s4 s5 av;constructor
        · rfl
        · rfl
        · intro h _;rfl
        · simp only [qs s];exact d1
        · simp only [qs s];exact d3
        · omega
        · intro x;simp only [qs s];rw [d2,s7];constructor
          · rintro (⟨u,o,m⟩ | ⟨o,m⟩)
            · exact ⟨q0,q0,m⟩
            · exact ⟨q0,m,by rw [hF x (fun _=>o) m];exact s.1⟩
          · rintro ⟨u,o,m⟩;by_cases r : x < d
            · exact .inl ⟨ai,r,m⟩
            · exact .inr ⟨q0,o⟩
        · simp only [qs s];have:=qne out d ys[k].at_;omega
      · constructor
        · rfl
        · rfl
        · intro h _;rfl
        · simp only [qx s];exact s4
        · simp only [qx s];intro t ht;rcases Nat.eq_zero_or_pos k with h | h
          · rw [s6 h] at ht;cases ht
          · have:=s5 t ht;have:=n h;omega
        · omega
        · intro x;simp only [qx s];rw [s7];constructor
          · rintro ⟨u,o,m⟩;exact ⟨q0,by have:=n u;omega,m⟩
          · rintro ⟨u,o,m⟩;by_cases r : 0 < k∧x < d
            · exact ⟨r.1,r.2,m⟩
            · have ao : 0 < k→d≤x:=fun h=>by
                refine Int.not_lt.1 fun h'=>r ⟨h,h'⟩
              have:=hF x ao o;rw [this] at m;refine absurd ⟨m,?_⟩ s;intro e;rcases Nat.eq_zero_or_pos k with h | h
              · rw [z h] at m;cases m
              · have:=ao h;omega
        · simp only [qx s];omega
  · rintro ⟨opn,d,inn,out⟩ ⟨s1,s2,s3,s4,s5,s6,s7,s8⟩;simp only at s1 s2 s3 s4 s5 s6 s7 s8;have ae : decide ((ys.length : Int) < (ys.length : Int)) = false:=Qb q0;refine ⟨out,by simp only [q4h,ae,Q1],s4,fun x=>?_⟩;rw [s7];constructor
    · rintro ⟨_,_,h⟩;exact h
    · intro h;by_cases r : 0 < ys.length∧x < d
      · exact ⟨r.1,r.2,h⟩
      · obtain ⟨c1, c2⟩ := qh9 vp vq g hs ys.length x (fun i hi _ => by
            have:=s3 q0 q0;have:=w i (ys.length - 1) hi q0 q0;have : d≤x:=Int.not_lt.1 fun h'=>r ⟨q0,h'⟩
            omega) (fun i hi bk=>q0)
        have bb : ∀ l,cnt l (fun _=>true) (ys.take ys.length) = 0:=by
          intro l;rw [List.take_length,qhd g,q20];by_cases u : l = 0
          · subst u;rw [qhe,q7j qn];rfl
          · rw [q7j u];by_cases o : l = 1
            · subst o;rw [qhe];rfl
            · rw [q7j o];rfl
        rw [bb] at c1 c2;have n1 : ¬ has p x:=fun h=>absurd (c1.2 h) qn;have n2 : ¬ has q x:=fun h=>absurd (c2.2 h) qn;rw [Qb n1,Qb n2,hf] at h;cases h
  · constructor
    · simp [cnt]
    · simp [cnt,hf]
    · intro h u;omega
    · exact ⟨fun t ht=>(by cases ht),.nil⟩
    · intro t ht;cases ht
    · intro _;rfl
    · intro x;simp [has]
    · simp
end Go.Sh
namespace Go.Sh
open Go Go.Am
theorem qde {s : List qi} (h : Yt s = 0) : s.length≤400∧Good s:=by
  unfold Yt at h;split at h
  · cases h
  · split at h
    · rename_i b a;exact ⟨q0,a⟩
    · cases h
def dst (x : Int) (t : qi) : Int:=max (max (t.Lo - x) (x - t.Hi + 1)) 0
end Go.Sh
namespace Go.Sh
open Go Go.Am
noncomputable def Jh (kind : Int) (p q : List qi) : List qi:=(qbk kind p q).getD []
theorem q80 (kind : Int) (p q : List qi) (hp : p.length≤100000) (a : q.length≤100000) : qbk kind p q = some (Jh kind p q)∧qcu kind p q (Jh kind p q):=by
  obtain ⟨out,b,c⟩:=qr8 kind p q hp a;unfold Jh;rw [b];exact ⟨rfl,c⟩
noncomputable def opS (kind : Int) (p q : List qi) : List qi × Int:=
  if Yt p≠0 then ([],Yt p) else if Yt q≠0 then ([],Yt q) else if 400 < (Jh kind p q).length then ([],4) else (Jh kind p q,0)
open Classical in
theorem qr6 (kind : Int) (f : Bool→Bool→Bool) (c : f false false = false) (l : ∀ a b : Prop,(f (decide a) (decide b) = true↔Yd kind a b)) (p2 : Bool→Bool→Option Bool) (hp2 : ∀ a b,p2 a b = some (f a b))
    (p q : List qi) (hp : p.length≤500) (m : q.length≤500) (g : ∀ t∈p,vld t) (n : ∀ t∈q,vld t) : q2x p q p2 = some (Jh kind p q):=by
  obtain ⟨out,d,k,h⟩:=qjc f c p2 hp2 p q hp m g n;obtain ⟨_,j⟩:=q80 kind p q q0 q0;rw [d];congr 1;refine q7h k j.can fun x=>?_;rw [h,j.pts,l]
open Classical in
theorem qh2 (kind : Int) (f : Bool→Bool→Bool) (g : f false false = false) (m : ∀ a b : Prop,(f (decide a) (decide b) = true↔Yd kind a b)) (p2 : Bool→Bool→Option Bool) (hp2 : ∀ a b,p2 a b = some (f a b))
    (p q : List qi) : q74 p q p2 = some (opS kind p q):=by
  unfold q74 opS;simp only [qdf,qh];by_cases c : Yt p = 0
  · have j : (Yt p != 0) = false:=by simpa using c
    simp only [j,Q1];simp only [c,ne_eq,not_true_eq_false,if_false];by_cases d : Yt q = 0
    · have k : (Yt q != 0) = false:=by simpa using d
      obtain ⟨s,n⟩:=qde c;obtain ⟨r,o⟩:=qde d;simp only [d,not_true_eq_false,if_false,qr6 kind f g m p2 hp2 p q q0 q0 n.1 o.1,qh];by_cases l : 400 < (Jh kind p q).length
      · have h : decide (((Jh kind p q).length : Int) > 400) = true:=Q9 q0;rw [h,qs l];rfl
      · have h : decide (((Jh kind p q).length : Int) > 400) = false:=Qb q0;rw [h,qx l];rfl
    · have k : (Yt q != 0) = true:=by simpa using d
      simp only [k,Q2,d,not_false_eq_true,if_true]
  · have j : (Yt p != 0) = true:=by simpa using c
    simp only [j,Q2,c,ne_eq,not_false_eq_true,if_true]
theorem q11d (p q : List qi) : q73 p q = some (opS 2 p q):=by
  classical
  unfold q73;rw [qh2 2 (fun a b=>a || b) rfl (by intro a b;by_cases c : a <;> by_cases hb : b <;> simp [Yd,c,hb]) _ (by intro a b;cases a <;> rfl)];rfl
theorem qrq (p q : List qi) : q72 p q = some (opS 1 p q):=by
  classical
  unfold q72;rw [qh2 1 (fun a b=>a && b) rfl (by intro a b;by_cases c : a <;> by_cases hb : b <;> simp [Yd,c,hb]) _ (by intro a b;cases a <;> rfl)];rfl
theorem qqy (s : List qi) (b : qi→Option Bool) (c : qi→Bool) (h : ∀ t,b t = some (c t)) (q : s.length≤1000000) :
    ∃ r,q8v s b = some r∧decide (r ≥ 0) = s.any c:=by
  have:=Yg (f:=q2s s b) (σ:=Unit) (fun k _=>(k : Int)) s.length (fun k _=>∀ i (h : i < s.length),i < k→c s[i] = false)
    (fun m=>∃ r : Int,(match m with | .inl b22=>some (-1) | .inr x1=>some x1) = some r∧decide (r ≥ 0) = s.any c) ?_ ?_ (k0:=0) (c0:=()) q0 (fun i _ hi=>q0)
  · obtain ⟨m,g,r,o,n⟩:=this;have g : loop (q2s s b) 0 = some m:=g;exact ⟨r,by unfold q8v;rw [g];exact o,n⟩
  · rintro k _ j hi;have hb : decide ((k : Int) < (s.length : Int)) = true:=Q9 q0
    cases d : c s[k] with
    | true=>
      refine .inr ⟨.inr (k : Int),?_,(k : Int),rfl,?_⟩
      · simp only [q2s,hb,Q2,K5 j,qh,h,d]
      · have : s.any c = true:=List.any_eq_true.2 ⟨s[k],Y5 j,d⟩;rw [this];exact Q9 q0
    | false=>
      refine .inl ⟨(),?_,?_⟩
      · simp only [q2s,hb,Q2,K5 j,qh,h,d,Q1];rw [Q5 q0];rfl
      · intro i a p;by_cases e : i = k
        · subst e;exact d
        · exact hi i a q0
  · rintro _ hi;have hb : decide ((s.length : Int) < (s.length : Int)) = false:=Qb q0;refine ⟨.inl (),by simp only [q2s,hb,Q1],-1,rfl,?_⟩
    have : s.any c = false:=by
      rw [List.any_eq_false];intro t l;obtain ⟨i,a,rfl⟩:=List.mem_iff_getElem.1 l;simp [hi i a a]
    rw [this];rfl
theorem qp8 (s : List qi) (a : qi→Option Bool) (c : qi→Bool) (h : ∀ t,a t = some (c t)) (f : s.length≤1000000) : q8t s a = some (s.any c):=by
  obtain ⟨r,b,d⟩:=qqy s a c h f;unfold q8t;rw [b,qh,d]
open Classical in
noncomputable def qep (s : List qi) : List qi × Int:=if 400 < s.length then ([],4) else if ∀ t∈s,vld t then (Jh 2 s [],0) else ([],8)
theorem qrm (s : List qi) (k : s.length≤400) (d : ∀ t∈s,vld t) (p2 : Bool→Bool→Option Bool) (hp2 : ∀ a b,p2 a b = some a) : q2x s [] p2 = some (Jh 2 s []):=by
  classical
  obtain ⟨out,c,h,g⟩:=qjc (fun a _=>a) rfl p2 hp2 s [] q0 qe d (fun t f=>by cases f);obtain ⟨_,j⟩:=q80 2 s [] q0 qe;rw [c];congr 1;refine q7h h j.can fun x=>?_;rw [g,j.pts];simp [Yd,q1g]
theorem qrl (s : List qi) : q71 s = some (qep s):=by
  classical
  unfold q71 qep;by_cases f : 400 < s.length
  · have e : decide ((s.length : Int) > 400) = true:=Q9 q0;rw [e,qs f];rfl
  · have e : decide ((s.length : Int) > 400) = false:=Qb q0;rw [e,qx f,Q1,qp8 s _ (fun t=>!decide (vld t)) (fun t=>by show (q2y t).bind _ = _;rw [qmz];rfl) q0,qh];by_cases c : ∀ t∈s,vld t
    · have : (s.any fun t=>!decide (vld t)) = false:=by
        rw [List.any_eq_false];intro t d;simp [c t d]
      rw [this,Q1,qs c,qrm s q0 c (fun j g=>q9x j g) (fun a b=>rfl)];rfl
    · have : (s.any fun t=>!decide (vld t)) = true:=by
        rw [List.any_eq_true];obtain ⟨t,c⟩:=Classical.not_forall.1 c;obtain ⟨d,h⟩:=Classical.not_imp.1 c;exact ⟨t,d,by simp [h]⟩
      rw [this,Q2,qx c]
def lenL : List qi→Int
  | []=>0
  | t::s=>(t.Hi - t.Lo) + lenL s
theorem qjj (a b : List qi) : lenL (a ++ b) = lenL a + lenL b:=by
  induction a with
  | nil=>simp [lenL]
  | cons t a ih=>simp only [List.cons_append,lenL,ih];omega
theorem qjk : ∀ {s : List qi},(∀ t∈s,vld t)→0≤lenL s∧lenL s≤2000000 * (s.length : Int)
  | [],_=>by simp [lenL]
  | t::s,h=>by
    obtain ⟨d,g⟩:=qjk (fun t a=>h t (List.mem_cons_of_mem _ a))
    obtain ⟨c,f,b⟩:=h t qe
    simp only [lenL,List.length_cons]
    omega
noncomputable def qej (s : List qi) : Int × Int:=if Yt s = 0 then (lenL s,0) else (0,Yt s)
theorem qrc (s : List qi) (o : s.length≤400) (h : ∀ t∈s,vld t) : loop (q9w s) (0,0) = some (lenL s)∧loop (q8c s) (0,0) = some (lenL s):=by
  have d : ∀ k,0≤lenL (s.take k)∧lenL (s.take k)≤800000000:=by
    intro k;have:=qjk (s:=s.take k) (fun t n=>h t (List.mem_of_mem_take n));have : (s.take k).length≤400:=by rw [List.length_take];omega
    omega
  constructor
  · have:=Yg (f:=q9w s) (σ:=Int) (fun k c=>(c,(k : Int))) s.length (fun k c=>c = lenL (s.take k)) (fun r=>r = lenL s) ?_ ?_ (k0:=0) (c0:=0) q0 (by simp [lenL])
    · obtain ⟨b,g,rfl⟩:=this;exact g
    · rintro k c a rfl;have hb : decide ((k : Int) < (s.length : Int)) = true:=Q9 q0;obtain ⟨l,m,j⟩:=h _ (Y5 a);have:=d k;refine .inl ⟨lenL (s.take (k + 1)),?_,rfl⟩;simp only [q9w,hb,Q2,K5 a,qh];rw [Q5 (x:=s[k].Hi - s[k].Lo) q0,Q5 (x:=lenL (s.take k) + _) q0,Q5 q0,List.take_succ_eq_append_getElem a,qjj];simp only [lenL,Int.add_zero];rfl
    · rintro c rfl;have hb : decide ((s.length : Int) < (s.length : Int)) = false:=Qb q0;exact ⟨_,by simp only [q9w,hb,Q1];rfl,by rw [List.take_length]⟩
  · have:=Yg (f:=q8c s) (σ:=Int) (fun k c=>(c,(k : Int))) s.length (fun k c=>c = lenL (s.take k)) (fun r=>r = lenL s) ?_ ?_ (k0:=0) (c0:=0) q0 (by simp [lenL])
    · obtain ⟨b,g,rfl⟩:=this;exact g
    · rintro k c a rfl;have hb : decide ((k : Int) < (s.length : Int)) = true:=Q9 q0;obtain ⟨l,m,j⟩:=h _ (Y5 a);have:=d k;refine .inl ⟨lenL (s.take (k + 1)),?_,rfl⟩;simp only [q8c,hb,Q2,K5 a,qh];rw [Q5 (x:=lenL (s.take k) + s[k].Hi) q0,Q5 (x:=lenL (s.take k) + s[k].Hi - _) q0,Q5 q0,List.take_succ_eq_append_getElem a,qjj];have : lenL (s.take k) + s[k].Hi - s[k].Lo = lenL (s.take k) + lenL [s[k]]:=by simp only [lenL];omega
      rw [this];rfl
    · rintro c rfl;have hb : decide ((s.length : Int) < (s.length : Int)) = false:=Qb q0;exact ⟨_,by simp only [q8c,hb,Q1];rfl,by rw [List.take_length]⟩
theorem q121 (s : List qi) : qmf s = some (qej s)∧qku s = some (qej s):=by
  unfold qmf qku qej;simp only [qdf,qtv,qh];by_cases h : Yt s = 0
  · obtain ⟨d,c⟩:=qde h;obtain ⟨a,b⟩:=qrc s d c.1;have e : (Yt s != 0) = false:=by simpa using h
    simp only [e,Q1,a,b,qh];simp only [h,if_true];exact ⟨trivial,trivial⟩
  · have e : (Yt s != 0) = true:=by simpa using h
    simp only [e,Q2,qx h];exact ⟨trivial,trivial⟩
end Go.Sh
set_option maxHeartbeats 4000000
namespace Go.Sh
open Go Go.Am
def sg (a b : Int) : Int:=if a < b then -1 else 0
theorem J9 {a b : Int} : decide (sg a b < 0) = decide (a < b):=by
  unfold sg;by_cases h : a < b <;> simp [h]
def qO (a b : Int) : Option Int:=some (sg a b)
theorem Jj (a b : Int) : qO a b = some (sg a b):=rfl
theorem Ji (a b : Int) : Yw a b = some (decide (a < b)):=by
  unfold Yw q4t;have : (a != a) = false:=by simp
  simp []
theorem qzk : qcg = q52:=rfl
theorem qxn : (fun a=>q2k a) = (fun a=>q3j a):=by
  funext a;simp only [q2k,q3j,qzk]
  all_goals exact Qy
theorem qxo  : ∀ a,q2k a = q3j a:=fun a=>(congrFun qxn a)
theorem qxm : (fun a=>Ut a) = (fun a=>q16 a):=by
  funext a;simp only [Ut,q16,qxo]
  all_goals exact Qy
theorem qm2  : ∀ a,Ut a = q16 a:=fun a=>(congrFun qxm a)
theorem qy7 : (fun a=>q68 a) = (fun a=>U6 a qO):=by
  funext a a443;simp only [q68,U6,Ji,Jj,qh,J9]
  all_goals exact Qy
theorem qy8  : ∀ a,q68 a = U6 a qO:=fun a=>(congrFun qy7 a)
theorem qy5 : (fun p2 a=>q67 p2 a) = (fun p2 a=>q1a p2 a qO):=by
  funext p2 a a270;simp only [q67,q1a,qy8]
  all_goals exact Qy
theorem qy6  : ∀ p2 a,q67 p2 a = q1a p2 a qO:=fun p2 a=>(congrFun (congrFun qy5 p2) a)
theorem qy3 : (fun b a p2=>q66 b a p2) = (fun b a p2=>q2a qO b a p2):=by
  funext b a p2;simp only [q66,q2a,qy6]
  all_goals exact Qy
theorem qy4  : ∀ b a p2,q66 b a p2 = q2a qO b a p2:=fun b a p2=>(congrFun (congrFun (congrFun qy3 b) a) p2)
theorem qzi : (fun p2 p3=>q6u p2 p3) = (fun p2 p3=>U9 p2 p3 qO):=by
  funext p2 p3 a193;simp only [q6u,U9,Ji,Jj,qh,J9]
  all_goals exact Qy
theorem qzj  : ∀ p2 p3,q6u p2 p3 = U9 p2 p3 qO:=fun p2 p3=>(congrFun (congrFun qzi p2) p3)
theorem qzh : (fun b a p2 p3=>q4d b a p2 p3) = (fun b a p2 p3=>Uq qO b a p2 p3):=by
  funext b a p2 p3;simp only [q4d,Uq,qzj]
  all_goals exact Qy
theorem qm4  : ∀ b a p2 p3,q4d b a p2 p3 = Uq qO b a p2 p3:=fun b a p2 p3=>(congrFun (congrFun (congrFun (congrFun qzh b) a) p2) p3)
theorem qxz : (fun p2 a=>q64 p2 a) = (fun p2 a=>q18 qO p2 a):=by
  funext p2 a a123;simp only [q64,q18,qm4]
  all_goals exact Qy
theorem qy0  : ∀ p2 a,q64 p2 a = q18 qO p2 a:=fun p2 a=>(congrFun (congrFun qxz p2) a)
theorem qy1 : (fun a=>q65 a) = (fun a=>q19 a qO):=by
  funext a a191;simp only [q65,q19,qm4]
  all_goals exact Qy
theorem qy2  : ∀ a,q65 a = q19 a qO:=fun a=>(congrFun qy1 a)
theorem qxx : (fun b a p2=>q63 b a p2) = (fun b a p2=>q29 qO b a p2):=by
  funext b a p2;simp only [q63,q29,qy0,qy2]
  all_goals exact Qy
theorem qxy  : ∀ b a p2,q63 b a p2 = q29 qO b a p2:=fun b a p2=>(congrFun (congrFun (congrFun qxx b) a) p2)
theorem qyc : (fun a=>q1o a) = (fun a=>q2b a):=by
  funext a;simp only [q1o,q2b,qm2]
  all_goals exact Qy
theorem qyd  : ∀ a,q1o a = q2b a:=fun a=>(congrFun qyc a)
theorem qzl : (fun a=>q1p a) = (fun a=>q2f a):=by
  funext a;simp only [q1p,q2f]
  all_goals exact Qy
theorem qzm  : ∀ a,q1p a = q2f a:=fun a=>(congrFun qzl a)
theorem qxt : (fun b p2 a=>q61 b p2 a) = (fun b p2 a=>Uh b p2 a):=by
  funext b p2 a a153;simp only [q61,Uh,qzm]
  all_goals exact Qy
theorem qxu  : ∀ b p2 a,q61 b p2 a = Uh b p2 a:=fun b p2 a=>(congrFun (congrFun (congrFun qxt b) p2) a)
theorem qxr : (fun b a p2=>q60 b a p2) = (fun b a p2=>q17 qO b a p2):=by
  funext b a p2;simp only [q60,q17,qyd,qxu]
  all_goals exact Qy
theorem qxs  : ∀ b a p2,q60 b a p2 = q17 qO b a p2:=fun b a p2=>(congrFun (congrFun (congrFun qxr b) a) p2)
theorem qye : (fun b a p2 p3=>q2u b a p2 p3) = (fun b a p2 p3=>Uj qO b a p2 p3):=by
  funext b a p2 p3;simp only [q2u,Uj,Ji,Jj,qh,J9]
  all_goals exact Qy
theorem qyf  : ∀ b a p2 p3,q2u b a p2 p3 = Uj qO b a p2 p3:=fun b a p2 p3=>(congrFun (congrFun (congrFun (congrFun qye b) a) p2) p3)
theorem qy9 : (fun b a p2 p3 p4=>q47 b a p2 p3 p4) = (fun b a p2 p3 p4=>Ui qO b a p2 p3 p4):=by
  funext b a p2 p3 p4;simp only [q47,Ui,qyf]
  all_goals exact Qy
theorem qm3  : ∀ b a p2 p3 p4,q47 b a p2 p3 p4 = Ui qO b a p2 p3 p4:=fun b a p2 p3 p4=>(congrFun (congrFun (congrFun (congrFun (congrFun qy9 b) a) p2) p3) p4)
theorem qya : (fun b a p2=>q2t b a p2) = (fun b a p2=>U7 qO b a p2):=by
  funext b a p2;simp only [q2t,U7,qm3]
  all_goals exact Qy
theorem qyb  : ∀ b a p2,q2t b a p2 = U7 qO b a p2:=fun b a p2=>(congrFun (congrFun (congrFun qya b) a) p2)
theorem qxv : (fun b a p2=>q62 b a p2) = (fun b a p2=>q28 b a p2 qO):=by
  funext b a p2;simp only [q62,q28,qm3,qyb]
  all_goals exact Qy
theorem qxw  : ∀ b a p2,q62 b a p2 = q28 b a p2 qO:=fun b a p2=>(congrFun (congrFun (congrFun qxv b) a) p2)
theorem qzg : q9o = q2e:=by
  funext a119;simp only [q9o,q2e]
  all_goals exact Qy
theorem qze : (fun b a p2=>q6s b a p2) = (fun b a p2=>q1f qO b a p2):=by
  funext b a p2;simp only [q6s,q1f,qzg]
  all_goals exact Qy
theorem qzf  : ∀ b a p2,q6s b a p2 = q1f qO b a p2:=fun b a p2=>(congrFun (congrFun (congrFun qze b) a) p2)
theorem qyk : (fun p2 a=>q6c p2 a) = (fun p2 a=>Uk p2 a qO):=by
  funext p2 a a667;simp only [q6c,Uk,Ji,Jj,qh,J9]
  all_goals exact Qy
theorem qyl  : ∀ p2 a,q6c p2 a = Uk p2 a qO:=fun p2 a=>(congrFun (congrFun qyk p2) a)
theorem qym : q9b = Ul qO:=by
  funext a822;simp only [q9b,Ul,Ji,Jj,qh,J9]
  all_goals exact Qy
theorem qyn : (fun p2 a=>q6d p2 a) = (fun p2 a=>Um p2 qO a):=by
  funext p2 a a912;simp only [q6d,Um,Ji,Jj,qh,J9]
  all_goals exact Qy
theorem qyo  : ∀ p2 a,q6d p2 a = Um p2 qO a:=fun p2 a=>(congrFun (congrFun qyn p2) a)
theorem qyi : (fun p2 a=>q4a p2 a) = (fun p2 a=>J6 p2 qO a):=by
  funext p2 a a432;have b : @q4a.match_1.{1} = @J6.match_1.{1} Int:=by funext motive m f g;cases m <;> rfl
  unfold q4a J6;rw [b];simp only [qyl,qym,qyo]
  all_goals repeat' first | with_reducible rfl | (congr 1) | funext _
  done
theorem qyj  : ∀ p2 a,q4a p2 a = J6 p2 qO a:=fun p2 a=>(congrFun (congrFun qyi p2) a)
theorem qyg : (fun b a p2=>q49 b a p2) = (fun b a p2=>U8 qO b a p2):=by
  funext b a p2;have c : @q49.match_1.{1} = @U8.match_1.{1} Int:=by funext motive m f g;cases m <;> rfl
  unfold q49 U8;rw [c];simp only [qyj]
  all_goals repeat' first | with_reducible rfl | (congr 1) | funext _
  done
theorem qyh  : ∀ b a p2,q49 b a p2 = U8 qO b a p2:=fun b a p2=>(congrFun (congrFun (congrFun qyg b) a) p2)
theorem qyu : (fun a b=>q6g a b) = (fun a b=>Un a b qO):=by
  funext a b a360;simp only [q6g,Un,Ji,Jj,qh,J9]
  all_goals exact Qy
theorem qyv  : ∀ a b,q6g a b = Un a b qO:=fun a b=>(congrFun (congrFun qyu a) b)
theorem qyw : (fun b a c=>q6h b a c) = (fun b a c=>Uo b a c qO):=by
  funext b a c a439;simp only [q6h,Uo,Ji,Jj,qh,J9]
  all_goals exact Qy
theorem qyx  : ∀ b a c,q6h b a c = Uo b a c qO:=fun b a c=>(congrFun (congrFun (congrFun qyw b) a) c)
theorem qys : (fun a=>q6f a) = (fun a=>q1d a qO):=by
  funext a a304;simp only [q6f,q1d,qyv,qyx]
  all_goals exact Qy
theorem qyt  : ∀ a,q6f a = q1d a qO:=fun a=>(congrFun qys a)
theorem qyq : (fun b a p2 p3=>q6e b a p2 p3) = (fun b a p2 p3=>q1c qO b a p2 p3):=by
  funext b a p2 p3;simp only [q6e,q1c,qyt]
  all_goals exact Qy
theorem qyr  : ∀ b a p2 p3,q6e b a p2 p3 = q1c qO b a p2 p3:=fun b a p2 p3=>(congrFun (congrFun (congrFun (congrFun qyq b) a) p2) p3)
theorem qyz : (fun p2 d c a p3 b=>q6j p2 d c a p3 b) = (fun p2 d c a p3 b=>q2c p2 d c a p3 b qO):=by
  funext p2 d c a p3 b a159;simp only [q6j,q2c,Ji,Jj,qh,J9]
  all_goals exact Qy
theorem qz0  : ∀ p2 d c a p3 b,q6j p2 d c a p3 b = q2c p2 d c a p3 b qO:=fun p2 d c a p3 b=>(congrFun (congrFun (congrFun (congrFun (congrFun (congrFun qyz p2) d) c) a) p3) b)
theorem qz1 : (fun a f d b p3 c=>q6k a f d b p3 c) = (fun a f d b p3 c=>q2d a f d b p3 c qO):=by
  funext a f d b p3 c a239;simp only [q6k,q2d,Ji,Jj,qh,J9]
  all_goals exact Qy
theorem qz2  : ∀ a f d b p3 c,q6k a f d b p3 c = q2d a f d b p3 c qO:=fun a f d b p3 c=>(congrFun (congrFun (congrFun (congrFun (congrFun (congrFun qz1 a) f) d) b) p3) c)
theorem qz5 : (fun a b=>q6m a b) = (fun a b=>Jf a b qO):=by
  funext a b a542;simp only [q6m,Jf,Ji,Jj,qh,J9]
  all_goals exact Qy
theorem qz6  : ∀ a b,q6m a b = Jf a b qO:=fun a b=>(congrFun (congrFun qz5 a) b)
theorem qz7 : (fun b a c=>q6n b a c) = (fun b a c=>Jg b a c qO):=by
  funext b a c a622;simp only [q6n,Jg,Ji,Jj,qh,J9]
  all_goals exact Qy
theorem qz8  : ∀ b a c,q6n b a c = Jg b a c qO:=fun b a c=>(congrFun (congrFun (congrFun qz7 b) a) c)
theorem qz3 : (fun a=>q6l a) = (fun a=>q1e a qO):=by
  funext a a488;simp only [q6l,q1e,qz6,qz8]
  all_goals exact Qy
theorem qz4  : ∀ a,q6l a = q1e a qO:=fun a=>(congrFun qz3 a)
theorem qyp : (fun b a p2 p3=>q6i b a p2 p3) = (fun b a p2 p3=>q1b qO b a p2 p3):=by
  funext b a p2 p3;simp only [q6i,q1b,qz0,qz2,qz4]
  all_goals exact Qy
theorem qyy  : ∀ b a p2 p3,q6i b a p2 p3 = q1b qO b a p2 p3:=fun b a p2 p3=>(congrFun (congrFun (congrFun (congrFun qyp b) a) p2) p3)
theorem qza : (fun a=>q4b a) = (fun a=>Zq qO a):=by
  funext a a305;have b : @q4b.match_1.{1} = @Zq.match_1.{1} Int:=by funext motive m f g;cases m <;> rfl
  unfold q4b Zq;rw [b];simp only [qy4,qxy,qxs,qxw,qzf,qyh,qyr,qyy,Ji,Jj,qh,J9]
  all_goals repeat' first | with_reducible rfl | (congr 1) | funext _
  done
theorem qzb  : ∀ a,q4b a = Zq qO a:=fun a=>(congrFun qza a)
theorem qzc : (fun a c b p2 p3=>q4c a c b p2 p3) = (fun a c b p2 p3=>Up a qO c b p2 p3):=by
  funext a c b p2 p3;simp only [q4c,Up,qzb]
  all_goals exact Qy
theorem qzd  : ∀ a c b p2 p3,q4c a c b p2 p3 = Up a qO c b p2 p3:=fun a c b p2 p3=>(congrFun (congrFun (congrFun (congrFun (congrFun qzc a) c) b) p2) p3)
theorem qz9 : ∀ N,q6r N = Zh N qO:=by
  intro N
  induction N with
  | zero=>rfl
  | succ N ih=>
    funext a b c d;show q4c (q6r N) a b c d = Up (Zh N qO) qO a b c d;rw [ih,qzd]
theorem qxp : (fun a=>U2 a) = (fun a=>q27 qO a):=by
  funext a;simp only [U2,q27,qm2,qz9]
  all_goals exact Qy
theorem qxq  : ∀ a,U2 a = q27 qO a:=fun a=>(congrFun qxp a)
end Go.Sh
