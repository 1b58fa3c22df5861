/- Pg4 Pg5 Pg6 Pj1 Pj2 Pl4 Pj3 Po1 -/
import Derived.Test.YtiejlbckgihckaaK9
namespace Go.Sh
open Go Go.Am
section
variable {T : Type} [Inhabited T] {P : T→Prop} {lt : T→T→Bool} {q : T→T→Option Int}
theorem qdh {f : Int→Option (Int ⊕ Int)} (p : T→Bool) (d : Array T) (j : Nat)
    (b : ∀ k : Nat,k≤1000002→f (k : Int) = if (decide (k≤j) && p d[k]!) = true then some (.inl ((k + 1 : Nat) : Int)) else some (.inr (k : Int))) (g : j≤1000000) :
    ∀ (m i : Nat),j + 1 - i = m→i≤1000002→loop f (i : Int) = some ((Sort.scanUp p d j i : Nat) : Int):=by
  intro m
  induction m with
  | zero=>
    intro i c hi;unfold Sort.scanUp;have a : ¬ (decide (i≤j) && p d[i]!) = true:=by simp;omega
    rw [qs a];exact Kb (by rw [b i hi,qs a])
  | succ m ih=>
    intro i c hi;unfold Sort.scanUp;by_cases a : (decide (i≤j) && p d[i]!) = true
    · rw [qp a,Km (by rw [b i hi,qp a])];exact ih (i + 1) q6 q6
    · rw [qs a];exact Kb (by rw [b i hi,qs a])
theorem qab {f : Int→Option (Int ⊕ Int)} (p : T→Bool) (d : Array T) (i n : Nat) (hi : 1≤i)
    (b : ∀ k : Nat,k < n→f (k : Int) = if (decide (i≤k) && p d[k]!) = true then some (.inl ((k - 1 : Nat) : Int)) else some (.inr (k : Int))) :
    ∀ (j : Nat),j < n→loop f (j : Int) = some ((Sort.scanDown p d i j : Nat) : Int)
  | 0,hj=>by
    have a : ¬ (decide (i≤0) && p d[0]!) = true:=by simp;omega
    exact Kb (by rw [b 0 hj,qs a];rfl)
  | j + 1,hj=>by
    unfold Sort.scanDown
    by_cases a : (decide (i≤j + 1) && p d[j + 1]!) = true
    · rw [qp a,Km (by rw [b (j + 1) hj,qp a])]
      exact qab p d i n hi b j q6
    · rw [qs a]
      exact Kb (by rw [b (j + 1) hj,qs a])
theorem qi1 (g : Ko q lt P) {n : Nat} {d : Array T} (hd : AllP n P d) {a j : Nat} (f : a < n) (m : j < n) (x : Int) (k : Nat) (o : k≤1000002) :
    Zn (x,(j : Int),d.toList) (a : Int) q (k : Int) = if (decide (k≤j) && (fun x=>lt x d[a]!) d[k]!) = true then some (.inl ((k + 1 : Nat) : Int)) else some (.inr (k : Int)):=by
  have l:=hd.1;by_cases h : k≤j
  · obtain ⟨r,b,c⟩:=g d[k]! d[a]! (hd.2.2 _ q6) (hd.2.2 _ f);have t : decide ((k : Int)≤(j : Int)) = true:=Q6 q6;simp only [Zn,t,qw,gx (d:=d) (k:=k) q6,gx (d:=d) (k:=a) q6,qj,b,c,w1p k q6];simp only [Q6 h,Bool.true_and,Bool.cond_eq_ite]
  · have t : decide ((k : Int)≤(j : Int)) = false:=Q9 q6;simp only [Zn,t,qv,qj];simp [h]
theorem qi2 (f : Ko q lt P) {n : Nat} {d : Array T} (hd : AllP n P d) {a i : Nat} (c : a < n) (hi : 1≤i) (x y : Int) (k : Nat) (m : k < n) :
    Zo (i : Int) (x,y,d.toList) (a : Int) q (k : Int) = if (decide (i≤k) && (fun x=>!lt x d[a]!) d[k]!) = true then some (.inl ((k - 1 : Nat) : Int)) else some (.inr (k : Int)):=by
  have j:=hd.1;have l:=hd.2.1;by_cases h : i≤k
  · obtain ⟨r,b,g⟩:=f d[k]! d[a]! (hd.2.2 _ q6) (hd.2.2 _ c);have t : decide ((i : Int)≤(k : Int)) = true:=Q6 q6;have w : w64 ((k : Int) - 1) = ((k - 1 : Nat) : Int):=by rw [Qc q6];omega
    simp only [Zo,t,qw,gx (d:=d) (k:=k) q6,gx (d:=d) (k:=a) q6,qj,b,g,w];simp only [Q6 h,Bool.true_and,Bool.cond_eq_ite]
  · have t : decide ((i : Int)≤(k : Int)) = false:=Q9 q6;simp only [Zo,t,qv,qj];simp [h]
theorem qq7 (g : Ko q lt P) {n : Nat} {d : Array T} (hd : AllP n P d) {a j : Nat} (f : a < n) (m : j < n) (x : Int) (k : Nat) (o : k≤1000002) :
    Jz (x,(j : Int),d.toList) (a : Int) q (k : Int) = if (decide (k≤j) && (fun x=>!lt d[a]! x) d[k]!) = true then some (.inl ((k + 1 : Nat) : Int)) else some (.inr (k : Int)):=by
  have l:=hd.1;by_cases h : k≤j
  · obtain ⟨r,b,c⟩:=g d[a]! d[k]! (hd.2.2 _ f) (hd.2.2 _ q6);have t : decide ((k : Int)≤(j : Int)) = true:=Q6 q6;simp only [Jz,t,qw,gx (d:=d) (k:=k) q6,gx (d:=d) (k:=a) q6,qj,b,c,w1p k q6];simp only [Q6 h,Bool.true_and,Bool.cond_eq_ite]
  · have t : decide ((k : Int)≤(j : Int)) = false:=Q9 q6;simp only [Jz,t,qv,qj];simp [h]
theorem qq8 (f : Ko q lt P) {n : Nat} {d : Array T} (hd : AllP n P d) {a i : Nat} (c : a < n) (hi : 1≤i) (x y : Int) (k : Nat) (m : k < n) :
    U0 (i : Int) (x,y,d.toList) (a : Int) q (k : Int) = if (decide (i≤k) && (fun x=>lt d[a]! x) d[k]!) = true then some (.inl ((k - 1 : Nat) : Int)) else some (.inr (k : Int)):=by
  have j:=hd.1;have l:=hd.2.1;by_cases h : i≤k
  · obtain ⟨r,b,g⟩:=f d[a]! d[k]! (hd.2.2 _ c) (hd.2.2 _ q6);have t : decide ((i : Int)≤(k : Int)) = true:=Q6 q6;have w : w64 ((k : Int) - 1) = ((k - 1 : Nat) : Int):=by rw [Qc q6];omega
    simp only [U0,t,qw,gx (d:=d) (k:=k) q6,gx (d:=d) (k:=a) q6,qj,b,g,w];simp only [Q6 h,Bool.true_and,Bool.cond_eq_ite]
  · have t : decide ((i : Int)≤(k : Int)) = false:=Q9 q6;simp only [U0,t,qv,qj];simp [h]
theorem qpy (r : Ko q lt P) (a n : Nat) (v : a < n) : ∀ (m i j : Nat) (d : Array T),j + 1 - i = m→AllP n P d→1≤i→i≤n + 1→j < n→
    loop (Ut (a : Int) q) ((i : Int),(j : Int),d.toList) = some (((Sort.partLoop lt a i j d).1 : Int),(Sort.partLoop lt a i j d).2.toList)∧AllP n P (Sort.partLoop lt a i j d).2∧(Sort.partLoop lt a i j d).1 < n:=by
  intro m
  induction m using Nat.strongRecOn with
  | _ m ih=>
    intro i j d hm hd hi z s;have aa:=hd.1;have hn:=hd.2.1;rw [Sort.partLoop_eq];have o:=qdh (f:=Zn ((i : Int),(j : Int),d.toList) (a : Int) q) (fun x=>lt x d[a]!) d j (fun k l=>qi1 r hd v s _ k l) q6 _ i rfl q6;have g1:=Sort.scanUp_ge (fun x=>lt x d[a]!) d j i;have y:=(Sort.scanUp_spec (fun x=>lt x d[a]!) d j _ i rfl).2.1;generalize Sort.scanUp (fun x=>lt x d[a]!) d j i = c at o g1 y ⊢;have p:=qab (f:=Zo (c : Int) ((i : Int),(j : Int),d.toList) (a : Int) q) (fun x=>!lt x d[a]!) d c n q6 (fun k l=>qi2 r hd v q6 _ _ k l) j s;have g2:=Sort.scanDown_le (fun x=>!lt x d[a]!) d c j;generalize Sort.scanDown (fun x=>!lt x d[a]!) d c j = g at p g2 ⊢;by_cases u : c > g
    · rw [qp u];have t : decide ((c : Int) > (g : Int)) = true:=Q6 q6;refine ⟨Kb ?_,hd,by show g < n;omega⟩;simp only [Ut,o,p,qj,t,qw]
    · rw [qs u];have t : decide ((c : Int) > (g : Int)) = false:=Q9 q6;have h:=ih ((g - 1) + 1 - (c + 1)) q6 (c + 1) (g - 1) _ rfl (hd.swp (a:=c) (b:=g) q6 q6) q6 q6 q6;refine ⟨?_,h.2⟩;rw [Km (a':=(((c + 1 : Nat) : Int),((g - 1 : Nat) : Int),(Sort.swp d c g).toList)) ?_]
      · exact h.1
      · have w : w64 ((g : Int) - 1) = ((g - 1 : Nat) : Int):=by rw [Qc q6];omega
        simp only [Ut,o,p,qj,t,qv,gx (d:=d) (k:=c) q6,gx (d:=d) (k:=g) q6,gxs (d:=d) (k:=g) q6,Int.toNat_natCast,gswp,w,w1p c q6]
theorem qpx (p : Ko q lt P) (a n : Nat) (u : a < n) : ∀ (m i j : Nat) (d : Array T),j + 1 - i = m→AllP n P d→1≤i→i≤n + 1→j < n→
    loop (Us (a : Int) q) ((i : Int),(j : Int),d.toList) = some (((Sort.partEqLoop lt a i j d).1 : Int),(Sort.partEqLoop lt a i j d).2.toList):=by
  intro m
  induction m using Nat.strongRecOn with
  | _ m ih=>
    intro i j d hm hd hi y r;have z:=hd.1;have hn:=hd.2.1;rw [Sort.partEqLoop_eq];have l:=qdh (f:=Jz ((i : Int),(j : Int),d.toList) (a : Int) q) (fun x=>!lt d[a]! x) d j (fun k h=>qq7 p hd u r _ k h) q6 _ i rfl q6;have g1:=Sort.scanUp_ge (fun x=>!lt d[a]! x) d j i;have v:=(Sort.scanUp_spec (fun x=>!lt d[a]! x) d j _ i rfl).2.1;generalize Sort.scanUp (fun x=>!lt d[a]! x) d j i = c at l g1 v ⊢;have o:=qab (f:=U0 (c : Int) ((i : Int),(j : Int),d.toList) (a : Int) q) (fun x=>lt d[a]! x) d c n q6 (fun k h=>qq8 p hd u q6 _ _ k h) j r;have g2:=Sort.scanDown_le (fun x=>lt d[a]! x) d c j;generalize Sort.scanDown (fun x=>lt d[a]! x) d c j = g at o g2 ⊢;by_cases s : c > g
    · rw [qp s];have t : decide ((c : Int) > (g : Int)) = true:=Q6 q6;refine Kb ?_;simp only [Us,l,o,qj,t,qw]
    · rw [qs s];have t : decide ((c : Int) > (g : Int)) = false:=Q9 q6;rw [Km (a':=(((c + 1 : Nat) : Int),((g - 1 : Nat) : Int),(Sort.swp d c g).toList)) ?_]
      · exact ih ((g - 1) + 1 - (c + 1)) q6 (c + 1) (g - 1) _ rfl (hd.swp (a:=c) (b:=g) q6 q6) q6 q6 q6
      · have w : w64 ((g : Int) - 1) = ((g - 1 : Nat) : Int):=by rw [Qc q6];omega
        simp only [Us,l,o,qj,t,qv,gx (d:=d) (k:=c) q6,gx (d:=d) (k:=g) q6,gxs (d:=d) (k:=g) q6,Int.toNat_natCast,gswp,w,w1p c q6]
theorem qq0 (f : Ko q lt P) {a b n p : Nat} (hb : b≤n) (c : a < b) (hp : p < n) {d : Array T} (hd : AllP n P d) :
    Ur q d.toList (a : Int) (b : Int) (p : Int) = some (((Sort.partitionEqual lt d a b p).1 : Int),(Sort.partitionEqual lt d a b p).2.toList):=by
  have g:=hd.1;have h:=hd.2.1;have w : w64 ((b : Int) - 1) = ((b - 1 : Nat) : Int):=by rw [Qc q6];omega
  have s:=qpx f a n q6 _ (a + 1) (b - 1) _ rfl (hd.swp (a:=a) (b:=p) q6 hp) q6 q6 q6;unfold Ur Sort.partitionEqual;simp only [gx (d:=d) (k:=p) q6,gx (d:=d) (k:=a) q6,gxs (d:=d) (k:=p) q6,qj,Int.toNat_natCast,gswp,w,w1p a q6,s]
theorem qq1 (j : Ko q lt P) {a b n p : Nat} (hb : b≤n) (ag : a < b) (hp : p < n) {d : Array T} (hd : AllP n P d) :
    Uq q d.toList (a : Int) (b : Int) (p : Int) = some (((Sort.partition lt d a b p).1 : Int),(Sort.partition lt d a b p).2.1,(Sort.partition lt d a b p).2.2.toList):=by
  have aa:=hd.1;have hn:=hd.2.1;have w : w64 ((b : Int) - 1) = ((b - 1 : Nat) : Int):=by rw [Qc q6];omega
  have h:=hd.swp (a:=a) (b:=p) q6 hp
  have u : q1n (b : Int) d.toList (a : Int) d[p]! (p : Int) d[a]! q = Zn ((0 : Int),((b - 1 : Nat) : Int),(Sort.swp d a p).toList) (a : Int) q:=by
    funext k;simp only [q1n,Zn,w,Int.toNat_natCast,gswp]
  have e2 : ∀ c : Int,q1o c d.toList (a : Int) d[p]! (p : Int) d[a]! q = Zo c ((0 : Int),(0 : Int),(Sort.swp d a p).toList) (a : Int) q:=by
    intro c;funext k;simp only [q1o,Zo,Int.toNat_natCast,gswp]
  unfold Uq Sort.partition;simp only [gx (d:=d) (k:=p) q6,gx (d:=d) (k:=a) q6,gxs (d:=d) (k:=p) q6,qj,u,e2,Int.toNat_natCast,gswp,w,w1p a q6];generalize Sort.swp d a p = D at h ⊢;have y:=h.1;have o:=qdh (f:=Zn ((0 : Int),((b - 1 : Nat) : Int),D.toList) (a : Int) q) (fun x=>lt x D[a]!) D (b - 1) (fun k l=>qi1 j h q6 q6 _ k l) q6 _ (a + 1) rfl q6;have g1:=Sort.scanUp_ge (fun x=>lt x D[a]!) D (b - 1) (a + 1);generalize Sort.scanUp (fun x=>lt x D[a]!) D (b - 1) (a + 1) = c at o g1 ⊢;have s:=qab (f:=Zo (c : Int) ((0 : Int),(0 : Int),D.toList) (a : Int) q) (fun x=>!lt x D[a]!) D c n q6 (fun k l=>qi2 j h q6 q6 _ _ k l) (b - 1) q6;have g2:=Sort.scanDown_le (fun x=>!lt x D[a]!) D c (b - 1);generalize Sort.scanDown (fun x=>!lt x D[a]!) D c (b - 1) = g at s g2 ⊢;simp only [o,s,qj];by_cases r : c > g
  · have t : decide ((c : Int) > (g : Int)) = true:=Q6 q6;simp only [qp r,t,qw,gx (d:=D) (k:=a) q6,gx (d:=D) (k:=g) q6,gxs (d:=D) (k:=a) q6,qj,Int.toNat_natCast,gswp]
  · have t : decide ((c : Int) > (g : Int)) = false:=Q9 q6;have w2 : w64 ((g : Int) - 1) = ((g - 1 : Nat) : Int):=by rw [Qc q6];omega
    obtain ⟨z,m,b3⟩:=qpy j a n q6 _ (c + 1) (g - 1) _ rfl (h.swp (a:=c) (b:=g) q6 q6) q6 q6 q6;simp only [qs r,t,qv,gx (d:=D) (k:=c) q6,gx (d:=D) (k:=g) q6,gxs (d:=D) (k:=g) q6,qj,Int.toNat_natCast,gswp,w2,w1p c q6,z];generalize Sort.partLoop lt a (c + 1) (g - 1) (Sort.swp D c g) = R at m b3 ⊢;have v:=m.1;simp only [gx (d:=R.2) (k:=a) q6,gx (d:=R.2) (k:=R.1) q6,gxs (d:=R.2) (k:=a) q6,qj,Int.toNat_natCast,gswp]
theorem qru (j : Ko q lt P) {b n : Nat} (hb : b≤n) {d : Array T} (hd : AllP n P d) (x y : Int) : ∀ (m i : Nat),b - i = m→1≤i→i≤b→
    loop (Jw (b : Int) (x,y,d.toList) q) (i : Int) = some ((Sort.scanSorted lt d b i : Nat) : Int)∧i≤Sort.scanSorted lt d b i∧Sort.scanSorted lt d b i≤b:=by
  have l:=hd.1;have p:=hd.2.1;intro m
  induction m with
  | zero=>
    intro i o hi a;unfold Sort.scanSorted;rw [qs (by simp;omega)];have t : decide ((i : Int) < (b : Int)) = false:=Q9 q6;exact ⟨Kb (by simp only [Jw,t,qv,qj]),Nat.le_refl _,a⟩
  | succ m ih=>
    intro i o hi a;unfold Sort.scanSorted;have t : decide ((i : Int) < (b : Int)) = true:=Q6 q6;have w : w64 ((i : Int) - 1) = ((i - 1 : Nat) : Int):=by rw [Qc q6];omega
    obtain ⟨r,g,h⟩:=j d[i]! d[i - 1]! (hd.2.2 _ q6) (hd.2.2 _ q6);by_cases c : lt d[i]! d[i - 1]! = true
    · rw [qs (by simp [c])];refine ⟨Kb ?_,Nat.le_refl _,a⟩;simp only [Jw,t,qw,w,gx (d:=d) (k:=i) q6,gx (d:=d) (k:=i - 1) q6,qj,g,h,c,Bool.not_true,qv]
    · have c : lt d[i]! d[i - 1]! = false:=by simpa using c
      rw [qp (by simp [c];omega)];have f:=ih (i + 1) q6 q6 q6;refine ⟨?_,q6,f.2.2⟩;rw [Km (a':=((i + 1 : Nat) : Int)) ?_]
      · exact f.1
      · simp only [Jw,t,qw,w,gx (d:=d) (k:=i) q6,gx (d:=d) (k:=i - 1) q6,qj,g,h,c,Bool.not_false,w1p i q6]
theorem qj7 (g : Ko q lt P) (n : Nat) : ∀ (j : Nat) (d : Array T),AllP n P d→j < n→loop (Jx q) ((j : Int),d.toList) = some (Sort.shiftDown lt j d).toList∧AllP n P (Sort.shiftDown lt j d)
  | 0,d,hd,hj=>by
    have t : decide (((0 : Nat) : Int) ≥ 1) = false:=Q9 q6
    exact ⟨Kb (by simp only [Jx,t,qv];rfl),hd⟩
  | j + 1,d,hd,hj=>by
    have m:=hd.1
    have o:=hd.2.1
    have t : decide (((j + 1 : Nat) : Int) ≥ 1) = true:=Q6 q6
    obtain ⟨r,f,h⟩:=g d[j + 1]! d[j]! (hd.2.2 _ hj) (hd.2.2 _ q6)
    unfold Sort.shiftDown
    by_cases c : lt d[j + 1]! d[j]! = true
    · rw [qs (by simp [c])]
      have l:=qj7 g n j _ (hd.swp (a:=j + 1) (b:=j) hj q6) q6
      refine ⟨?_,l.2⟩
      rw [Km (a':=((j : Int),(Sort.swp d (j + 1) j).toList)) ?_]
      · exact l.1
      · simp only [Jx,t,qw,gx (d:=d) (k:=j + 1) q6,w1m j q6,gx (d:=d) (k:=j) q6,gxs (d:=d) (k:=j) q6,qj,f,h,c,Bool.not_true,qv,Int.toNat_natCast,gswp]
    · have c : lt d[j + 1]! d[j]! = false:=by simpa using c
      rw [qp (by simp [c])]
      refine ⟨Kb ?_,hd⟩
      simp only [Jx,t,qw,gx (d:=d) (k:=j + 1) q6,w1m j q6,gx (d:=d) (k:=j) q6,qj,f,h,c,Bool.not_false]
theorem qj9 (o : Ko q lt P) {b n : Nat} (hb : b≤n) (c : Int) : ∀ (m j : Nat) (d : Array T),b - j = m→AllP n P d→1≤j→loop (Jy (b : Int) q c) ((j : Int),d.toList) = some (c,(Sort.shiftUp lt b j d).toList)∧AllP n P (Sort.shiftUp lt b j d):=by
  intro m
  induction m with
  | zero=>
    intro j d u hd p;unfold Sort.shiftUp;rw [qs q6];have t : decide ((j : Int) < (b : Int)) = false:=Q9 q6;exact ⟨Kb (by simp only [Jy,t,qv]),hd⟩
  | succ m ih=>
    intro j d u hd p;have s:=hd.1;have v:=hd.2.1;unfold Sort.shiftUp;rw [qp q6];have t : decide ((j : Int) < (b : Int)) = true:=Q6 q6;have w : w64 ((j : Int) - 1) = ((j - 1 : Nat) : Int):=by rw [Qc q6];omega
    obtain ⟨r,h,l⟩:=o d[j]! d[j - 1]! (hd.2.2 _ q6) (hd.2.2 _ q6);by_cases f : lt d[j]! d[j - 1]! = true
    · rw [qs (by simp [f])];have g:=ih (j + 1) _ q6 (hd.swp (a:=j) (b:=j - 1) q6 q6) q6;refine ⟨?_,g.2⟩;rw [Km (a':=(((j + 1 : Nat) : Int),(Sort.swp d j (j - 1)).toList)) ?_]
      · exact g.1
      · simp only [Jy,t,qw,w,gx (d:=d) (k:=j) q6,gx (d:=d) (k:=j - 1) q6,gxs (d:=d) (k:=j - 1) q6,qj,h,l,f,Bool.not_true,qv,Int.toNat_natCast,gswp,w1p j q6]
    · have f : lt d[j]! d[j - 1]! = false:=by simpa using f
      rw [qp (by simp [f])];refine ⟨Kb ?_,hd⟩;simp only [Jy,t,qw,w,gx (d:=d) (k:=j) q6,gx (d:=d) (k:=j - 1) q6,qj,h,l,f,Bool.not_false]
theorem qi4 (h : Ko q lt P) {a b n : Nat} (hb : b≤n) : ∀ (s i : Nat) (d : Array T),s≤5→AllP n P d→a < i→i≤b→
    ∃ m,loop (Zg (b : Int) q (a : Int)) ((i : Int),((5 - s : Nat) : Int),d.toList) = some m∧(match m with | .inl b441=>some (false,b441) | .inr x1=>some x1) = some ((Sort.partialIns lt a b s i d).2,(Sort.partialIns lt a b s i d).1.toList)
  | 0,i,d,hs,hd,hi,hib=>by
    have t : decide (((5 - 0 : Nat) : Int) < 5) = false:=Q9 q6
    refine ⟨.inl d.toList,Kb (by simp only [Zg,t,qv]),rfl⟩
  | s + 1,i,d,hs,hd,hi,hib=>by
    have af:=hd.1
    have hn:=hd.2.1
    have t : decide (((5 - (s + 1) : Nat) : Int) < 5) = true:=Q6 q6
    rw [Sort.partialIns_succ]
    obtain ⟨p,l1,u1⟩:=qru h hb hd (i : Int) ((5 - (s + 1) : Nat) : Int) _ i rfl q6 hib
    generalize Sort.scanSorted lt d b i = k at p l1 u1 ⊢
    by_cases hk : k = b
    · subst hk
      rw [qp rfl]
      refine ⟨.inr (true,d.toList),Kb ?_,rfl⟩
      simp only [Zg,t,qw,p,qj,beq_self_eq_true]
    · rw [qs hk]
      have tk : ((k : Int) == (b : Int)) = false:=by simp;omega
      have w : w64 ((b : Int) - (a : Int)) = ((b - a : Nat) : Int):=wsub q6 q6
      by_cases l : b - a < 50
      · rw [qp l]
        have f : decide (((b - a : Nat) : Int) < 50) = true:=Q6 q6
        refine ⟨.inr (false,d.toList),Kb ?_,rfl⟩
        simp only [Zg,t,qw,p,qj,tk,qv,w,f]
      · rw [qs l]
        have f : decide (((b - a : Nat) : Int) < 50) = false:=Q9 q6
        have wk : w64 ((k : Int) - 1) = ((k - 1 : Nat) : Int):=by rw [Qc q6];omega
        have wa : w64 ((k : Int) - (a : Int)) = ((k - a : Nat) : Int):=wsub q6 q6
        have wb : w64 ((b : Int) - (k : Int)) = ((b - k : Nat) : Int):=wsub q6 q6
        have j:=hd.swp (a:=k) (b:=k - 1) q6 q6
        have down : (cond (decide (((k - a : Nat) : Int) ≥ 2)) ((loop (Jx q) (((k - 1 : Nat) : Int),(Sort.swp d k (k - 1)).toList)).bind fun x0=>some x0) (some (Sort.swp d k (k - 1)).toList)) = some (Sort.fixDown lt a k (Sort.swp d k (k - 1))).toList∧AllP n P (Sort.fixDown lt a k (Sort.swp d k (k - 1))):=by
          unfold Sort.fixDown;by_cases o : k - a ≥ 2
          · have g : decide (((k - a : Nat) : Int) ≥ 2) = true:=Q6 q6;obtain ⟨x,y⟩:=qj7 h n (k - 1) _ j q6;rw [qp o,g,qw,x];exact ⟨rfl,y⟩
          · have g : decide (((k - a : Nat) : Int) ≥ 2) = false:=Q9 q6;rw [qs o,g,qv];exact ⟨rfl,j⟩
        obtain ⟨dn,c⟩:=down
        have r : AllP n P (Sort.fixUp lt b k (Sort.fixDown lt a k (Sort.swp d k (k - 1)))):=by
          unfold Sort.fixUp;split
          · exact (qj9 h hb 0 _ (k + 1) _ rfl c q6).2
          · exact c
        obtain ⟨m,u,v⟩:=qi4 (a:=a) h hb s k _ q6 r q6 u1
        refine ⟨m,?_,v⟩
        rw [Km (a':=((k : Int),((5 - s : Nat) : Int),(Sort.fixUp lt b k (Sort.fixDown lt a k (Sort.swp d k (k - 1)))).toList)) ?_]
        · exact u
        · have z : w64 (((5 - (s + 1) : Nat) : Int) + 1) = ((5 - s : Nat) : Int):=by rw [Qc q6];omega
          simp only [Zg,t,qw,p,qj,tk,qv,w,f,wk,gx (d:=d) (k:=k) q6,gx (d:=d) (k:=k - 1) q6,gxs (d:=d) (k:=k - 1) q6,Int.toNat_natCast,gswp,wa,dn,wb,w1p k q6]
          unfold Sort.fixUp
          by_cases o : b - k ≥ 2
          · have g : decide (((b - k : Nat) : Int) ≥ 2) = true:=Q6 q6
            obtain ⟨x,y⟩:=qj9 h hb (k : Int) _ (k + 1) _ rfl c q6
            rw [qp o,g,qw,x]
            simp only [qj,z]
          · have g : decide (((b - k : Nat) : Int) ≥ 2) = false:=Q9 q6
            rw [qs o,g,qv]
            simp only [qj,z]
theorem qpz (h : Ko q lt P) {a b n : Nat} (hb : b≤n) (f : a < b) {d : Array T} (hd : AllP n P d) :
    Ji q d.toList (a : Int) (b : Int) = some ((Sort.partialInsertionSort lt d a b).2,(Sort.partialInsertionSort lt d a b).1.toList):=by
  have j:=hd.2.1;obtain ⟨m,c,g⟩:=qi4 (a:=a) h hb 5 (a + 1) d q6 hd q6 q6;have c : loop (Zg (b : Int) q (a : Int)) (((a + 1 : Nat) : Int),0,d.toList) = some m:=c;unfold Ji Sort.partialInsertionSort;rw [w1p a q6,c];exact g
end
end Go.Sh
namespace Go.Sh
open Go Go.Am
theorem qh3 {α β : Type} {f : α→Option (α ⊕ β)} {a : α} (h : f a = none) : loop f a = none:=by
  apply Option.ext;intro b;rw [q6x];constructor
  · rintro ⟨n,c⟩
    cases n with
    | zero=>simp [iter] at c
    | succ n=>simp [iter,h] at c
  · intro h;cases h
section
variable {T : Type} [Inhabited T] {P : T→Prop} {lt : T→T→Bool} {q : T→T→Option Int}
def Srt (lt : T→T→Bool) (a b : Nat) (d : Array T) (o : Option (List T)) : Prop:=∃ d' : Array T,o = some d'.toList∧Sort.PermIn a b d d'∧Sort.SortedIn lt a b d'
theorem qq6 (hq : Ko q lt P) (hS : Sort.SWO lt) {n N : Nat} (ae : List T→Int→Int→Int→Option (List T))
    (au : ∀ (a b f : Nat) (d : Array T),AllP n P d→a≤b→b≤n→f≤1000→Sort.Below lt a b d→Srt lt a b d (ae d.toList (a : Int) (b : Int) (f : Int))∨(N≤b - a∧ae d.toList (a : Int) (b : Int) (f : Int) = none)) :
    ∀ (m a b f : Nat) (wb wp : Bool) (d : Array T),b - a = m→AllP n P d→a≤b→b≤n→f≤1000→Sort.Below lt a b d→
      Srt lt a b d (loop (Z6 q ae) ((a : Int),(b : Int),(f : Int),wb,wp,d.toList))∨(N + 1≤b - a∧loop (Z6 q ae) ((a : Int),(b : Int),(f : Int),wb,wp,d.toList) = none):=by
  intro m
  induction m using Nat.strongRecOn with
  | _ m ih=>
    intro a b f wb wp d hm hd o hb hl hB;have dj:=hd.1;have hn:=hd.2.1;have e0 : w64 ((b : Int) - (a : Int)) = ((b - a : Nat) : Int):=wsub o q6;by_cases dh : b - a≤12
    ·
      have t : decide (((b - a : Nat) : Int)≤12) = true:=Q6 q6;obtain ⟨x,y⟩:=Sort.insertionSort_holds (lt:=lt) hS d a b o q6;have s:=qnj hq hb o hd;refine .inl ⟨_,Kb ?_,x,y⟩;simp only [Z6,e0,t,qw,s,qj,Jl hd (hd.perm o hb x)]
    have bq : decide (((b - a : Nat) : Int)≤12) = false:=Q9 q6;by_cases h0 : f = 0
    ·
      have t : ((f : Int) == 0) = true:=by simp [h0]
      obtain ⟨x,y⟩:=Sort.heapSort_holds (lt:=lt) hS d a b o q6;have s:=qne hq hb (by omega : a < b) hd;refine .inl ⟨_,Kb ?_,x,y⟩;simp only [Z6,e0,bq,qv,t,qw,s,qj,Jl hd (hd.perm o hb x)]
    have t0 : ((f : Int) == 0) = false:=by simp [h0]
    have hA : ∃ (l1 : Nat) (d1 : Array T),(cond (!wb) ((Um q d.toList (a : Int) (b : Int)).bind fun bd=>(Qw bd.length d.toList.length).bind fun cy=>some (w64 ((f : Int) - 1),bd)) (some ((f : Int),d.toList))) = some ((l1 : Int),d1.toList)∧l1≤1000∧AllP n P d1∧Sort.PermIn a b d d1:=by
      cases wb with
      | true=>exact ⟨f,d,rfl,hl,hd,Sort.permIn_refl _ _ _⟩
      | false=>
        have x:=Sort.breakPatterns_holds d a b o q6;have aa:=hd.perm o hb x;have w : w64 ((f : Int) - 1) = ((f - 1 : Nat) : Int):=by rw [Qc q6];omega
        refine ⟨f - 1,_,?_,q6,aa,x⟩;simp only [Bool.not_false,qw,qkt (q:=q) hb (by omega : a < b) hd,qj,Jl hd aa,w]
    obtain ⟨l1,d1,eA,am,aa,p1⟩:=hA;have hC:=qls hq aa (by omega : a < b) hb;obtain ⟨c1,c2⟩:=Sort.choosePivot_holds lt d1 a b q6;generalize (Sort.choosePivot lt d1 a b).1 = c at hC c1 c2;generalize qc4 (Sort.choosePivot lt d1 a b).2 = h at hC
    have hR : ∃ (p : Nat) (h2 : Int) (d2 : Array T),(cond (h == 2) ((Uu q d1.toList (a : Int) (b : Int)).bind fun az=>(Qw az.length d1.toList.length).bind fun cx=>some (w64 ((w64 ((b : Int) - 1)) - (w64 ((c : Int) - (a : Int)))),(1 : Int),az)) (some ((c : Int),h,d1.toList))) = some ((p : Int),h2,d2.toList)∧a≤p∧p < b∧AllP n P d2∧Sort.PermIn a b d1 d2:=by
      cases hh : (h == 2) with
      | false=>exact ⟨c,h,d1,rfl,c1,c2,aa,Sort.permIn_refl _ _ _⟩
      | true=>
        have x:=Sort.reverseRange_holds d1 a b o (by rw [aa.1];exact hb);have ac:=aa.perm o hb x;have w1 : w64 ((b : Int) - 1) = ((b - 1 : Nat) : Int):=by rw [Qc q6];omega
        have w2 : w64 ((c : Int) - (a : Int)) = ((c - a : Nat) : Int):=wsub c1 q6;have w3 : w64 (((b - 1 : Nat) : Int) - ((c - a : Nat) : Int)) = ((b - 1 - (c - a) : Nat) : Int):=wsub q6 q6;refine ⟨b - 1 - (c - a),1,_,?_,q6,q6,ac,x⟩;simp only [qw,qrq (q:=q) hb (by omega : a < b) aa,qj,Jl aa ac,w1,w2,w3]
    obtain ⟨p,h2,d2,eR,hp1,hp2,ac,p2⟩:=hR;have bl : Sort.Below lt a b d2:=(hB.perm q6 p1).perm (by rw [aa.1];exact hb) p2;have bu:=Sort.permIn_trans _ _ _ a b p1 p2
    have hP : ∀ cc : Bool,∃ ab : (List T) ⊕ (List T),(cond cc ((Ji q d2.toList (a : Int) (b : Int)).bind fun ag=>(Qw ag.2.length d2.toList.length).bind fun cw=>cond ag.1 (some (.inr ag.2)) (some (.inl ag.2))) (some (.inl d2.toList)) : Option ((List T) ⊕ (List T))) = some ab∧
        ((∃ l : Array T,ab = .inr l.toList∧Sort.PermIn a b d2 l∧Sort.SortedIn lt a b l)∨(∃ l : Array T,ab = .inl l.toList∧AllP n P l∧Sort.PermIn a b d2 l)):=by
      intro cc
      cases cc with
      | false=>exact ⟨_,rfl,.inr ⟨d2,rfl,ac,Sort.permIn_refl _ _ _⟩⟩
      | true=>
        obtain ⟨x,y⟩:=Sort.partialInsertionSort_holds (lt:=lt) hS d2 a b q6 (by rw [ac.1];exact hb) bl;have u:=ac.perm o hb x;have s:=qpz hq hb (by omega : a < b) ac;simp only [qw,s,qj,Jl ac u]
        cases hz : (Sort.partialInsertionSort lt d2 a b).2 with
        | true=>exact ⟨_,rfl,.inl ⟨_,rfl,x,y hz⟩⟩
        | false=>exact ⟨_,rfl,.inr ⟨_,rfl,u,x⟩⟩
    obtain ⟨ab,eP,bm⟩:=hP (wb && wp && (h2 == 1))
    have cm : ∀ {γ : Type} (X : Bool→Option γ),((cond wb (some wp) (some false)).bind fun bn=>(cond bn (some (h2 == 1)) (some false)).bind X) = X (wb && wp && (h2 == 1)):=by
      intro γ X;cases wb <;> cases wp <;> rfl
    have head : Z6 q ae ((a : Int),(b : Int),(f : Int),wb,wp,d.toList) = (match (generalizing:=false) ab with | .inl b377=>(cond (decide ((a : Int) > 0)) ((idx b377 (w64 ((a : Int) - 1))).bind fun ao=>(idx b377 (p : Int)).bind fun aq=>(q ao aq).bind fun ar=>some (!(decide (ar < 0)))) (some false)).bind fun bv=>cond bv ((Ur q b377 (a : Int) (b : Int) (p : Int)).bind fun al=>(Qw al.2.length b377.length).bind fun ct=>some (.inl (al.1,(b : Int),(l1 : Int),wb,wp,al.2))) ((Uq q b377 (a : Int) (b : Int) (p : Int)).bind fun g=>(Qw g.2.2.length b377.length).bind fun cu=>cond (decide ((w64 (g.1 - (a : Int))) < (w64 ((b : Int) - g.1)))) ((ae g.2.2 (a : Int) g.1 (l1 : Int)).bind fun be=>(Qw be.length g.2.2.length).bind fun cv=>some (.inl (w64 (g.1 + 1),(b : Int),(l1 : Int),decide ((w64 (g.1 - (a : Int))) ≥ (w64 (Int.tdiv ((b - a : Nat) : Int) 8))),g.2.1,be))) ((ae g.2.2 (w64 (g.1 + 1)) (b : Int) (l1 : Int)).bind fun ba=>(Qw ba.length g.2.2.length).bind fun dd=>some (.inl ((a : Int),g.1,(l1 : Int),decide ((w64 ((b : Int) - g.1)) ≥ (w64 (Int.tdiv ((b - a : Nat) : Int) 8))),g.2.1,ba)))) | .inr x1=>some (.inr x1)):=by
      simp only [Z6,e0,bq,qv,t0,eA,qj,hC,eR,cm,eP]
      clear eP bm hP au ih
      cases ab <;> rfl
    rcases bm with ⟨l,rfl,x,y⟩ | ⟨l,rfl,u,p3⟩
    · refine .inl ⟨l,Kb ?_,Sort.permIn_trans _ _ _ a b bu x,y⟩;rw [head]
    have ax:=u.1;have P3:=Sort.permIn_trans _ _ _ a b bu p3;have B3 : Sort.Below lt a b l:=bl.perm (by rw [ac.1];exact hb) p3
    have bh : (cond (decide ((a : Int) > 0)) ((idx l.toList (w64 ((a : Int) - 1))).bind fun ao=>(idx l.toList (p : Int)).bind fun aq=>(q ao aq).bind fun ar=>some (!(decide (ar < 0)))) (some false)) = some (decide (a > 0) && !lt l[a - 1]! l[p]!):=by
      by_cases ha : a > 0
      · have ta : decide ((a : Int) > 0) = true:=Q6 q6;have w : w64 ((a : Int) - 1) = ((a - 1 : Nat) : Int):=by rw [Qc q6];omega
        obtain ⟨r,h1,h2⟩:=hq l[a - 1]! l[p]! (u.2.2 _ q6) (u.2.2 _ q6);simp only [ta,qw,w,gx (d:=l) (k:=a - 1) q6,gx (d:=l) (k:=p) q6,qj,h1,h2,Q6 ha,Bool.true_and]
      · have ta : decide ((a : Int) > 0) = false:=Q9 q6;simp only [ta,qv,Q9 ha,Bool.false_and]
    simp only [bh,qj] at head;by_cases hc : (decide (a > 0) && !lt l[a - 1]! l[p]!) = true
    ·
      rw [hc] at head;have s:=qq0 hq hb (by omega : a < b) (by omega : p < n) u;simp only [Bool.and_eq_true,decide_eq_true_eq,Bool.not_eq_true'] at hc
      cases hx : Sort.partitionEqual lt l a b p with
      | mk j d4=>
        obtain ⟨g1,g2,bz,cf,ad⟩:=Sort.round_eq hS (Sort.partitionEqual_holds lt) hc.1 hp1 hp2 (by rw [ax];exact hb) B3 hc.2 hx
        have cl : ∀ i,a≤i→i < b→lt l[i]! l[p]! = false:=fun i hi cb=>by
          rcases B3 with h0 | hB
          · omega
          · exact hS.ntrans _ _ _ (hB i hi cb) hc.2
        obtain ⟨_,_,v,_,_⟩:=Sort.partitionEqual_holds lt hS l a b p hp1 hp2 (by rw [ax];exact hb) cl;rw [hx] at v s;have z:=u.perm o hb v;simp only [qw,s,qj,Jl u z] at head;rw [Km head];rcases ih (b - j) q6 j b l1 wb wp d4 rfl z g2 hb am cf with ⟨R,r0,r1,r2⟩ | ⟨r1,r2⟩
        · obtain ⟨q1,q2⟩:=ad _ r1 r2;exact .inl ⟨R,r0,Sort.permIn_trans _ _ _ a b P3 q1,q2⟩
        · exact .inr ⟨q6,r2⟩
    ·
      have hc : (decide (a > 0) && !lt l[a - 1]! l[p]!) = false:=by simpa using hc
      rw [hc] at head;have s:=qq1 hq hb (by omega : a < b) (by omega : p < n) u
      cases hx : Sort.partition lt l a b p with
      | mk j r=>
      cases r with
      | mk ap d4=>
        obtain ⟨g1,g2,bz,cp,ck,bi,ay⟩:=Sort.round_part hS (Sort.partition_holds lt) hp1 hp2 (by rw [ax];exact hb) B3 hx;obtain ⟨_,_,v,_,_⟩:=Sort.partition_holds lt hS l a b p hp1 hp2 (by rw [ax];exact hb);rw [hx] at v s;have z:=u.perm o hb v;have w1 : w64 ((j : Int) - (a : Int)) = ((j - a : Nat) : Int):=wsub g1 q6;have w2 : w64 ((b : Int) - (j : Int)) = ((b - j : Nat) : Int):=wsub q6 q6;simp only [qv,s,qj,Jl u z,w1,w2,w1p j q6] at head;by_cases dr : j - a < b - j
        · have tl : decide (((j - a : Nat) : Int) < ((b - j : Nat) : Int)) = true:=Q6 q6;simp only [tl,qw] at head;rcases au a j l1 d4 z g1 q6 am cp with ⟨L,e,an,bj⟩ | ⟨r1,r2⟩
          · have av:=z.perm g1 q6 an;obtain ⟨bf,ad⟩:=bi _ an bj;simp only [e,qj,Jl z av] at head;rw [Km head];rcases ih (b - (j + 1)) q6 (j + 1) b l1 _ _ L rfl av q6 hb am bf with ⟨R,r0,r1,r2⟩ | ⟨r1,r2⟩
            · obtain ⟨q1,q2⟩:=ad _ r1 r2;exact .inl ⟨R,r0,Sort.permIn_trans _ _ _ a b P3 q1,q2⟩
            · exact .inr ⟨q6,r2⟩
          · simp only [r2,Option.bind_none] at head;exact .inr ⟨q6,qh3 head⟩
        · have tl : decide (((j - a : Nat) : Int) < ((b - j : Nat) : Int)) = false:=Q9 q6;simp only [tl,qv] at head;rcases au (j + 1) b l1 d4 z q6 hb am ck with ⟨L,e,an,bj⟩ | ⟨r1,r2⟩
          · have av:=z.perm (by omega : j + 1≤b) hb an;obtain ⟨bf,ad⟩:=ay _ an bj;simp only [e,qj,Jl z av] at head;rw [Km head];rcases ih (j - a) q6 a j l1 _ _ L rfl av g1 q6 am bf with ⟨R,r0,r1,r2⟩ | ⟨r1,r2⟩
            · obtain ⟨q1,q2⟩:=ad _ r1 r2;exact .inl ⟨R,r0,Sort.permIn_trans _ _ _ a b P3 q1,q2⟩
            · exact .inr ⟨q6,r2⟩
          · simp only [r2,Option.bind_none] at head;exact .inr ⟨q6,qh3 head⟩
theorem qi6 (f : Ko q lt P) (g : Sort.SWO lt) {n : Nat} : ∀ (N a b c : Nat) (d : Array T),AllP n P d→a≤b→b≤n→c≤1000→Sort.Below lt a b d→
    Srt lt a b d (Yu N q d.toList (a : Int) (b : Int) (c : Int))∨(N≤b - a∧Yu N q d.toList (a : Int) (b : Int) (c : Int) = none)
  | 0,a,b,c,d,_,_,_,_,_=>.inr ⟨q6,rfl⟩
  | N + 1,a,b,c,d,hd,hab,hb,hl,hB=>by
    have h:=qq6 f g (N:=N) (Yu N q) (fun a b c d j o l k m=>qi6 f g N a b c d j o l k m) _ a b c true true d rfl hd hab hb hl hB
    have e : Yu (N + 1) q d.toList (a : Int) (b : Int) (c : Int) = loop (Z6 q (Yu N q)) ((a : Int),(b : Int),(c : Int),true,true,d.toList):=by
      show U1 (Yu N q) q d.toList (a : Int) (b : Int) (c : Int) = _;unfold U1;cases loop (Z6 q (Yu N q)) ((a : Int),(b : Int),(c : Int),true,true,d.toList) <;> rfl
    rw [e]
    exact h
theorem qjq (t : Ko q lt P) (u : Sort.SWO lt) (xs : List T) (n : xs.length≤1000000) (s : ∀ x∈xs,P x) :
    ∃ ys,q1i q xs = some ys∧ys.Perm xs∧ys.Pairwise (fun x y=>lt y x = false):=by
  have hd : AllP xs.length P xs.toArray:=by
    refine ⟨qb,n,fun i hi=>?_⟩;have : xs.toArray[i]! = xs[i]:=by simp [hi]
    rw [this];exact s _ (Kw hi)
  have hk : Sort.bitsLen xs.length≤20:=(Sort.bitsLen_le_iff _ 20).2 q6;have c : ∀ N,_:=fun N=>qi6 t u N 0 xs.length (Sort.bitsLen xs.length) xs.toArray hd q6 q6 q6 (.inl rfl);have p:=c (xs.length + 1);rcases p with ⟨d',e,_,_⟩ | ⟨h,_⟩
  · obtain ⟨r,o⟩:=qnv (f:=fun N=>Yu N q xs 0 (xs.length : Int) ((Sort.bitsLen xs.length : Nat) : Int)) e;obtain ⟨N,g⟩:=qcb o;have g : Yu N q xs 0 (xs.length : Int) ((Sort.bitsLen xs.length : Nat) : Int) = some r:=g;rcases c N with ⟨a,b,x,y⟩ | ⟨_,b⟩
    · have b : Yu N q xs 0 (xs.length : Int) ((Sort.bitsLen xs.length : Nat) : Int) = some a.toList:=b;rw [g] at b;obtain rfl : r = a.toList:=qau b;have d : a.size = xs.length:=by rw [x.1];simp
      refine ⟨a.toList,?_,?_,?_⟩
      · unfold q1i;rw [q1c,show ((xs.length : Int) % 18446744073709551616) = (xs.length : Int) by omega,qh1 _ n];simp only [qj,o];unfold Qw;rw [qp (by simp [d])];rfl
      · have:=x.2.2;have v : a.extract 0 xs.length = a:=by rw [← d];simp
        have z : xs.toArray.extract 0 xs.length = xs.toArray:=by simp
        rw [v,z] at this;exact this
      · rw [List.pairwise_iff_getElem];intro i j hi w l;have k : i < a.size:=by simpa using hi
        have m : j < a.size:=by simpa using w
        have:=y i j q6 l q6;rw [getElem!_pos a i k,getElem!_pos a j m] at this;simpa using this
    · have b : Yu N q xs 0 (xs.length : Int) ((Sort.bitsLen xs.length : Nat) : Int) = none:=b;rw [g] at b;cases b
  · omega
end
end Go.Sh
namespace Go.Sh
open Go Go.Am
theorem qsu : qap = q4e:=rfl
theorem qrv : q1u = q2p:=by
  funext p0;simp only [q1u,q2p,qsu]
  all_goals exact Qs
theorem qj1 : U4 = Ul:=by
  funext p0;simp only [U4,Ul,qrv]
  all_goals exact Qs
theorem qs5 : q82 = Jg:=by
  funext p1 q1 a459;simp only [q82,Jg]
  all_goals exact Qs
theorem qs4 : q81 = Up:=by
  funext p2 p1 q1 a278;simp only [q81,Up,qs5]
  all_goals exact Qs
theorem qs3 : q80 = q1l:=by
  funext q1 p0 p1 p2;simp only [q80,q1l,qs4]
  all_goals exact Qs
theorem qst : q8k = Jj:=by
  funext p2 p3 q1 a197;simp only [q8k,Jj]
  all_goals exact Qs
theorem qj3 : q61 = U2:=by
  funext q1 p0 p1 p2 p3;simp only [q61,U2,qst]
  all_goals exact Qs
theorem qs1 : q7y = Un:=by
  funext q1 p2 p1 a123;simp only [q7y,Un,qj3]
  all_goals exact Qs
theorem qs2 : q7z = Uo:=by
  funext p1 q1 a191;simp only [q7z,Uo,qj3]
  all_goals exact Qs
theorem qs0 : q7x = q1k:=by
  funext q1 p0 p1 p2;simp only [q7x,q1k,qs1,qs2]
  all_goals exact Qs
theorem qs7 : q17 = q1m:=by
  funext p0;simp only [q17,q1m,qj1]
  all_goals exact Qs
theorem qsv : q18 = q1q:=by
  funext p0;simp only [q18,q1q]
  all_goals exact Qs
theorem qry : q7v = Jt:=by
  funext p1 p2 r101 a153;simp only [q7v,Jt,qsv]
  all_goals exact Qs
theorem qrx : q7u = Um:=by
  funext q1 p0 p1 p2;simp only [q7u,Um,qs7,qry]
  all_goals exact Qs
theorem qs8 : q3k = Jv:=by
  funext q1 p0 p1 p2 p3;simp only [q3k,Jv]
  all_goals exact Qs
theorem qj2 : q5h = Ju:=by
  funext q1 p0 p1 p2 p3 p4;simp only [q5h,Ju,qs8]
  all_goals exact Qs
theorem qs6 : q3i = Jh:=by
  funext q1 p0 p1 p2;simp only [q3i,Jh,qj2]
  all_goals exact Qs
theorem qrz : q7w = q1j:=by
  funext p0 p1 p2 p3;simp only [q7w,q1j,qj2,qs6]
  all_goals exact Qs
theorem qss : q8i = q1p:=by
  funext a119;simp only [q8i,q1p]
  all_goals exact Qs
theorem qsr : q8h = Uu:=by
  funext q1 p0 p1 p2;simp only [q8h,Uu,qss]
  all_goals exact Qs
theorem qsb : q83 = Jw:=by
  funext p2 a438 q1 a681;simp only [q83,Jw]
  all_goals exact Qs
theorem qsc : q84 = Jx:=by
  funext q1 a838;simp only [q84,Jx]
  all_goals exact Qs
theorem qsd : q85 = Jy:=by
  funext p2 q1 b684 a928;simp only [q85,Jy]
  all_goals exact Qs
theorem qsa : q5j = Zg:=by
  funext p2 q1 p1 a438;have a : @q5j.match_1.{1} = @Zg.match_1.{1} qh:=by funext motive m f g;cases m <;> rfl
  unfold q5j Zg;rw [a];simp only [qsb,qsc,qsd]
theorem qs9 : q5i = Ji:=by
  funext q1 p0 p1 p2;have a : @q5i.match_1.{1} = @Ji.match_1.{1} qh:=by funext motive m f g;cases m <;> rfl
  unfold q5i Ji;rw [a];simp only [qsa]
theorem qsh : q8f = Jz:=by
  funext a318 p1 q1 a378;simp only [q8f,Jz]
  all_goals exact Qs
theorem qsi : q8g = U0:=by
  funext b381 a318 p1 q1 a463;simp only [q8g,U0]
  all_goals exact Qs
theorem qsg : q8e = Us:=by
  funext p1 q1 a318;simp only [q8e,Us,qsh,qsi]
  all_goals exact Qs
theorem qsf : q8d = Ur:=by
  funext q1 p0 p1 p2 p3;simp only [q8d,Ur,qsg]
  all_goals exact Qs
theorem qsj : q88 = q1n:=by
  funext p2 p0 p1 v101 p3 v103 q1 a163;simp only [q88,q1n]
  all_goals exact Qs
theorem qsk : q89 = q1o:=by
  funext b166 p0 p1 v101 p3 v103 q1 a249;simp only [q89,q1o]
  all_goals exact Qs
theorem qsm : q8b = Zn:=by
  funext a514 p1 q1 a572;simp only [q8b,Zn]
  all_goals exact Qs
theorem qsn : q8c = Zo:=by
  funext b575 a514 p1 q1 a658;simp only [q8c,Zo]
  all_goals exact Qs
theorem qsl : q8a = Ut:=by
  funext p1 q1 a514;simp only [q8a,Ut,qsm,qsn]
  all_goals exact Qs
theorem qse : q87 = Uq:=by
  funext q1 p0 p1 p2 p3;simp only [q87,Uq,qsj,qsk,qsl]
  all_goals exact Qs
theorem qsp : q5x = Z6:=by
  funext q1 rec a309;have a : @q5x.match_1.{1} = @Z6.match_1.{1} qh:=by funext motive m f g;cases m <;> rfl
  unfold q5x Z6;rw [a];simp only [qs3,qs0,qrx,qrz,qsr,qs9,qsf,qse]
theorem qsq : q5y = U1:=by
  funext rec q1 p0 p1 p2 p3;simp only [q5y,U1,qsp]
  all_goals exact Qs
theorem qso : ∀ N q,q5w N q = Yu N q:=by
  intro N q
  induction N with
  | zero=>rfl
  | succ N ih=>
    funext a b c d;show q5y (q5w N q) q a b c d = U1 (Yu N q) q a b c d;rw [ih,qsq]
theorem qrw : q57 = q1i:=by
  funext q1 p0;simp only [q57,q1i,qj1,qso]
  all_goals exact Qs
end Go.Sh
namespace Go.Sh
open Go Go.Am
instance : Inhabited qh:=⟨⟨0,0,0⟩⟩
theorem qwg (q : qh→qh→Option Int) (xs : List qh) : q57 q xs = q1i q xs:=by rw [qrw]
def evs (s : List qm) (l : Int) : List qh:=s.flatMap fun t=>[{at_:=t.Lo,list_:=l,by_:=1},{at_:=t.Hi,list_:=l,by_:=-1}]
theorem q6s (s : List qm) (l : Int) : (evs s l).length = 2 * s.length:=by
  induction s with
  | nil=>rfl
  | cons t s ih=>simp only [evs,List.flatMap_cons,List.length_append,List.length_cons,List.length_nil] at ih ⊢;omega
theorem q9y {s : List qm} {l : Int} {e : qh} (h : e∈evs s l) : e.list_ = l∧(e.by_ = 1∨e.by_ = -1)∧∃ t∈s,e.at_ = t.Lo∨e.at_ = t.Hi:=by
  simp only [evs,List.mem_flatMap] at h;obtain ⟨t,a,h⟩:=h;simp only [List.mem_cons,List.not_mem_nil,or_false] at h;rcases h with rfl | rfl
  · exact ⟨rfl,.inl rfl,t,a,.inl rfl⟩
  · exact ⟨rfl,.inr rfl,t,a,.inr rfl⟩
theorem qfn (s : List qm) (l : Int) (y : List qh) (hs : s.length≤1000) (base : List qh) (hb : base.length≤10000) :
    loop (q3v s (l,y)) (0,base) = some (base ++ evs s l):=by
  have:=Yv (f:=q3v s (l,y)) (σ:=List qh) (fun k c=>((k : Int),c)) s.length (fun k c=>c = base ++ evs (s.take k) l) (fun t=>t = base ++ evs s l) ?_ ?_ (k0:=0) (c0:=base) q6 (by simp [evs])
  · obtain ⟨b,h,rfl⟩:=this;exact h
  · rintro k c d rfl;have a : decide ((k : Int) < (s.length : Int)) = true:=Q6 q6;refine .inl ⟨base ++ evs (s.take (k + 1)) l,?_,rfl⟩;have g : (evs (s.take k) l).length≤2000:=by rw [q6s,List.length_take];omega
    simp only [q3v,a,qw,Qp d,qj];rw [Ku (by rw [List.length_append];simp only [List.length_cons,List.length_nil];omega),qj,Qc q6,List.take_succ_eq_append_getElem d,List.append_assoc];have : evs (s.take k ++ [s[k]]) l = evs (s.take k) l ++ [{at_:=s[k].Lo,list_:=l,by_:=1},{at_:=s[k].Hi,list_:=l,by_:=-1}]:=by simp only [evs,List.flatMap_append,List.flatMap_cons,List.flatMap_nil,List.append_nil]
    rw [this];rfl
  · rintro c rfl;have a : decide ((s.length : Int) < (s.length : Int)) = false:=Q9 q6;exact ⟨_,by simp only [q3v,a,qv];rfl,by rw [List.take_length]⟩
def ltE (a b : qh) : Bool:=decide (a.at_ < b.at_)
def inE (e : qh) : Prop:=-1000000≤e.at_∧e.at_≤1000000
theorem swoE : Sort.SWO ltE where
  irrefl:=by intro x;simp [ltE]
  trans:=by intro x y z;simp only [ltE,decide_eq_true_eq];omega
  ntrans:=by intro x y z;simp only [ltE,decide_eq_false_iff_not];omega
theorem cmpE : Ko (fun a b=>q8r a b) ltE inE:=by
  rintro x y ⟨c,g⟩ ⟨d,f⟩;refine ⟨x.at_ - y.at_,?_,?_⟩
  · show some (w64 (x.at_ - y.at_)) = _;rw [Qc q6]
  · unfold ltE;exact decide_eq_decide.2 q6
theorem qwf (p q : List qm) (hp : p.length≤500) (v : q.length≤500) (m : ∀ t∈p,vld t) (s : ∀ t∈q,vld t) :
    ∃ ys,q8s [p,q] = some ([p,q],ys)∧ys.Perm (evs p 0 ++ evs q 1)∧ys.Pairwise (fun x y=>x.at_≤y.at_):=by
  have n : ∀ x∈evs p 0 ++ evs q 1,inE x:=by
    intro x u;rcases List.mem_append.1 u with h | h
    · obtain ⟨_,_,t,f,h⟩:=q9y h;obtain ⟨a,b,c⟩:=m t f;unfold inE;rcases h with h | h <;> omega
    · obtain ⟨_,_,t,f,h⟩:=q9y h;obtain ⟨a,b,c⟩:=s t f;unfold inE;rcases h with h | h <;> omega
  have w:=q6s p 0;have z:=q6s q 1;obtain ⟨ys,k,j,o⟩:=qjq cmpE swoE (evs p 0 ++ evs q 1) (by rw [List.length_append];omega) n;refine ⟨ys,?_,j,o.imp (fun {x y} h=>by simp only [ltE,decide_eq_false_iff_not] at h;omega)⟩
  have d : loop (Uc [p,q]) (0,[]) = some (evs p 0 ++ evs q 1):=by
    have s0 : Uc [p,q] (0,[]) = some (.inl (1,evs p 0)):=by
      have t : decide ((0 : Int) < (([p,q] : List (List qm)).length : Int)) = true:=rfl;simp only [Uc,t,qw];have : idx [p,q] 0 = some p:=rfl;rw [this];simp only [qj,qfn p 0 [] q6 [] qb,List.nil_append];rfl
    have r : Uc [p,q] (1,evs p 0) = some (.inl (2,evs p 0 ++ evs q 1)):=by
      have t : decide ((1 : Int) < (([p,q] : List (List qm)).length : Int)) = true:=rfl;simp only [Uc,t,qw];have : idx [p,q] 1 = some q:=rfl;rw [this];simp only [qj,qfn q 1 (evs p 0) q6 (evs p 0) q6];rfl
    have l : Uc [p,q] (2,evs p 0 ++ evs q 1) = some (.inr (evs p 0 ++ evs q 1)):=by
      have t : decide ((2 : Int) < (([p,q] : List (List qm)).length : Int)) = false:=rfl;simp only [Uc,t,qv]
    rw [Km s0,Km r,Kb l]
  unfold q8s;rw [d];simp only [qj,qwg,k];have le : Qw ys.length (evs p 0 ++ evs q 1).length = some ():=by unfold Qw;rw [qp j.length_eq]
  have g : Qw ys.length ys.length = some ():=by unfold Qw;rw [qp rfl]
  simp only [le,qj,qal,g]
def cnt (l : Int) (c : Int→Bool) : List qh→Int
  | []=>0
  | e::es=>(if e.list_ = l∧c e.at_ = true then e.by_ else 0) + cnt l c es
theorem q1f (l : Int) (c : Int→Bool) (a b : List qh) : cnt l c (a ++ b) = cnt l c a + cnt l c b:=by
  induction a with
  | nil=>simp [cnt]
  | cons e a ih=>simp only [List.cons_append,cnt,ih];omega
theorem qf7 {l : Int} {c : Int→Bool} {a b : List qh} (h : a.Perm b) : cnt l c a = cnt l c b:=by
  induction h with
  | nil=>rfl
  | cons x _ ih=>simp only [cnt,ih]
  | swap x y l=>simp only [cnt];omega
  | trans _ _ ih1 ih2=>rw [ih1,ih2]
theorem qf4 {l : Int} {c b : Int→Bool} : ∀ {a : List qh},(∀ e∈a,c e.at_ = b e.at_)→cnt l c a = cnt l b a
  | [],_=>rfl
  | e::a,h=>by simp only [cnt,h e qb,qf4 (fun e d=>h e (List.mem_cons_of_mem _ d))]
theorem qf6 {l : Int} {c : Int→Bool} : ∀ {a : List qh},(∀ e∈a,c e.at_ = false)→cnt l c a = 0
  | [],_=>rfl
  | e::a,h=>by
    simp only [cnt,qf6 (fun e b=>h e (List.mem_cons_of_mem _ b)),h e qb]
    simp
theorem q6j {s : List qm} {l l' : Int} {c : Int→Bool} (h : l≠l') : cnt l c (evs s l') = 0:=by
  induction s with
  | nil=>rfl
  | cons t s ih=>
    have : evs (t::s) l' = [{at_:=t.Lo,list_:=l',by_:=1},{at_:=t.Hi,list_:=l',by_:=-1}] ++ evs s l':=rfl;rw [this,q1f,ih];have a : ¬ l' = l:=fun e=>h e.symm;simp [cnt,a]
theorem qf5 {s : List qm} {l : Int} (v : ∀ t∈s,vld t) (x : Int) : 0≤cnt l (fun a=>decide (a≤x)) (evs s l)∧(0 < cnt l (fun a=>decide (a≤x)) (evs s l)↔has s x):=by
  induction s with
  | nil=>exact ⟨Int.le_refl 0,by simp [evs,cnt,has]⟩
  | cons t s ih=>
    obtain ⟨f,b⟩:=ih (fun t c=>v t (List.mem_cons_of_mem _ c));have d:=v t qb;have : evs (t::s) l = [{at_:=t.Lo,list_:=l,by_:=1},{at_:=t.Hi,list_:=l,by_:=-1}] ++ evs s l:=rfl;rw [this,q1f,Z9,← b];obtain ⟨j,h,g⟩:=d;simp only [cnt,true_and,decide_eq_true_eq];split <;> split <;> omega
theorem qf8 {s : List qm} {l : Int} : cnt l (fun _=>true) (evs s l) = 0:=by
  induction s with
  | nil=>rfl
  | cons t s ih=>
    have : evs (t::s) l = [{at_:=t.Lo,list_:=l,by_:=1},{at_:=t.Hi,list_:=l,by_:=-1}] ++ evs s l:=rfl;rw [this,q1f,ih];simp [cnt]
theorem qbh {l : Int} {c : Int→Bool} : ∀ {a : List qh},(∀ e∈a,e.by_ = 1∨e.by_ = -1)→-(a.length : Int)≤cnt l c a∧cnt l c a≤(a.length : Int)
  | [],_=>by simp [cnt]
  | e::a,h=>by
    obtain ⟨d,f⟩:=qbh (l:=l) (c:=c) (fun e b=>h e (List.mem_cons_of_mem _ b))
    have:=h e qb
    simp only [cnt,List.length_cons]
    split <;> omega
end Go.Sh
namespace Go.Sh
open Go Go.Am
theorem qlu (at_ a : Int) (inn : Bool) (out : List qm) (h : out.length≤10000) :
    q8t at_ inn a out = some (inn,a,if inn = true∧a≠at_ then addS out a at_ else out):=by
  unfold q8t
  cases inn with
  | false=>rfl
  | true=>
    by_cases f : a = at_
    · simp [f]
    · have hb : (a == at_) = false:=by simpa using f
      simp only [Bool.not_true,qv,qj,hb];rw [qp ⟨trivial,f⟩];rcases qam out with rfl | ⟨d,t,rfl⟩
      · rfl
      · have l : (d ++ [t]).length = d.length + 1:=by simp
        have k : decide (((d ++ [t]).length : Int) > 0) = true:=Q6 q6;have j : w64 (((d ++ [t]).length : Int) - 1) = (d.length : Int):=by rw [Qc q6];omega
        have g : idx (d ++ [t]) (d.length : Int) = some t:=by
          rw [Qp q6];simp
        simp only [k,qw,j,g,qj];by_cases b : t.Hi = a
        · subst b;simp only [beq_self_eq_true,qw,q97,Int.toNat_natCast,qj6]
        · have c : (t.Hi == a) = false:=by simpa using b
          simp only [c,qv,q98 b];rw [Ku (by simp;omega)];rfl
open Classical in
structure qke (f : Bool→Bool→Bool) (p q : List qm) (ys : List qh) (k : Nat) (c : List Int × Int × Bool × List qm) : Prop where
  opn : c.1 = [cnt 0 (fun _=>true) (ys.take k),cnt 1 (fun _=>true) (ys.take k)]
  inn : c.2.2.1 = f (decide (0 < cnt 0 (fun _=>true) (ys.take k))) (decide (0 < cnt 1 (fun _=>true) (ys.take k)))
  lst : ∀ (h : k - 1 < ys.length),0 < k→c.2.1 = ys[k - 1].at_
  can : Can c.2.2.2
  his : ∀ t∈c.2.2.2,t.Hi≤c.2.1
  zro : k = 0→c.2.2.2 = []
  pts : ∀ x,has c.2.2.2 x↔0 < k∧x < c.2.1∧f (decide (has p x)) (decide (has q x)) = true
  len : c.2.2.2.length≤k
theorem qkg (c : List qm) (a b : Int) : (addS c a b).length≤c.length + 1:=by
  rcases qam c with rfl | ⟨d,t,rfl⟩
  · simp [qe5]
  · by_cases h : t.Hi = a
    · subst h;rw [q97];simp
    · rw [q98 h];simp
theorem qf3 {p q : List qm} {ys : List qh} (hp : ∀ t∈p,vld t) (g : ∀ t∈q,vld t) (b : ys.Perm (evs p 0 ++ evs q 1)) (hs : ys.Pairwise (fun x y=>x.at_≤y.at_)) (k : Nat) (x : Int)
    (f : ∀ i (h : i < ys.length),i < k→ys[i].at_≤x) (n : ∀ i (h : i < ys.length),k≤i→x < ys[i].at_) :
    (0 < cnt 0 (fun _=>true) (ys.take k)↔has p x)∧(0 < cnt 1 (fun _=>true) (ys.take k)↔has q x):=by
  have key : ∀ l,cnt l (fun _=>true) (ys.take k) = cnt l (fun a=>decide (a≤x)) (evs p 0) + cnt l (fun a=>decide (a≤x)) (evs q 1):=by
    intro l;rw [← q1f,← qf7 b]
    conv=>rhs;rw [← List.take_append_drop k ys]
    rw [q1f]
    have m : cnt l (fun a=>decide (a≤x)) (ys.drop k) = 0:=by
      refine qf6 fun e c=>?_;obtain ⟨i,hi,rfl⟩:=List.mem_iff_getElem.1 c;rw [List.getElem_drop];rw [List.length_drop] at hi;have:=n (k + i) q6 q6;exact Q9 q6
    have o : cnt l (fun a=>decide (a≤x)) (ys.take k) = cnt l (fun _=>true) (ys.take k):=by
      refine qf4 fun e c=>?_;obtain ⟨i,hi,rfl⟩:=List.mem_iff_getElem.1 c;rw [List.getElem_take];rw [List.length_take] at hi;exact Q6 (f i q6 q6)
    rw [m,o];omega
  rw [key 0,key 1,q6j (l:=0) (l':=1) Q0,q6j (l:=1) (l':=0) Q0];have d:=qf5 (l:=0) hp x;have j:=qf5 (l:=1) g x;rw [Int.add_zero,Int.zero_add];exact ⟨d.2,j.2⟩
open Classical in
theorem qnm (f : Bool→Bool→Bool) (hf : f false false = false) (p2 : Bool→Bool→Option Bool) (hp2 : ∀ a b,p2 a b = some (f a b)) (p q : List qm)
    (hp : p.length≤500) (hq : q.length≤500) (vp : ∀ t∈p,vld t) (vq : ∀ t∈q,vld t) :
    ∃ out,q6a p q p2 = some out∧Can out∧∀ x,has out x↔f (decide (has p x)) (decide (has q x)) = true:=by
  obtain ⟨ys,e1,g,hs⟩:=qwf p q hp hq vp vq;have bf : ys.length≤2000:=by rw [g.length_eq,List.length_append,q6s,q6s];omega
  have w : ∀ i j (hi : i < ys.length) (hj : j < ys.length),i≤j→ys[i].at_≤ys[j].at_:=by
    intro i j hi hj bw;rcases Nat.lt_or_ge i j with h | h
    · exact List.pairwise_iff_getElem.1 hs i j hi hj h
    · obtain rfl : i = j:=by omega
      exact Int.le_refl _
  have z : ∀ e∈ys,(e.list_ = 0∨e.list_ = 1)∧(e.by_ = 1∨e.by_ = -1):=by
    intro e he;rcases List.mem_append.1 (g.mem_iff.1 he) with h | h
    · obtain ⟨a,b,_⟩:=q9y h;exact ⟨.inl a,b⟩
    · obtain ⟨a,b,_⟩:=q9y h;exact ⟨.inr a,b⟩
  have:=Yv (f:=q3w ([p,q],ys) p2) (σ:=List Int × Int × Bool × List qm) (fun k c=>((k : Int),c)) ys.length (qke f p q ys) (fun out=>Can out∧∀ x,has out x↔f (decide (has p x)) (decide (has q x)) = true) ?_ ?_ (k0:=0) (c0:=([0,0],0,false,[])) q6 ?_
  · obtain ⟨out,r,m⟩:=this;refine ⟨out,?_,m⟩;unfold q6a;have r : loop (q3w ([p,q],ys) p2) (0,[0,0],0,false,[]) = some out:=r;rw [e1];simp only [qj,r];rfl
  · rintro k ⟨opn,d,inn,out⟩ hk ⟨s1,s2,s3,s4,s5,s6,s7,s8⟩;simp only at s1 s2 s3 s4 s5 s6 s7 s8;have ae : decide ((k : Int) < (ys.length : Int)) = true:=Q6 q6;have ar:=qlu ys[k].at_ d inn out q6;have hm:=z ys[k] (Kw hk);have bb : ys.take (k + 1) = ys.take k ++ [ys[k]]:=List.take_succ_eq_append_getElem hk;have al : ∀ e∈ys.take k,e.by_ = 1∨e.by_ = -1:=fun e he=>(z e (List.mem_of_mem_take he)).2;have b0:=qbh (l:=0) (c:=fun _=>true) al;have b1:=qbh (l:=1) (c:=fun _=>true) al;have be : (ys.take k).length = k:=by rw [List.length_take];omega
    rw [be] at b0 b1
    have ad : ∃ v,idxA 2 opn ys[k].list_ = some v∧opn.set ys[k].list_.toNat (w64 (v + ys[k].by_)) = [cnt 0 (fun _=>true) (ys.take (k + 1)),cnt 1 (fun _=>true) (ys.take (k + 1))]:=by
      subst s1;rw [bb,q1f,q1f];rcases hm.1 with h | h
      · refine ⟨cnt 0 (fun _=>true) (ys.take k),by rw [h];rfl,?_⟩;rw [h,Qc q6];simp [cnt,h]
      · refine ⟨cnt 1 (fun _=>true) (ys.take k),by rw [h];rfl,?_⟩;rw [h,Qc q6];simp [cnt,h]
    obtain ⟨v,o1,o2⟩:=ad;refine .inl ⟨([cnt 0 (fun _=>true) (ys.take (k + 1)),cnt 1 (fun _=>true) (ys.take (k + 1))],ys[k].at_,f (decide (0 < cnt 0 (fun _=>true) (ys.take (k + 1)))) (decide (0 < cnt 1 (fun _=>true) (ys.take (k + 1)))),if inn = true∧d≠ys[k].at_ then addS out d ys[k].at_ else out),?_,?_⟩
    · have x0 : ∀ a b : Int,idxA 2 [a,b] 0 = some a:=fun a b=>rfl;have x1 : ∀ a b : Int,idxA 2 [a,b] 1 = some b:=fun a b=>rfl;simp only [q3w,ae,qw,Qp hk,qj,ar,o1,o2,x0,x1,hp2,Bool.not_true,qv];rw [Qc q6];rfl
    · have ab : ∀ x,(0 < k→d≤x)→∀ i (h : i < ys.length),i < k→ys[i].at_≤x:=by
        intro x o i hi am;have:=s3 q6 q6;have:=w i (k - 1) hi q6 q6;have:=o q6;omega
      have aa : ∀ x,x < ys[k].at_→∀ i (h : i < ys.length),k≤i→x < ys[i].at_:=by
        intro x o i hi am;have:=w k i hk hi am;omega
      have hF : ∀ x,(0 < k→d≤x)→x < ys[k].at_→f (decide (has p x)) (decide (has q x)) = inn:=by
        intro x o ba;obtain ⟨c1,c2⟩:=qf3 vp vq g hs k x (ab x o) (aa x ba);rw [s2,decide_eq_decide.2 c1,decide_eq_decide.2 c2]
      have n : 0 < k→d≤ys[k].at_:=by
        intro u;rw [s3 q6 u];exact w (k - 1) k q6 hk q6
      have y : k = 0→inn = false:=by
        intro u;subst u;rw [s2];exact hf
      by_cases s : inn = true∧d≠ys[k].at_
      · have ao : 0 < k:=by
          rcases Nat.eq_zero_or_pos k with h | h
          · rw [y h] at s;cases s.1
          · exact h
        have hl:=n ao;have av : d < ys[k].at_:=by have:=s.2;omega
        obtain ⟨d1,d2,d3,d4⟩:=qe6 s4 s5 av;constructor
        · rfl
        · rfl
        · intro h _;rfl
        · simp only [qp s];exact d1
        · simp only [qp s];exact d3
        · omega
        · intro x;simp only [qp s];rw [d2,s7];constructor
          · rintro (⟨u,r,m⟩ | ⟨r,m⟩)
            · exact ⟨q6,q6,m⟩
            · exact ⟨q6,m,by rw [hF x (fun _=>r) m];exact s.1⟩
          · rintro ⟨u,r,m⟩;by_cases o : x < d
            · exact .inl ⟨ao,o,m⟩
            · exact .inr ⟨q6,r⟩
        · simp only [qp s];have:=qkg out d ys[k].at_;omega
      · constructor
        · rfl
        · rfl
        · intro h _;rfl
        · simp only [qs s];exact s4
        · simp only [qs s];intro t ht;rcases Nat.eq_zero_or_pos k with h | h
          · rw [s6 h] at ht;cases ht
          · have:=s5 t ht;have:=n h;omega
        · omega
        · intro x;simp only [qs s];rw [s7];constructor
          · rintro ⟨u,r,m⟩;exact ⟨q6,by have:=n u;omega,m⟩
          · rintro ⟨u,r,m⟩;by_cases o : 0 < k∧x < d
            · exact ⟨o.1,o.2,m⟩
            · have ai : 0 < k→d≤x:=fun h=>by
                refine Int.not_lt.1 fun h'=>o ⟨h,h'⟩
              have:=hF x ai r;rw [this] at m;refine absurd ⟨m,?_⟩ s;intro e;rcases Nat.eq_zero_or_pos k with h | h
              · rw [y h] at m;cases m
              · have:=ai h;omega
        · simp only [qs s];omega
  · rintro ⟨opn,d,inn,out⟩ ⟨s1,s2,s3,s4,s5,s6,s7,s8⟩;simp only at s1 s2 s3 s4 s5 s6 s7 s8;have ae : decide ((ys.length : Int) < (ys.length : Int)) = false:=Q9 q6;refine ⟨out,by simp only [q3w,ae,qv],s4,fun x=>?_⟩;rw [s7];constructor
    · rintro ⟨_,_,h⟩;exact h
    · intro h;by_cases o : 0 < ys.length∧x < d
      · exact ⟨o.1,o.2,h⟩
      · obtain ⟨c1, c2⟩ := qf3 vp vq g hs ys.length x (fun i hi _ => by
            have:=s3 q6 q6;have:=w i (ys.length - 1) hi q6 q6;have : d≤x:=Int.not_lt.1 fun h'=>o ⟨q6,h'⟩
            omega) (fun i hi bt=>q6)
        have bd : ∀ l,cnt l (fun _=>true) (ys.take ys.length) = 0:=by
          intro l;rw [List.take_length,qf7 g,q1f];by_cases u : l = 0
          · subst u;rw [qf8,q6j Q0];rfl
          · rw [q6j u];by_cases r : l = 1
            · subst r;rw [qf8];rfl
            · rw [q6j r];rfl
        rw [bd] at c1 c2;have n1 : ¬ has p x:=fun h=>absurd (c1.2 h) Q0;have n2 : ¬ has q x:=fun h=>absurd (c2.2 h) Q0;rw [Q9 n1,Q9 n2,hf] at h;cases h
  · constructor
    · simp [cnt]
    · simp [cnt,hf]
    · intro h u;omega
    · exact ⟨fun t ht=>(by cases ht),.nil⟩
    · intro t ht;cases ht
    · intro _;rfl
    · intro x;simp [has]
    · simp
end Go.Sh
namespace Go.Sh
open Go Go.Am
theorem qlr {s : List qm} (h : Jr s = 0) : s.length≤400∧Good s:=by
  unfold Jr at h;split at h
  · cases h
  · split at h
    · rename_i b a;exact ⟨q6,a⟩
    · cases h
def dst (x : Int) (t : qm) : Int:=max (max (t.Lo - x) (x - t.Hi + 1)) 0
end Go.Sh
namespace Go.Sh
open Go Go.Am
noncomputable def q2s (kind : Int) (p q : List qm) : List qm:=(qa4 kind p q).getD []
theorem q6u (kind : Int) (p q : List qm) (hp : p.length≤100000) (c : q.length≤100000) : qa4 kind p q = some (q2s kind p q)∧qay kind p q (q2s kind p q):=by
  obtain ⟨out,a,b⟩:=qns kind p q hp c;unfold q2s;rw [a];exact ⟨rfl,b⟩
theorem qng (s : List qm) (b : qm→Option Bool) (c : qm→Bool) (h : ∀ t,b t = some (c t)) (q : s.length≤1000000) :
    ∃ r,q7t s b = some r∧decide (r ≥ 0) = s.any c:=by
  have:=Yv (f:=q27 s b) (σ:=Unit) (fun k _=>(k : Int)) s.length (fun k _=>∀ i (h : i < s.length),i < k→c s[i] = false)
    (fun m=>∃ r : Int,(match m with | .inl b22=>some (-1) | .inr x1=>some x1) = some r∧decide (r ≥ 0) = s.any c) ?_ ?_ (k0:=0) (c0:=()) q6 (fun i _ hi=>q6)
  · obtain ⟨m,g,r,p,l⟩:=this;have g : loop (q27 s b) 0 = some m:=g;exact ⟨r,by unfold q7t;rw [g];exact p,l⟩
  · rintro k _ j hi;have hb : decide ((k : Int) < (s.length : Int)) = true:=Q6 q6
    cases d : c s[k] with
    | true=>
      refine .inr ⟨.inr (k : Int),?_,(k : Int),rfl,?_⟩
      · simp only [q27,hb,qw,Qp j,qj,h,d]
      · have : s.any c = true:=List.any_eq_true.2 ⟨s[k],Kw j,d⟩;rw [this];exact Q6 q6
    | false=>
      refine .inl ⟨(),?_,?_⟩
      · simp only [q27,hb,qw,Qp j,qj,h,d,qv];rw [Qc q6];rfl
      · intro i a o;by_cases e : i = k
        · subst e;exact d
        · exact hi i a q6
  · rintro _ hi;have hb : decide ((s.length : Int) < (s.length : Int)) = false:=Q9 q6;refine ⟨.inl (),by simp only [q27,hb,qv],-1,rfl,?_⟩
    have : s.any c = false:=by
      rw [List.any_eq_false];intro t n;obtain ⟨i,a,rfl⟩:=List.mem_iff_getElem.1 n;simp [hi i a a]
    rw [this];rfl
theorem qm5 (s : List qm) (a : qm→Option Bool) (c : qm→Bool) (h : ∀ t,a t = some (c t)) (b : s.length≤1000000) : q7q s a = some (s.any c):=by
  obtain ⟨r,d,f⟩:=qng s a c h b;unfold q7q;rw [d,qj,f]
open Classical in
noncomputable def qce (s : List qm) : List qm × Int:=if 400 < s.length then ([],4) else if ∀ t∈s,vld t then (q2s 2 s [],0) else ([],8)
theorem qo6 (s : List qm) (k : s.length≤400) (h : ∀ t∈s,vld t) (p2 : Bool→Bool→Option Bool) (hp2 : ∀ a b,p2 a b = some a) : q6a s [] p2 = some (q2s 2 s []):=by
  classical
  obtain ⟨out,c,d,f⟩:=qnm (fun a _=>a) rfl p2 hp2 s [] q6 qb h (fun t g=>by cases g);obtain ⟨_,j⟩:=q6u 2 s [] q6 qb;rw [c];congr 1;refine q6h d j.can fun x=>?_;rw [f,j.pts];simp [Kz,Uw]
theorem qo5 (s : List qm) : q69 s = some (qce s):=by
  classical
  unfold q69 qce;by_cases f : 400 < s.length
  · have e : decide ((s.length : Int) > 400) = true:=Q6 q6;rw [e,qp f];rfl
  · have e : decide ((s.length : Int) > 400) = false:=Q9 q6;rw [e,qs f,qv,qm5 s _ (fun t=>!decide (vld t)) (fun t=>by show (q2e t).bind _ = _;rw [qk4];rfl) q6,qj];by_cases c : ∀ t∈s,vld t
    · have : (s.any fun t=>!decide (vld t)) = false:=by
        rw [List.any_eq_false];intro t d;simp [c t d]
      rw [this,qv,qp c,qo6 s q6 c (fun j g=>q8q j g) (fun a b=>rfl)];rfl
    · have : (s.any fun t=>!decide (vld t)) = true:=by
        rw [List.any_eq_true];obtain ⟨t,c⟩:=Classical.not_forall.1 c;obtain ⟨d,h⟩:=Classical.not_imp.1 c;exact ⟨t,d,by simp [h]⟩
      rw [this,qw,qs c]
def lenL : List qm→Int
  | []=>0
  | t::s=>(t.Hi - t.Lo) + lenL s
theorem qgz (a b : List qm) : lenL (a ++ b) = lenL a + lenL b:=by
  induction a with
  | nil=>simp [lenL]
  | cons t a ih=>simp only [List.cons_append,lenL,ih];omega
theorem qh0 : ∀ {s : List qm},(∀ t∈s,vld t)→0≤lenL s∧lenL s≤2000000 * (s.length : Int)
  | [],_=>by simp [lenL]
  | t::s,h=>by
    obtain ⟨b,f⟩:=qh0 (fun t a=>h t (List.mem_cons_of_mem _ a))
    obtain ⟨g,d,c⟩:=h t qb
    simp only [lenL,List.length_cons]
    omega
noncomputable def qca (s : List qm) : Int × Int:=if Jr s = 0 then (lenL s,0) else (0,Jr s)
theorem qnu (s : List qm) (o : s.length≤400) (h : ∀ t∈s,vld t) : loop (q8p s) (0,0) = some (lenL s)∧loop (q78 s) (0,0) = some (lenL s):=by
  have d : ∀ k,0≤lenL (s.take k)∧lenL (s.take k)≤800000000:=by
    intro k;have:=qh0 (s:=s.take k) (fun t n=>h t (List.mem_of_mem_take n));have : (s.take k).length≤400:=by rw [List.length_take];omega
    omega
  constructor
  · have:=Yv (f:=q8p s) (σ:=Int) (fun k c=>(c,(k : Int))) s.length (fun k c=>c = lenL (s.take k)) (fun r=>r = lenL s) ?_ ?_ (k0:=0) (c0:=0) q6 (by simp [lenL])
    · obtain ⟨b,g,rfl⟩:=this;exact g
    · rintro k c a rfl;have hb : decide ((k : Int) < (s.length : Int)) = true:=Q6 q6;obtain ⟨m,l,j⟩:=h _ (Kw a);have:=d k;refine .inl ⟨lenL (s.take (k + 1)),?_,rfl⟩;simp only [q8p,hb,qw,Qp a,qj];rw [Qc (x:=s[k].Hi - s[k].Lo) q6,Qc (x:=lenL (s.take k) + _) q6,Qc q6,List.take_succ_eq_append_getElem a,qgz];simp only [lenL,Int.add_zero];rfl
    · rintro c rfl;have hb : decide ((s.length : Int) < (s.length : Int)) = false:=Q9 q6;exact ⟨_,by simp only [q8p,hb,qv];rfl,by rw [List.take_length]⟩
  · have:=Yv (f:=q78 s) (σ:=Int) (fun k c=>(c,(k : Int))) s.length (fun k c=>c = lenL (s.take k)) (fun r=>r = lenL s) ?_ ?_ (k0:=0) (c0:=0) q6 (by simp [lenL])
    · obtain ⟨b,g,rfl⟩:=this;exact g
    · rintro k c a rfl;have hb : decide ((k : Int) < (s.length : Int)) = true:=Q6 q6;obtain ⟨m,l,j⟩:=h _ (Kw a);have:=d k;refine .inl ⟨lenL (s.take (k + 1)),?_,rfl⟩;simp only [q78,hb,qw,Qp a,qj];rw [Qc (x:=lenL (s.take k) + s[k].Hi) q6,Qc (x:=lenL (s.take k) + s[k].Hi - _) q6,Qc q6,List.take_succ_eq_append_getElem a,qgz];have : lenL (s.take k) + s[k].Hi - s[k].Lo = lenL (s.take k) + lenL [s[k]]:=by simp only [lenL];omega
      rw [this];rfl
    · rintro c rfl;have hb : decide ((s.length : Int) < (s.length : Int)) = false:=Q9 q6;exact ⟨_,by simp only [q78,hb,qv];rfl,by rw [List.take_length]⟩
theorem qxu (s : List qm) : qju s = some (qca s)∧qic s = some (qca s):=by
  unfold qju qic qca;simp only [qew,qqg,qj];by_cases h : Jr s = 0
  · obtain ⟨c,d⟩:=qlr h;obtain ⟨a,b⟩:=qnu s c d.1;have e : (Jr s != 0) = false:=by simpa using h
    simp only [e,qv,a,b,qj];simp only [h,if_true];exact ⟨trivial,trivial⟩
  · have e : (Jr s != 0) = true:=by simpa using h
    simp only [e,qw,qs h];exact ⟨trivial,trivial⟩
end Go.Sh
set_option maxHeartbeats 4000000
namespace Go.Sh
open Go Go.Am
def sg (a b : Int) : Int:=if a < b then -1 else 0
theorem Zi {a b : Int} : decide (sg a b < 0) = decide (a < b):=by
  unfold sg;by_cases h : a < b <;> simp [h]
def qO (a b : Int) : Option Int:=some (sg a b)
theorem Zr (a b : Int) : qO a b = some (sg a b):=rfl
theorem Zp (a b : Int) : Yq a b = some (decide (a < b)):=by
  unfold Yq q6i;have : (a != a) = false:=by simp
  simp []
theorem qvw : qap = q4e:=rfl
theorem qty : (fun p0=>q1u p0) = (fun p0=>q2p p0):=by
  funext p0;simp only [q1u,q2p,qvw]
  all_goals exact Qs
theorem qtz  : ∀ p0,q1u p0 = q2p p0:=fun p0=>(congrFun qty p0)
theorem qtx : (fun p0=>U4 p0) = (fun p0=>Ul p0):=by
  funext p0;simp only [U4,Ul,qtz]
  all_goals exact Qs
theorem qjj  : ∀ p0,U4 p0 = Ul p0:=fun p0=>(congrFun qtx p0)
theorem qui : (fun a=>q5g a) = (fun a=>Jg a qO):=by
  funext a a443;simp only [q5g,Jg,Zp,Zr,qj,Zi]
  all_goals exact Qs
theorem quj  : ∀ a,q5g a = Jg a qO:=fun a=>(congrFun qui a)
theorem qug : (fun p2 a=>q5f p2 a) = (fun p2 a=>Up p2 a qO):=by
  funext p2 a a270;simp only [q5f,Up,quj]
  all_goals exact Qs
theorem quh  : ∀ p2 a,q5f p2 a = Up p2 a qO:=fun p2 a=>(congrFun (congrFun qug p2) a)
theorem que : (fun p0 a p2=>q5e p0 a p2) = (fun p0 a p2=>q1l qO p0 a p2):=by
  funext p0 a p2;simp only [q5e,q1l,quh]
  all_goals exact Qs
theorem quf  : ∀ p0 a p2,q5e p0 a p2 = q1l qO p0 a p2:=fun p0 a p2=>(congrFun (congrFun (congrFun que p0) a) p2)
theorem qvu : (fun p2 p3=>q62 p2 p3) = (fun p2 p3=>Jj p2 p3 qO):=by
  funext p2 p3 a193;simp only [q62,Jj,Zp,Zr,qj,Zi]
  all_goals exact Qs
theorem qvv  : ∀ p2 p3,q62 p2 p3 = Jj p2 p3 qO:=fun p2 p3=>(congrFun (congrFun qvu p2) p3)
theorem qvt : (fun p0 a p2 p3=>q3p p0 a p2 p3) = (fun p0 a p2 p3=>U2 qO p0 a p2 p3):=by
  funext p0 a p2 p3;simp only [q3p,U2,qvv]
  all_goals exact Qs
theorem qjl  : ∀ p0 a p2 p3,q3p p0 a p2 p3 = U2 qO p0 a p2 p3:=fun p0 a p2 p3=>(congrFun (congrFun (congrFun (congrFun qvt p0) a) p2) p3)
theorem qua : (fun p2 a=>q5c p2 a) = (fun p2 a=>Un qO p2 a):=by
  funext p2 a a123;simp only [q5c,Un,qjl]
  all_goals exact Qs
theorem qub  : ∀ p2 a,q5c p2 a = Un qO p2 a:=fun p2 a=>(congrFun (congrFun qua p2) a)
theorem quc : (fun a=>q5d a) = (fun a=>Uo a qO):=by
  funext a a191;simp only [q5d,Uo,qjl]
  all_goals exact Qs
theorem qud  : ∀ a,q5d a = Uo a qO:=fun a=>(congrFun quc a)
theorem qu8 : (fun p0 a p2=>q5b p0 a p2) = (fun p0 a p2=>q1k qO p0 a p2):=by
  funext p0 a p2;simp only [q5b,q1k,qub,qud]
  all_goals exact Qs
theorem qu9  : ∀ p0 a p2,q5b p0 a p2 = q1k qO p0 a p2:=fun p0 a p2=>(congrFun (congrFun (congrFun qu8 p0) a) p2)
theorem qun : (fun p0=>q17 p0) = (fun p0=>q1m p0):=by
  funext p0;simp only [q17,q1m,qjj]
  all_goals exact Qs
theorem qup  : ∀ p0,q17 p0 = q1m p0:=fun p0=>(congrFun qun p0)
theorem qvx : (fun p0=>q18 p0) = (fun p0=>q1q p0):=by
  funext p0;simp only [q18,q1q]
  all_goals exact Qs
theorem qvy  : ∀ p0,q18 p0 = q1q p0:=fun p0=>(congrFun qvx p0)
theorem qu4 : (fun b p2 a=>q59 b p2 a) = (fun b p2 a=>Jt b p2 a):=by
  funext b p2 a a153;simp only [q59,Jt,qvy]
  all_goals exact Qs
theorem qu5  : ∀ b p2 a,q59 b p2 a = Jt b p2 a:=fun b p2 a=>(congrFun (congrFun (congrFun qu4 b) p2) a)
theorem qu2 : (fun p0 a p2=>q58 p0 a p2) = (fun p0 a p2=>Um qO p0 a p2):=by
  funext p0 a p2;simp only [q58,Um,qup,qu5]
  all_goals exact Qs
theorem qu3  : ∀ p0 a p2,q58 p0 a p2 = Um qO p0 a p2:=fun p0 a p2=>(congrFun (congrFun (congrFun qu2 p0) a) p2)
theorem quq : (fun p0 a p2 p3=>q29 p0 a p2 p3) = (fun p0 a p2 p3=>Jv qO p0 a p2 p3):=by
  funext p0 a p2 p3;simp only [q29,Jv,Zp,Zr,qj,Zi]
  all_goals exact Qs
theorem qur  : ∀ p0 a p2 p3,q29 p0 a p2 p3 = Jv qO p0 a p2 p3:=fun p0 a p2 p3=>(congrFun (congrFun (congrFun (congrFun quq p0) a) p2) p3)
theorem quk : (fun p0 a p2 p3 p4=>q3j p0 a p2 p3 p4) = (fun p0 a p2 p3 p4=>Ju qO p0 a p2 p3 p4):=by
  funext p0 a p2 p3 p4;simp only [q3j,Ju,qur]
  all_goals exact Qs
theorem qjk  : ∀ p0 a p2 p3 p4,q3j p0 a p2 p3 p4 = Ju qO p0 a p2 p3 p4:=fun p0 a p2 p3 p4=>(congrFun (congrFun (congrFun (congrFun (congrFun quk p0) a) p2) p3) p4)
theorem qul : (fun p0 a p2=>q28 p0 a p2) = (fun p0 a p2=>Jh qO p0 a p2):=by
  funext p0 a p2;simp only [q28,Jh,qjk]
  all_goals exact Qs
theorem qum  : ∀ p0 a p2,q28 p0 a p2 = Jh qO p0 a p2:=fun p0 a p2=>(congrFun (congrFun (congrFun qul p0) a) p2)
theorem qu6 : (fun p0 a p2=>q5a p0 a p2) = (fun p0 a p2=>q1j p0 a p2 qO):=by
  funext p0 a p2;simp only [q5a,q1j,qjk,qum]
  all_goals exact Qs
theorem qu7  : ∀ p0 a p2,q5a p0 a p2 = q1j p0 a p2 qO:=fun p0 a p2=>(congrFun (congrFun (congrFun qu6 p0) a) p2)
theorem qvs : q8j = q1p:=by
  funext a119;simp only [q8j,q1p]
  all_goals exact Qs
theorem qvq : (fun p0 a p2=>q60 p0 a p2) = (fun p0 a p2=>Uu qO p0 a p2):=by
  funext p0 a p2;simp only [q60,Uu,qvs]
  all_goals exact Qs
theorem qvr  : ∀ p0 a p2,q60 p0 a p2 = Uu qO p0 a p2:=fun p0 a p2=>(congrFun (congrFun (congrFun qvq p0) a) p2)
theorem quw : (fun p2 a=>q5k p2 a) = (fun p2 a=>Jw p2 a qO):=by
  funext p2 a a667;simp only [q5k,Jw,Zp,Zr,qj,Zi]
  all_goals exact Qs
theorem qux  : ∀ p2 a,q5k p2 a = Jw p2 a qO:=fun p2 a=>(congrFun (congrFun quw p2) a)
theorem quy : q86 = Jx qO:=by
  funext a822;simp only [q86,Jx,Zp,Zr,qj,Zi]
  all_goals exact Qs
theorem quz : (fun p2 a=>q5l p2 a) = (fun p2 a=>Jy p2 qO a):=by
  funext p2 a a912;simp only [q5l,Jy,Zp,Zr,qj,Zi]
  all_goals exact Qs
theorem qv0  : ∀ p2 a,q5l p2 a = Jy p2 qO a:=fun p2 a=>(congrFun (congrFun quz p2) a)
theorem quu : (fun p2 a=>q3m p2 a) = (fun p2 a=>Zg p2 qO a):=by
  funext p2 a a432;have b : @q3m.match_1.{1} = @Zg.match_1.{1} Int:=by funext motive m f g;cases m <;> rfl
  unfold q3m Zg;rw [b];simp only [qux,quy,qv0]
  all_goals repeat' first | with_reducible rfl | (congr 1) | funext _
  done
theorem quv  : ∀ p2 a,q3m p2 a = Zg p2 qO a:=fun p2 a=>(congrFun (congrFun quu p2) a)
theorem qus : (fun p0 a p2=>q3l p0 a p2) = (fun p0 a p2=>Ji qO p0 a p2):=by
  funext p0 a p2;have b : @q3l.match_1.{1} = @Ji.match_1.{1} Int:=by funext motive m f g;cases m <;> rfl
  unfold q3l Ji;rw [b];simp only [quv]
  all_goals repeat' first | with_reducible rfl | (congr 1) | funext _
  done
theorem qut  : ∀ p0 a p2,q3l p0 a p2 = Ji qO p0 a p2:=fun p0 a p2=>(congrFun (congrFun (congrFun qus p0) a) p2)
theorem qv6 : (fun a b=>q5o a b) = (fun a b=>Jz a b qO):=by
  funext a b a360;simp only [q5o,Jz,Zp,Zr,qj,Zi]
  all_goals exact Qs
theorem qv7  : ∀ a b,q5o a b = Jz a b qO:=fun a b=>(congrFun (congrFun qv6 a) b)
theorem qv8 : (fun a b c=>q5p a b c) = (fun a b c=>U0 a b c qO):=by
  funext a b c a439;simp only [q5p,U0,Zp,Zr,qj,Zi]
  all_goals exact Qs
theorem qv9  : ∀ a b c,q5p a b c = U0 a b c qO:=fun a b c=>(congrFun (congrFun (congrFun qv8 a) b) c)
theorem qv4 : (fun a=>q5n a) = (fun a=>Us a qO):=by
  funext a a304;simp only [q5n,Us,qv7,qv9]
  all_goals exact Qs
theorem qv5  : ∀ a,q5n a = Us a qO:=fun a=>(congrFun qv4 a)
theorem qv2 : (fun p0 a p2 p3=>q5m p0 a p2 p3) = (fun p0 a p2 p3=>Ur qO p0 a p2 p3):=by
  funext p0 a p2 p3;simp only [q5m,Ur,qv5]
  all_goals exact Qs
theorem qv3  : ∀ p0 a p2 p3,q5m p0 a p2 p3 = Ur qO p0 a p2 p3:=fun p0 a p2 p3=>(congrFun (congrFun (congrFun (congrFun qv2 p0) a) p2) p3)
theorem qvb : (fun p2 p0 c b p3 a=>q5r p2 p0 c b p3 a) = (fun p2 p0 c b p3 a=>q1n p2 p0 c b p3 a qO):=by
  funext p2 p0 c b p3 a a159;simp only [q5r,q1n,Zp,Zr,qj,Zi]
  all_goals exact Qs
theorem qvc  : ∀ p2 p0 c b p3 a,q5r p2 p0 c b p3 a = q1n p2 p0 c b p3 a qO:=fun p2 p0 c b p3 a=>(congrFun (congrFun (congrFun (congrFun (congrFun (congrFun qvb p2) p0) c) b) p3) a)
theorem qvd : (fun c p0 d b p3 a=>q5s c p0 d b p3 a) = (fun c p0 d b p3 a=>q1o c p0 d b p3 a qO):=by
  funext c p0 d b p3 a a239;simp only [q5s,q1o,Zp,Zr,qj,Zi]
  all_goals exact Qs
theorem qve  : ∀ c p0 d b p3 a,q5s c p0 d b p3 a = q1o c p0 d b p3 a qO:=fun c p0 d b p3 a=>(congrFun (congrFun (congrFun (congrFun (congrFun (congrFun qvd c) p0) d) b) p3) a)
theorem qvh : (fun a b=>q5u a b) = (fun a b=>Zn a b qO):=by
  funext a b a542;simp only [q5u,Zn,Zp,Zr,qj,Zi]
  all_goals exact Qs
theorem qvi  : ∀ a b,q5u a b = Zn a b qO:=fun a b=>(congrFun (congrFun qvh a) b)
theorem qvj : (fun a b c=>q5v a b c) = (fun a b c=>Zo a b c qO):=by
  funext a b c a622;simp only [q5v,Zo,Zp,Zr,qj,Zi]
  all_goals exact Qs
theorem qvk  : ∀ a b c,q5v a b c = Zo a b c qO:=fun a b c=>(congrFun (congrFun (congrFun qvj a) b) c)
theorem qvf : (fun a=>q5t a) = (fun a=>Ut a qO):=by
  funext a a488;simp only [q5t,Ut,qvi,qvk]
  all_goals exact Qs
theorem qvg  : ∀ a,q5t a = Ut a qO:=fun a=>(congrFun qvf a)
theorem qv1 : (fun p0 a p2 p3=>q5q p0 a p2 p3) = (fun p0 a p2 p3=>Uq qO p0 a p2 p3):=by
  funext p0 a p2 p3;simp only [q5q,Uq,qvc,qve,qvg]
  all_goals exact Qs
theorem qva  : ∀ p0 a p2 p3,q5q p0 a p2 p3 = Uq qO p0 a p2 p3:=fun p0 a p2 p3=>(congrFun (congrFun (congrFun (congrFun qv1 p0) a) p2) p3)
theorem qvm : (fun a=>q3n a) = (fun a=>Z6 qO a):=by
  funext a a305;have b : @q3n.match_1.{1} = @Z6.match_1.{1} Int:=by funext motive m f g;cases m <;> rfl
  unfold q3n Z6;rw [b];simp only [quf,qu9,qu3,qu7,qvr,qut,qv3,qva,Zp,Zr,qj,Zi]
  all_goals repeat' first | with_reducible rfl | (congr 1) | funext _
  done
theorem qvn  : ∀ a,q3n a = Z6 qO a:=fun a=>(congrFun qvm a)
theorem qvo : (fun a p0 b p2 p3=>q3o a p0 b p2 p3) = (fun a p0 b p2 p3=>U1 a qO p0 b p2 p3):=by
  funext a p0 b p2 p3;simp only [q3o,U1,qvn]
  all_goals exact Qs
theorem qvp  : ∀ a p0 b p2 p3,q3o a p0 b p2 p3 = U1 a qO p0 b p2 p3:=fun a p0 b p2 p3=>(congrFun (congrFun (congrFun (congrFun (congrFun qvo a) p0) b) p2) p3)
theorem qvl : ∀ N,q5z N = Yu N qO:=by
  intro N
  induction N with
  | zero=>rfl
  | succ N ih=>
    funext a b c d;show q3o (q5z N) a b c d = U1 (Yu N qO) qO a b c d;rw [ih,qvp]
theorem qu0 : (fun p0=>Ub p0) = (fun p0=>q1i qO p0):=by
  funext p0;simp only [Ub,q1i,qjj,qvl]
  all_goals exact Qs
theorem qu1  : ∀ p0,Ub p0 = q1i qO p0:=fun p0=>(congrFun qu0 p0)
end Go.Sh
