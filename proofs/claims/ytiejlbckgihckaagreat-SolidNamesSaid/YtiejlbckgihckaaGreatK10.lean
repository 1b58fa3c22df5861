/- Pg4 Pg5 Pg6 Pj1 Pj2 Pl4 Pj3 Po1 -/
import Derived.Test.YtiejlbckgihckaaGreatK9
namespace Go.Sh
open Go Go.Am
section
variable {T : Type} [Inhabited T] {P : T→Prop} {lt : T→T→Bool} {q : T→T→Option Int}
theorem qey {f : Int→Option (Int ⊕ Int)} (p : T→Bool) (d : Array T) (j : Nat)
    (b : ∀ k : Nat,k≤1000002→f (k : Int) = if (decide (k≤j) && p d[k]!) = true then some (.inl ((k + 1 : Nat) : Int)) else some (.inr (k : Int))) (g : j≤1000000) :
    ∀ (m i : Nat),j + 1 - i = m→i≤1000002→loop f (i : Int) = some ((Sort.scanUp p d j i : Nat) : Int):=by
  intro m
  induction m with
  | zero=>
    intro i c hi;unfold Sort.scanUp;have a : ¬ (decide (i≤j) && p d[i]!) = true:=by simp;omega
    rw [qn a];exact Kl (by rw [b i hi,qn a])
  | succ m ih=>
    intro i c hi;unfold Sort.scanUp;by_cases a : (decide (i≤j) && p d[i]!) = true
    · rw [ql a,Y2 (by rw [b i hi,ql a])];exact ih (i + 1) q0 q0
    · rw [qn a];exact Kl (by rw [b i hi,qn a])
theorem qb4 {f : Int→Option (Int ⊕ Int)} (p : T→Bool) (d : Array T) (i n : Nat) (hi : 1≤i)
    (b : ∀ k : Nat,k < n→f (k : Int) = if (decide (i≤k) && p d[k]!) = true then some (.inl ((k - 1 : Nat) : Int)) else some (.inr (k : Int))) :
    ∀ (j : Nat),j < n→loop f (j : Int) = some ((Sort.scanDown p d i j : Nat) : Int)
  | 0,hj=>by
    have a : ¬ (decide (i≤0) && p d[0]!) = true:=by simp;omega
    exact Kl (by rw [b 0 hj,qn a];rfl)
  | j + 1,hj=>by
    unfold Sort.scanDown
    by_cases a : (decide (i≤j + 1) && p d[j + 1]!) = true
    · rw [ql a,Y2 (by rw [b (j + 1) hj,ql a])]
      exact qb4 p d i n hi b j q0
    · rw [qn a]
      exact Kl (by rw [b (j + 1) hj,qn a])
theorem qjz (f : Kt q lt P) {n : Nat} {d : Array T} (hd : AllP n P d) {a j : Nat} (l : a < n) (m : j < n) (x : Int) (k : Nat) (o : k≤1000002) :
    Jb (x,(j : Int),d.toList) (a : Int) q (k : Int) = if (decide (k≤j) && (fun x=>lt x d[a]!) d[k]!) = true then some (.inl ((k + 1 : Nat) : Int)) else some (.inr (k : Int)):=by
  have c:=hd.1;by_cases h : k≤j
  · obtain ⟨r,g,b⟩:=f d[k]! d[a]! (hd.2.2 _ q0) (hd.2.2 _ l);have t : decide ((k : Int)≤(j : Int)) = true:=Qe q0;simp only [Jb,t,Q1,gx (d:=d) (k:=k) q0,gx (d:=d) (k:=a) q0,qm,g,b,w1p k q0];simp only [Qe h,Bool.true_and,Bool.cond_eq_ite]
  · have t : decide ((k : Int)≤(j : Int)) = false:=Qm q0;simp only [Jb,t,Q3,qm];simp [h]
theorem qk0 (f : Kt q lt P) {n : Nat} {d : Array T} (hd : AllP n P d) {a i : Nat} (j : a < n) (hi : 1≤i) (x y : Int) (k : Nat) (m : k < n) :
    Jc (i : Int) (x,y,d.toList) (a : Int) q (k : Int) = if (decide (i≤k) && (fun x=>!lt x d[a]!) d[k]!) = true then some (.inl ((k - 1 : Nat) : Int)) else some (.inr (k : Int)):=by
  have c:=hd.1;have l:=hd.2.1;by_cases h : i≤k
  · obtain ⟨r,g,b⟩:=f d[k]! d[a]! (hd.2.2 _ q0) (hd.2.2 _ j);have t : decide ((i : Int)≤(k : Int)) = true:=Qe q0;have w : w64 ((k : Int) - 1) = ((k - 1 : Nat) : Int):=by rw [Q9 q0];omega
    simp only [Jc,t,Q1,gx (d:=d) (k:=k) q0,gx (d:=d) (k:=a) q0,qm,g,b,w];simp only [Qe h,Bool.true_and,Bool.cond_eq_ite]
  · have t : decide ((i : Int)≤(k : Int)) = false:=Qm q0;simp only [Jc,t,Q3,qm];simp [h]
theorem qtj (f : Kt q lt P) {n : Nat} {d : Array T} (hd : AllP n P d) {a j : Nat} (l : a < n) (m : j < n) (x : Int) (k : Nat) (o : k≤1000002) :
    Ut (x,(j : Int),d.toList) (a : Int) q (k : Int) = if (decide (k≤j) && (fun x=>!lt d[a]! x) d[k]!) = true then some (.inl ((k + 1 : Nat) : Int)) else some (.inr (k : Int)):=by
  have c:=hd.1;by_cases h : k≤j
  · obtain ⟨r,g,b⟩:=f d[a]! d[k]! (hd.2.2 _ l) (hd.2.2 _ q0);have t : decide ((k : Int)≤(j : Int)) = true:=Qe q0;simp only [Ut,t,Q1,gx (d:=d) (k:=k) q0,gx (d:=d) (k:=a) q0,qm,g,b,w1p k q0];simp only [Qe h,Bool.true_and,Bool.cond_eq_ite]
  · have t : decide ((k : Int)≤(j : Int)) = false:=Qm q0;simp only [Ut,t,Q3,qm];simp [h]
theorem qtk (f : Kt q lt P) {n : Nat} {d : Array T} (hd : AllP n P d) {a i : Nat} (j : a < n) (hi : 1≤i) (x y : Int) (k : Nat) (m : k < n) :
    Uu (i : Int) (x,y,d.toList) (a : Int) q (k : Int) = if (decide (i≤k) && (fun x=>lt d[a]! x) d[k]!) = true then some (.inl ((k - 1 : Nat) : Int)) else some (.inr (k : Int)):=by
  have c:=hd.1;have l:=hd.2.1;by_cases h : i≤k
  · obtain ⟨r,g,b⟩:=f d[a]! d[k]! (hd.2.2 _ j) (hd.2.2 _ q0);have t : decide ((i : Int)≤(k : Int)) = true:=Qe q0;have w : w64 ((k : Int) - 1) = ((k - 1 : Nat) : Int):=by rw [Q9 q0];omega
    simp only [Uu,t,Q1,gx (d:=d) (k:=k) q0,gx (d:=d) (k:=a) q0,qm,g,b,w];simp only [Qe h,Bool.true_and,Bool.cond_eq_ite]
  · have t : decide ((i : Int)≤(k : Int)) = false:=Qm q0;simp only [Uu,t,Q3,qm];simp [h]
theorem qta (r : Kt q lt P) (a n : Nat) (v : a < n) : ∀ (m i j : Nat) (d : Array T),j + 1 - i = m→AllP n P d→1≤i→i≤n + 1→j < n→
    loop (q1i (a : Int) q) ((i : Int),(j : Int),d.toList) = some (((Sort.partLoop lt a i j d).1 : Int),(Sort.partLoop lt a i j d).2.toList)∧AllP n P (Sort.partLoop lt a i j d).2∧(Sort.partLoop lt a i j d).1 < n:=by
  intro m
  induction m using Nat.strongRecOn with
  | _ m ih=>
    intro i j d hm hd hi z u;have y:=hd.1;have hn:=hd.2.1;rw [Sort.partLoop_eq];have l:=qey (f:=Jb ((i : Int),(j : Int),d.toList) (a : Int) q) (fun x=>lt x d[a]!) d j (fun k o=>qjz r hd v u _ k o) q0 _ i rfl q0;have g1:=Sort.scanUp_ge (fun x=>lt x d[a]!) d j i;have u1:=(Sort.scanUp_spec (fun x=>lt x d[a]!) d j _ i rfl).2.1;generalize Sort.scanUp (fun x=>lt x d[a]!) d j i = c at l g1 u1 ⊢;have p:=qb4 (f:=Jc (c : Int) ((i : Int),(j : Int),d.toList) (a : Int) q) (fun x=>!lt x d[a]!) d c n q0 (fun k o=>qk0 r hd v q0 _ _ k o) j u;have g2:=Sort.scanDown_le (fun x=>!lt x d[a]!) d c j;generalize Sort.scanDown (fun x=>!lt x d[a]!) d c j = g at p g2 ⊢;by_cases s : c > g
    · rw [ql s];have t : decide ((c : Int) > (g : Int)) = true:=Qe q0;refine ⟨Kl ?_,hd,by show g < n;omega⟩;simp only [q1i,l,p,qm,t,Q1]
    · rw [qn s];have t : decide ((c : Int) > (g : Int)) = false:=Qm q0;have h:=ih ((g - 1) + 1 - (c + 1)) q0 (c + 1) (g - 1) _ rfl (hd.swp (a:=c) (b:=g) q0 q0) q0 q0 q0;refine ⟨?_,h.2⟩;rw [Y2 (a':=(((c + 1 : Nat) : Int),((g - 1 : Nat) : Int),(Sort.swp d c g).toList)) ?_]
      · exact h.1
      · have w : w64 ((g : Int) - 1) = ((g - 1 : Nat) : Int):=by rw [Q9 q0];omega
        simp only [q1i,l,p,qm,t,Q3,gx (d:=d) (k:=c) q0,gx (d:=d) (k:=g) q0,gxs (d:=d) (k:=g) q0,Int.toNat_natCast,gswp,w,w1p c q0]
theorem qt9 (p : Kt q lt P) (a n : Nat) (u : a < n) : ∀ (m i j : Nat) (d : Array T),j + 1 - i = m→AllP n P d→1≤i→i≤n + 1→j < n→
    loop (q1h (a : Int) q) ((i : Int),(j : Int),d.toList) = some (((Sort.partEqLoop lt a i j d).1 : Int),(Sort.partEqLoop lt a i j d).2.toList):=by
  intro m
  induction m using Nat.strongRecOn with
  | _ m ih=>
    intro i j d hm hd hi y s;have v:=hd.1;have hn:=hd.2.1;rw [Sort.partEqLoop_eq];have h:=qey (f:=Ut ((i : Int),(j : Int),d.toList) (a : Int) q) (fun x=>!lt d[a]! x) d j (fun k l=>qtj p hd u s _ k l) q0 _ i rfl q0;have z:=Sort.scanUp_ge (fun x=>!lt d[a]! x) d j i;have u1:=(Sort.scanUp_spec (fun x=>!lt d[a]! x) d j _ i rfl).2.1;generalize Sort.scanUp (fun x=>!lt d[a]! x) d j i = c at h z u1 ⊢;have o:=qb4 (f:=Uu (c : Int) ((i : Int),(j : Int),d.toList) (a : Int) q) (fun x=>lt d[a]! x) d c n q0 (fun k l=>qtk p hd u q0 _ _ k l) j s;have g2:=Sort.scanDown_le (fun x=>lt d[a]! x) d c j;generalize Sort.scanDown (fun x=>lt d[a]! x) d c j = g at o g2 ⊢;by_cases r : c > g
    · rw [ql r];have t : decide ((c : Int) > (g : Int)) = true:=Qe q0;refine Kl ?_;simp only [q1h,h,o,qm,t,Q1]
    · rw [qn r];have t : decide ((c : Int) > (g : Int)) = false:=Qm q0;rw [Y2 (a':=(((c + 1 : Nat) : Int),((g - 1 : Nat) : Int),(Sort.swp d c g).toList)) ?_]
      · exact ih ((g - 1) + 1 - (c + 1)) q0 (c + 1) (g - 1) _ rfl (hd.swp (a:=c) (b:=g) q0 q0) q0 q0 q0
      · have w : w64 ((g : Int) - 1) = ((g - 1 : Nat) : Int):=by rw [Q9 q0];omega
        simp only [q1h,h,o,qm,t,Q3,gx (d:=d) (k:=c) q0,gx (d:=d) (k:=g) q0,gxs (d:=d) (k:=g) q0,Int.toNat_natCast,gswp,w,w1p c q0]
theorem qtc (f : Kt q lt P) {a b n p : Nat} (hb : b≤n) (c : a < b) (hp : p < n) {d : Array T} (hd : AllP n P d) :
    q1g q d.toList (a : Int) (b : Int) (p : Int) = some (((Sort.partitionEqual lt d a b p).1 : Int),(Sort.partitionEqual lt d a b p).2.toList):=by
  have g:=hd.1;have h:=hd.2.1;have w : w64 ((b : Int) - 1) = ((b - 1 : Nat) : Int):=by rw [Q9 q0];omega
  have s:=qt9 f a n q0 _ (a + 1) (b - 1) _ rfl (hd.swp (a:=a) (b:=p) q0 hp) q0 q0 q0;unfold q1g Sort.partitionEqual;simp only [gx (d:=d) (k:=p) q0,gx (d:=d) (k:=a) q0,gxs (d:=d) (k:=p) q0,qm,Int.toNat_natCast,gswp,w,w1p a q0,s]
theorem qtd (j : Kt q lt P) {a b n p : Nat} (hb : b≤n) (aa : a < b) (hp : p < n) {d : Array T} (hd : AllP n P d) :
    q1f q d.toList (a : Int) (b : Int) (p : Int) = some (((Sort.partition lt d a b p).1 : Int),(Sort.partition lt d a b p).2.1,(Sort.partition lt d a b p).2.2.toList):=by
  have v:=hd.1;have hn:=hd.2.1;have w : w64 ((b : Int) - 1) = ((b - 1 : Nat) : Int):=by rw [Q9 q0];omega
  have h:=hd.swp (a:=a) (b:=p) q0 hp
  have e1 : q2l (b : Int) d.toList (a : Int) d[p]! (p : Int) d[a]! q = Jb ((0 : Int),((b - 1 : Nat) : Int),(Sort.swp d a p).toList) (a : Int) q:=by
    funext k;simp only [q2l,Jb,w,Int.toNat_natCast,gswp]
  have y : ∀ c : Int,q2m c d.toList (a : Int) d[p]! (p : Int) d[a]! q = Jc c ((0 : Int),(0 : Int),(Sort.swp d a p).toList) (a : Int) q:=by
    intro c;funext k;simp only [q2m,Jc,Int.toNat_natCast,gswp]
  unfold q1f Sort.partition;simp only [gx (d:=d) (k:=p) q0,gx (d:=d) (k:=a) q0,gxs (d:=d) (k:=p) q0,qm,e1,y,Int.toNat_natCast,gswp,w,w1p a q0];generalize Sort.swp d a p = D at h ⊢;have u:=h.1;have o:=qey (f:=Jb ((0 : Int),((b - 1 : Nat) : Int),D.toList) (a : Int) q) (fun x=>lt x D[a]!) D (b - 1) (fun k l=>qjz j h q0 q0 _ k l) q0 _ (a + 1) rfl q0;have g1:=Sort.scanUp_ge (fun x=>lt x D[a]!) D (b - 1) (a + 1);generalize Sort.scanUp (fun x=>lt x D[a]!) D (b - 1) (a + 1) = c at o g1 ⊢;have s:=qb4 (f:=Jc (c : Int) ((0 : Int),(0 : Int),D.toList) (a : Int) q) (fun x=>!lt x D[a]!) D c n q0 (fun k l=>qk0 j h q0 q0 _ _ k l) (b - 1) q0;have g2:=Sort.scanDown_le (fun x=>!lt x D[a]!) D c (b - 1);generalize Sort.scanDown (fun x=>!lt x D[a]!) D c (b - 1) = g at s g2 ⊢;simp only [o,s,qm];by_cases r : c > g
  · have t : decide ((c : Int) > (g : Int)) = true:=Qe q0;simp only [ql r,t,Q1,gx (d:=D) (k:=a) q0,gx (d:=D) (k:=g) q0,gxs (d:=D) (k:=a) q0,qm,Int.toNat_natCast,gswp]
  · have t : decide ((c : Int) > (g : Int)) = false:=Qm q0;have w2 : w64 ((g : Int) - 1) = ((g - 1 : Nat) : Int):=by rw [Q9 q0];omega
    obtain ⟨s3,m,b3⟩:=qta j a n q0 _ (c + 1) (g - 1) _ rfl (h.swp (a:=c) (b:=g) q0 q0) q0 q0 q0;simp only [qn r,t,Q3,gx (d:=D) (k:=c) q0,gx (d:=D) (k:=g) q0,gxs (d:=D) (k:=g) q0,qm,Int.toNat_natCast,gswp,w2,w1p c q0,s3];generalize Sort.partLoop lt a (c + 1) (g - 1) (Sort.swp D c g) = R at m b3 ⊢;have z:=m.1;simp only [gx (d:=R.2) (k:=a) q0,gx (d:=R.2) (k:=R.1) q0,gxs (d:=R.2) (k:=a) q0,qm,gswp]
theorem quq (l : Kt q lt P) {b n : Nat} (hb : b≤n) {d : Array T} (hd : AllP n P d) (x y : Int) : ∀ (m i : Nat),b - i = m→1≤i→i≤b→
    loop (Uq (b : Int) (x,y,d.toList) q) (i : Int) = some ((Sort.scanSorted lt d b i : Nat) : Int)∧i≤Sort.scanSorted lt d b i∧Sort.scanSorted lt d b i≤b:=by
  have j:=hd.1;have p:=hd.2.1;intro m
  induction m with
  | zero=>
    intro i o hi a;unfold Sort.scanSorted;rw [qn (by simp;omega)];have t : decide ((i : Int) < (b : Int)) = false:=Qm q0;exact ⟨Kl (by simp only [Uq,t,Q3,qm]),Nat.le_refl _,a⟩
  | succ m ih=>
    intro i o hi a;unfold Sort.scanSorted;have t : decide ((i : Int) < (b : Int)) = true:=Qe q0;have w : w64 ((i : Int) - 1) = ((i - 1 : Nat) : Int):=by rw [Q9 q0];omega
    obtain ⟨r,h,g⟩:=l d[i]! d[i - 1]! (hd.2.2 _ q0) (hd.2.2 _ q0);by_cases c : lt d[i]! d[i - 1]! = true
    · rw [qn (by simp [c])];refine ⟨Kl ?_,Nat.le_refl _,a⟩;simp only [Uq,t,Q1,w,gx (d:=d) (k:=i) q0,gx (d:=d) (k:=i - 1) q0,qm,h,g,c,Bool.not_true,Q3]
    · have c : lt d[i]! d[i - 1]! = false:=by simpa using c
      rw [ql (by simp [c];omega)];have f:=ih (i + 1) q0 q0 q0;refine ⟨?_,q0,f.2.2⟩;rw [Y2 (a':=((i + 1 : Nat) : Int)) ?_]
      · exact f.1
      · simp only [Uq,t,Q1,w,gx (d:=d) (k:=i) q0,gx (d:=d) (k:=i - 1) q0,qm,h,g,c,Bool.not_false,w1p i q0]
theorem ql2 (h : Kt q lt P) (n : Nat) : ∀ (j : Nat) (d : Array T),AllP n P d→j < n→loop (Ur q) ((j : Int),d.toList) = some (Sort.shiftDown lt j d).toList∧AllP n P (Sort.shiftDown lt j d)
  | 0,d,hd,hj=>by
    have t : decide (((0 : Nat) : Int) ≥ 1) = false:=Qm q0
    exact ⟨Kl (by simp only [Ur,t,Q3];rfl),hd⟩
  | j + 1,d,hd,hj=>by
    have m:=hd.1
    have o:=hd.2.1
    have t : decide (((j + 1 : Nat) : Int) ≥ 1) = true:=Qe q0
    obtain ⟨r,l,g⟩:=h d[j + 1]! d[j]! (hd.2.2 _ hj) (hd.2.2 _ q0)
    unfold Sort.shiftDown
    by_cases c : lt d[j + 1]! d[j]! = true
    · rw [qn (by simp [c])]
      have f:=ql2 h n j _ (hd.swp (a:=j + 1) (b:=j) hj q0) q0
      refine ⟨?_,f.2⟩
      rw [Y2 (a':=((j : Int),(Sort.swp d (j + 1) j).toList)) ?_]
      · exact f.1
      · simp only [Ur,t,Q1,gx (d:=d) (k:=j + 1) q0,w1m j q0,gx (d:=d) (k:=j) q0,gxs (d:=d) (k:=j) q0,qm,l,g,c,Bool.not_true,Q3,Int.toNat_natCast,gswp]
    · have c : lt d[j + 1]! d[j]! = false:=by simpa using c
      rw [ql (by simp [c])]
      refine ⟨Kl ?_,hd⟩
      simp only [Ur,t,Q1,gx (d:=d) (k:=j + 1) q0,w1m j q0,gx (d:=d) (k:=j) q0,qm,l,g,c,Bool.not_false]
theorem ql4 (p : Kt q lt P) {b n : Nat} (hb : b≤n) (c : Int) : ∀ (m j : Nat) (d : Array T),b - j = m→AllP n P d→1≤j→loop (Us (b : Int) q c) ((j : Int),d.toList) = some (c,(Sort.shiftUp lt b j d).toList)∧AllP n P (Sort.shiftUp lt b j d):=by
  intro m
  induction m with
  | zero=>
    intro j d s hd u;unfold Sort.shiftUp;rw [qn q0];have t : decide ((j : Int) < (b : Int)) = false:=Qm q0;exact ⟨Kl (by simp only [Us,t,Q3]),hd⟩
  | succ m ih=>
    intro j d s hd u;have o:=hd.1;have v:=hd.2.1;unfold Sort.shiftUp;rw [ql q0];have t : decide ((j : Int) < (b : Int)) = true:=Qe q0;have w : w64 ((j : Int) - 1) = ((j - 1 : Nat) : Int):=by rw [Q9 q0];omega
    obtain ⟨r,l,h⟩:=p d[j]! d[j - 1]! (hd.2.2 _ q0) (hd.2.2 _ q0);by_cases f : lt d[j]! d[j - 1]! = true
    · rw [qn (by simp [f])];have g:=ih (j + 1) _ q0 (hd.swp (a:=j) (b:=j - 1) q0 q0) q0;refine ⟨?_,g.2⟩;rw [Y2 (a':=(((j + 1 : Nat) : Int),(Sort.swp d j (j - 1)).toList)) ?_]
      · exact g.1
      · simp only [Us,t,Q1,w,gx (d:=d) (k:=j) q0,gx (d:=d) (k:=j - 1) q0,gxs (d:=d) (k:=j - 1) q0,qm,l,h,f,Bool.not_true,Q3,Int.toNat_natCast,gswp,w1p j q0]
    · have f : lt d[j]! d[j - 1]! = false:=by simpa using f
      rw [ql (by simp [f])];refine ⟨Kl ?_,hd⟩;simp only [Us,t,Q1,w,gx (d:=d) (k:=j) q0,gx (d:=d) (k:=j - 1) q0,qm,l,h,f,Bool.not_false]
theorem qk2 (h : Kt q lt P) {a b n : Nat} (hb : b≤n) : ∀ (s i : Nat) (d : Array T),s≤5→AllP n P d→a < i→i≤b→
    ∃ m,loop (J0 (b : Int) q (a : Int)) ((i : Int),((5 - s : Nat) : Int),d.toList) = some m∧(match m with | .inl b441=>some (false,b441) | .inr x1=>some x1) = some ((Sort.partialIns lt a b s i d).2,(Sort.partialIns lt a b s i d).1.toList)
  | 0,i,d,hs,hd,hi,hib=>by
    have t : decide (((5 - 0 : Nat) : Int) < 5) = false:=Qm q0
    refine ⟨.inl d.toList,Kl (by simp only [J0,t,Q3]),rfl⟩
  | s + 1,i,d,hs,hd,hi,hib=>by
    have ae:=hd.1
    have hn:=hd.2.1
    have t : decide (((5 - (s + 1) : Nat) : Int) < 5) = true:=Qe q0
    rw [Sort.partialIns_succ]
    obtain ⟨p,l1,u1⟩:=quq h hb hd (i : Int) ((5 - (s + 1) : Nat) : Int) _ i rfl q0 hib
    generalize Sort.scanSorted lt d b i = k at p l1 u1 ⊢
    by_cases hk : k = b
    · subst hk
      rw [ql rfl]
      refine ⟨.inr (true,d.toList),Kl ?_,rfl⟩
      simp only [J0,t,Q1,p,qm,beq_self_eq_true]
    · rw [qn hk]
      have w : ((k : Int) == (b : Int)) = false:=by simp;omega
      have e0 : w64 ((b : Int) - (a : Int)) = ((b - a : Nat) : Int):=wsub q0 q0
      by_cases o : b - a < 50
      · rw [ql o]
        have c : decide (((b - a : Nat) : Int) < 50) = true:=Qe q0
        refine ⟨.inr (false,d.toList),Kl ?_,rfl⟩
        simp only [J0,t,Q1,p,qm,w,Q3,e0,c]
      · rw [qn o]
        have c : decide (((b - a : Nat) : Int) < 50) = false:=Qm q0
        have wk : w64 ((k : Int) - 1) = ((k - 1 : Nat) : Int):=by rw [Q9 q0];omega
        have wa : w64 ((k : Int) - (a : Int)) = ((k - a : Nat) : Int):=wsub q0 q0
        have wb : w64 ((b : Int) - (k : Int)) = ((b - k : Nat) : Int):=wsub q0 q0
        have j:=hd.swp (a:=k) (b:=k - 1) q0 q0
        have down : (cond (decide (((k - a : Nat) : Int) ≥ 2)) ((loop (Ur q) (((k - 1 : Nat) : Int),(Sort.swp d k (k - 1)).toList)).bind fun x0=>some x0) (some (Sort.swp d k (k - 1)).toList)) = some (Sort.fixDown lt a k (Sort.swp d k (k - 1))).toList∧AllP n P (Sort.fixDown lt a k (Sort.swp d k (k - 1))):=by
          unfold Sort.fixDown;by_cases l : k - a ≥ 2
          · have g : decide (((k - a : Nat) : Int) ≥ 2) = true:=Qe q0;obtain ⟨x,y⟩:=ql2 h n (k - 1) _ j q0;rw [ql l,g,Q1,x];exact ⟨rfl,y⟩
          · have g : decide (((k - a : Nat) : Int) ≥ 2) = false:=Qm q0;rw [qn l,g,Q3];exact ⟨rfl,j⟩
        obtain ⟨dn,f⟩:=down
        have u : AllP n P (Sort.fixUp lt b k (Sort.fixDown lt a k (Sort.swp d k (k - 1)))):=by
          unfold Sort.fixUp;split
          · exact (ql4 h hb 0 _ (k + 1) _ rfl f q0).2
          · exact f
        obtain ⟨m,v,r⟩:=qk2 (a:=a) h hb s k _ q0 u q0 u1
        refine ⟨m,?_,r⟩
        rw [Y2 (a':=((k : Int),((5 - s : Nat) : Int),(Sort.fixUp lt b k (Sort.fixDown lt a k (Sort.swp d k (k - 1)))).toList)) ?_]
        · exact v
        · have z : w64 (((5 - (s + 1) : Nat) : Int) + 1) = ((5 - s : Nat) : Int):=by rw [Q9 q0];omega
          simp only [J0,t,Q1,p,qm,w,Q3,e0,c,wk,gx (d:=d) (k:=k) q0,gx (d:=d) (k:=k - 1) q0,gxs (d:=d) (k:=k - 1) q0,Int.toNat_natCast,gswp,wa,dn,wb,w1p k q0]
          unfold Sort.fixUp
          by_cases l : b - k ≥ 2
          · have g : decide (((b - k : Nat) : Int) ≥ 2) = true:=Qe q0
            obtain ⟨x,y⟩:=ql4 h hb (k : Int) _ (k + 1) _ rfl f q0
            rw [ql l,g,Q1,x]
            simp only [qm,z]
          · have g : decide (((b - k : Nat) : Int) ≥ 2) = false:=Qm q0
            rw [qn l,g,Q3]
            simp only [qm,z]
theorem qtb (h : Kt q lt P) {a b n : Nat} (hb : b≤n) (f : a < b) {d : Array T} (hd : AllP n P d) :
    U8 q d.toList (a : Int) (b : Int) = some ((Sort.partialInsertionSort lt d a b).2,(Sort.partialInsertionSort lt d a b).1.toList):=by
  have j:=hd.2.1;obtain ⟨m,c,g⟩:=qk2 (a:=a) h hb 5 (a + 1) d q0 hd q0 q0;have c : loop (J0 (b : Int) q (a : Int)) (((a + 1 : Nat) : Int),0,d.toList) = some m:=c;unfold U8 Sort.partialInsertionSort;rw [w1p a q0,c];exact g
end
end Go.Sh
namespace Go.Sh
open Go Go.Am
theorem qiy {α β : Type} {f : α→Option (α ⊕ β)} {a : α} (h : f a = none) : loop f a = none:=by
  apply Option.ext;intro b;rw [q7v];constructor
  · rintro ⟨n,c⟩
    cases n with
    | zero=>simp [iter] at c
    | succ n=>simp [iter,h] at c
  · intro h;cases h
section
variable {T : Type} [Inhabited T] {P : T→Prop} {lt : T→T→Bool} {q : T→T→Option Int}
def Srt (lt : T→T→Bool) (a b : Nat) (d : Array T) (o : Option (List T)) : Prop:=∃ d' : Array T,o = some d'.toList∧Sort.PermIn a b d d'∧Sort.SortedIn lt a b d'
theorem qti (hq : Kt q lt P) (hS : Sort.SWO lt) {n N : Nat} (ae : List T→Int→Int→Int→Option (List T))
    (au : ∀ (a b f : Nat) (d : Array T),AllP n P d→a≤b→b≤n→f≤1000→Sort.Below lt a b d→Srt lt a b d (ae d.toList (a : Int) (b : Int) (f : Int))∨(N≤b - a∧ae d.toList (a : Int) (b : Int) (f : Int) = none)) :
    ∀ (m a b f : Nat) (wb wp : Bool) (d : Array T),b - a = m→AllP n P d→a≤b→b≤n→f≤1000→Sort.Below lt a b d→
      Srt lt a b d (loop (Zo q ae) ((a : Int),(b : Int),(f : Int),wb,wp,d.toList))∨(N + 1≤b - a∧loop (Zo q ae) ((a : Int),(b : Int),(f : Int),wb,wp,d.toList) = none):=by
  intro m
  induction m using Nat.strongRecOn with
  | _ m ih=>
    intro a b f wb wp d hm hd o hb hl hB;have de:=hd.1;have hn:=hd.2.1;have e0 : w64 ((b : Int) - (a : Int)) = ((b - a : Nat) : Int):=wsub o q0;by_cases dp : b - a≤12
    ·
      have t : decide (((b - a : Nat) : Int)≤12) = true:=Qe q0;obtain ⟨x,y⟩:=Sort.insertionSort_holds (lt:=lt) hS d a b o q0;have s:=qqt hq hb o hd;refine .inl ⟨_,Kl ?_,x,y⟩;simp only [Zo,e0,t,Q1,s,qm,Ub hd (hd.perm o hb x)]
    have bq : decide (((b - a : Nat) : Int)≤12) = false:=Qm q0;by_cases h0 : f = 0
    ·
      have t : ((f : Int) == 0) = true:=by simp [h0]
      obtain ⟨x,y⟩:=Sort.heapSort_holds (lt:=lt) hS d a b o q0;have s:=qqj hq hb (by omega : a < b) hd;refine .inl ⟨_,Kl ?_,x,y⟩;simp only [Zo,e0,bq,Q3,t,Q1,s,qm,Ub hd (hd.perm o hb x)]
    have t0 : ((f : Int) == 0) = false:=by simp [h0]
    have hA : ∃ (l1 : Nat) (d1 : Array T),(cond (!wb) ((q1b q d.toList (a : Int) (b : Int)).bind fun az=>(Qu az.length d.toList.length).bind fun cx=>some (w64 ((f : Int) - 1),az)) (some ((f : Int),d.toList))) = some ((l1 : Int),d1.toList)∧l1≤1000∧AllP n P d1∧Sort.PermIn a b d d1:=by
      cases wb with
      | true=>exact ⟨f,d,rfl,hl,hd,Sort.permIn_refl _ _ _⟩
      | false=>
        have x:=Sort.breakPatterns_holds d a b o q0;have z:=hd.perm o hb x;have w : w64 ((f : Int) - 1) = ((f - 1 : Nat) : Int):=by rw [Q9 q0];omega
        refine ⟨f - 1,_,?_,q0,z,x⟩;simp only [Bool.not_false,Q1,qno (q:=q) hb (by omega : a < b) hd,qm,Ub hd z,w]
    obtain ⟨l1,d1,eA,aq,z,p1⟩:=hA;have hC:=qor hq z (by omega : a < b) hb;obtain ⟨c1,c2⟩:=Sort.choosePivot_holds lt d1 a b q0;generalize (Sort.choosePivot lt d1 a b).1 = c at hC c1 c2;generalize qdo (Sort.choosePivot lt d1 a b).2 = h at hC
    have hR : ∃ (p : Nat) (h2 : Int) (d2 : Array T),(cond (h == 2) ((q1j q d1.toList (a : Int) (b : Int)).bind fun bb=>(Qu bb.length d1.toList.length).bind fun da=>some (w64 ((w64 ((b : Int) - 1)) - (w64 ((c : Int) - (a : Int)))),(1 : Int),bb)) (some ((c : Int),h,d1.toList))) = some ((p : Int),h2,d2.toList)∧a≤p∧p < b∧AllP n P d2∧Sort.PermIn a b d1 d2:=by
      cases hh : (h == 2) with
      | false=>exact ⟨c,h,d1,rfl,c1,c2,z,Sort.permIn_refl _ _ _⟩
      | true=>
        have x:=Sort.reverseRange_holds d1 a b o (by rw [z.1];exact hb);have ac:=z.perm o hb x;have w1 : w64 ((b : Int) - 1) = ((b - 1 : Nat) : Int):=by rw [Q9 q0];omega
        have w2 : w64 ((c : Int) - (a : Int)) = ((c - a : Nat) : Int):=wsub c1 q0;have w3 : w64 (((b - 1 : Nat) : Int) - ((c - a : Nat) : Int)) = ((b - 1 - (c - a) : Nat) : Int):=wsub q0 q0;refine ⟨b - 1 - (c - a),1,_,?_,q0,q0,ac,x⟩;simp only [Q1,quk (q:=q) hb (by omega : a < b) z,qm,Ub z ac,w1,w2,w3]
    obtain ⟨p,h2,d2,eR,hp1,hp2,ac,p2⟩:=hR;have br : Sort.Below lt a b d2:=(hB.perm q0 p1).perm (by rw [z.1];exact hb) p2;have bu:=Sort.permIn_trans _ _ _ a b p1 p2
    have hP : ∀ cc : Bool,∃ ab : (List T) ⊕ (List T),(cond cc ((U8 q d2.toList (a : Int) (b : Int)).bind fun ag=>(Qu ag.2.length d2.toList.length).bind fun dc=>cond ag.1 (some (.inr ag.2)) (some (.inl ag.2))) (some (.inl d2.toList)) : Option ((List T) ⊕ (List T))) = some ab∧
        ((∃ l : Array T,ab = .inr l.toList∧Sort.PermIn a b d2 l∧Sort.SortedIn lt a b l)∨(∃ l : Array T,ab = .inl l.toList∧AllP n P l∧Sort.PermIn a b d2 l)):=by
      intro cc
      cases cc with
      | false=>exact ⟨_,rfl,.inr ⟨d2,rfl,ac,Sort.permIn_refl _ _ _⟩⟩
      | true=>
        obtain ⟨x,y⟩:=Sort.partialInsertionSort_holds (lt:=lt) hS d2 a b q0 (by rw [ac.1];exact hb) br;have u:=ac.perm o hb x;have s:=qtb hq hb (by omega : a < b) ac;simp only [Q1,s,qm,Ub ac u]
        cases hz : (Sort.partialInsertionSort lt d2 a b).2 with
        | true=>exact ⟨_,rfl,.inl ⟨_,rfl,x,y hz⟩⟩
        | false=>exact ⟨_,rfl,.inr ⟨_,rfl,u,x⟩⟩
    obtain ⟨ab,eP,bn⟩:=hP (wb && wp && (h2 == 1))
    have cb : ∀ {γ : Type} (X : Bool→Option γ),((cond wb (some wp) (some false)).bind fun bt=>(cond bt (some (h2 == 1)) (some false)).bind X) = X (wb && wp && (h2 == 1)):=by
      intro γ X;cases wb <;> cases wp <;> rfl
    have head : Zo q ae ((a : Int),(b : Int),(f : Int),wb,wp,d.toList) = (match (generalizing:=false) ab with | .inl b377=>(cond (decide ((a : Int) > 0)) ((idx b377 (w64 ((a : Int) - 1))).bind fun al=>(idx b377 (p : Int)).bind fun ao=>(q al ao).bind fun am=>some (!(decide (am < 0)))) (some false)).bind fun bl=>cond bl ((q1g q b377 (a : Int) (b : Int) (p : Int)).bind fun an=>(Qu an.2.length b377.length).bind fun cs=>some (.inl (an.1,(b : Int),(l1 : Int),wb,wp,an.2))) ((q1f q b377 (a : Int) (b : Int) (p : Int)).bind fun g=>(Qu g.2.2.length b377.length).bind fun cy=>cond (decide ((w64 (g.1 - (a : Int))) < (w64 ((b : Int) - g.1)))) ((ae g.2.2 (a : Int) g.1 (l1 : Int)).bind fun ba=>(Qu ba.length g.2.2.length).bind fun cr=>some (.inl (w64 (g.1 + 1),(b : Int),(l1 : Int),decide ((w64 (g.1 - (a : Int))) ≥ (w64 (Int.tdiv ((b - a : Nat) : Int) 8))),g.2.1,ba))) ((ae g.2.2 (w64 (g.1 + 1)) (b : Int) (l1 : Int)).bind fun bd=>(Qu bd.length g.2.2.length).bind fun cv=>some (.inl ((a : Int),g.1,(l1 : Int),decide ((w64 ((b : Int) - g.1)) ≥ (w64 (Int.tdiv ((b - a : Nat) : Int) 8))),g.2.1,bd)))) | .inr x1=>some (.inr x1)):=by
      simp only [Zo,e0,bq,Q3,t0,eA,qm,hC,eR,cb,eP]
      clear eP bn hP au ih
      cases ab <;> rfl
    rcases bn with ⟨l,rfl,x,y⟩ | ⟨l,rfl,u,p3⟩
    · refine .inl ⟨l,Kl ?_,Sort.permIn_trans _ _ _ a b bu x,y⟩;rw [head]
    have ay:=u.1;have P3:=Sort.permIn_trans _ _ _ a b bu p3;have B3 : Sort.Below lt a b l:=br.perm (by rw [ac.1];exact hb) p3
    have bj : (cond (decide ((a : Int) > 0)) ((idx l.toList (w64 ((a : Int) - 1))).bind fun al=>(idx l.toList (p : Int)).bind fun ao=>(q al ao).bind fun am=>some (!(decide (am < 0)))) (some false)) = some (decide (a > 0) && !lt l[a - 1]! l[p]!):=by
      by_cases ha : a > 0
      · have ta : decide ((a : Int) > 0) = true:=Qe q0;have w : w64 ((a : Int) - 1) = ((a - 1 : Nat) : Int):=by rw [Q9 q0];omega
        obtain ⟨r,h1,h2⟩:=hq l[a - 1]! l[p]! (u.2.2 _ q0) (u.2.2 _ q0);simp only [ta,Q1,w,gx (d:=l) (k:=a - 1) q0,gx (d:=l) (k:=p) q0,qm,h1,h2,Qe ha,Bool.true_and]
      · have ta : decide ((a : Int) > 0) = false:=Qm q0;simp only [ta,Q3,Qm ha,Bool.false_and]
    simp only [bj,qm] at head;by_cases hc : (decide (a > 0) && !lt l[a - 1]! l[p]!) = true
    ·
      rw [hc] at head;have s:=qtc hq hb (by omega : a < b) (by omega : p < n) u;simp only [Bool.and_eq_true,decide_eq_true_eq,Bool.not_eq_true'] at hc
      cases hx : Sort.partitionEqual lt l a b p with
      | mk j d4=>
        obtain ⟨g1,g2,ca,ck,ad⟩:=Sort.round_eq hS (Sort.partitionEqual_holds lt) hc.1 hp1 hp2 (by rw [ay];exact hb) B3 hc.2 hx
        have cj : ∀ i,a≤i→i < b→lt l[i]! l[p]! = false:=fun i hi cn=>by
          rcases B3 with h0 | hB
          · omega
          · exact hS.ntrans _ _ _ (hB i hi cn) hc.2
        obtain ⟨_,_,v,_,_⟩:=Sort.partitionEqual_holds lt hS l a b p hp1 hp2 (by rw [ay];exact hb) cj;rw [hx] at v s;have aa:=u.perm o hb v;simp only [Q1,s,qm,Ub u aa] at head;rw [Y2 head];rcases ih (b - j) q0 j b l1 wb wp d4 rfl aa g2 hb aq ck with ⟨R,r0,r1,r2⟩ | ⟨r1,r2⟩
        · obtain ⟨q1,q2⟩:=ad _ r1 r2;exact .inl ⟨R,r0,Sort.permIn_trans _ _ _ a b P3 q1,q2⟩
        · exact .inr ⟨q0,r2⟩
    ·
      have hc : (decide (a > 0) && !lt l[a - 1]! l[p]!) = false:=by simpa using hc
      rw [hc] at head;have s:=qtd hq hb (by omega : a < b) (by omega : p < n) u
      cases hx : Sort.partition lt l a b p with
      | mk j r=>
      cases r with
      | mk ap d4=>
        obtain ⟨g1,g2,ca,cp,cf,bh,ax⟩:=Sort.round_part hS (Sort.partition_holds lt) hp1 hp2 (by rw [ay];exact hb) B3 hx;obtain ⟨_,_,v,_,_⟩:=Sort.partition_holds lt hS l a b p hp1 hp2 (by rw [ay];exact hb);rw [hx] at v s;have aa:=u.perm o hb v;have w1 : w64 ((j : Int) - (a : Int)) = ((j - a : Nat) : Int):=wsub g1 q0;have w2 : w64 ((b : Int) - (j : Int)) = ((b - j : Nat) : Int):=wsub q0 q0;simp only [Q3,s,qm,Ub u aa,w1,w2,w1p j q0] at head;by_cases dn : j - a < b - j
        · have tl : decide (((j - a : Nat) : Int) < ((b - j : Nat) : Int)) = true:=Qe q0;simp only [tl,Q1] at head;rcases au a j l1 d4 aa g1 q0 aq cp with ⟨L,e,ar,bk⟩ | ⟨r1,r2⟩
          · have av:=aa.perm g1 q0 ar;obtain ⟨bf,ad⟩:=bh _ ar bk;simp only [e,qm,Ub aa av] at head;rw [Y2 head];rcases ih (b - (j + 1)) q0 (j + 1) b l1 _ _ L rfl av q0 hb aq bf with ⟨R,r0,r1,r2⟩ | ⟨r1,r2⟩
            · obtain ⟨q1,q2⟩:=ad _ r1 r2;exact .inl ⟨R,r0,Sort.permIn_trans _ _ _ a b P3 q1,q2⟩
            · exact .inr ⟨q0,r2⟩
          · simp only [r2,Option.bind_none] at head;exact .inr ⟨q0,qiy head⟩
        · have tl : decide (((j - a : Nat) : Int) < ((b - j : Nat) : Int)) = false:=Qm q0;simp only [tl,Q3] at head;rcases au (j + 1) b l1 d4 aa q0 hb aq cf with ⟨L,e,ar,bk⟩ | ⟨r1,r2⟩
          · have av:=aa.perm (by omega : j + 1≤b) hb ar;obtain ⟨bf,ad⟩:=ax _ ar bk;simp only [e,qm,Ub aa av] at head;rw [Y2 head];rcases ih (j - a) q0 a j l1 _ _ L rfl av g1 q0 aq bf with ⟨R,r0,r1,r2⟩ | ⟨r1,r2⟩
            · obtain ⟨q1,q2⟩:=ad _ r1 r2;exact .inl ⟨R,r0,Sort.permIn_trans _ _ _ a b P3 q1,q2⟩
            · exact .inr ⟨q0,r2⟩
          · simp only [r2,Option.bind_none] at head;exact .inr ⟨q0,qiy head⟩
theorem qk3 (f : Kt q lt P) (g : Sort.SWO lt) {n : Nat} : ∀ (N a b c : Nat) (d : Array T),AllP n P d→a≤b→b≤n→c≤1000→Sort.Below lt a b d→
    Srt lt a b d (Zc N q d.toList (a : Int) (b : Int) (c : Int))∨(N≤b - a∧Zc N q d.toList (a : Int) (b : Int) (c : Int) = none)
  | 0,a,b,c,d,_,_,_,_,_=>.inr ⟨q0,rfl⟩
  | N + 1,a,b,c,d,hd,hab,hb,hl,hB=>by
    have h:=qti f g (N:=N) (Zc N q) (fun a b c d k j l o m=>qk3 f g N a b c d k j l o m) _ a b c true true d rfl hd hab hb hl hB
    have e : Zc (N + 1) q d.toList (a : Int) (b : Int) (c : Int) = loop (Zo q (Zc N q)) ((a : Int),(b : Int),(c : Int),true,true,d.toList):=by
      show Uv (Zc N q) q d.toList (a : Int) (b : Int) (c : Int) = _;unfold Uv;cases loop (Zo q (Zc N q)) ((a : Int),(b : Int),(c : Int),true,true,d.toList) <;> rfl
    rw [e]
    exact h
theorem qlw (p : Kt q lt P) (z : Sort.SWO lt) (xs : List T) (o : xs.length≤1000000) (u : ∀ x∈xs,P x) :
    ∃ ys,q2g q xs = some ys∧ys.Perm xs∧ys.Pairwise (fun x y=>lt y x = false):=by
  have hd : AllP xs.length P xs.toArray:=by
    refine ⟨qc,o,fun i hi=>?_⟩;have : xs.toArray[i]! = xs[i]:=by simp [hi]
    rw [this];exact u _ (Y3 hi)
  have hk : Sort.bitsLen xs.length≤20:=(Sort.bitsLen_le_iff _ 20).2 q0;have c : ∀ N,_:=fun N=>qk3 p z N 0 xs.length (Sort.bitsLen xs.length) xs.toArray hd q0 q0 q0 (.inl rfl);have s:=c (xs.length + 1);rcases s with ⟨d',e,_,_⟩ | ⟨h,_⟩
  · obtain ⟨r,n⟩:=qr3 (f:=fun N=>Zc N q xs 0 (xs.length : Int) ((Sort.bitsLen xs.length : Nat) : Int)) e;obtain ⟨N,g⟩:=qdu n;have g : Zc N q xs 0 (xs.length : Int) ((Sort.bitsLen xs.length : Nat) : Int) = some r:=g;rcases c N with ⟨a,b,x,y⟩ | ⟨_,b⟩
    · have b : Zc N q xs 0 (xs.length : Int) ((Sort.bitsLen xs.length : Nat) : Int) = some a.toList:=b;rw [g] at b;obtain rfl : r = a.toList:=qc2 b;have d : a.size = xs.length:=by rw [x.1];simp
      refine ⟨a.toList,?_,?_,?_⟩
      · unfold q2g;rw [q27,show ((xs.length : Int) % 18446744073709551616) = (xs.length : Int) by omega,qiw _ o];simp only [qm,n];unfold Qu;rw [ql (by simp [d])];rfl
      · have:=x.2.2;have t : a.extract 0 xs.length = a:=by rw [← d];simp
        have v : xs.toArray.extract 0 xs.length = xs.toArray:=by simp
        rw [t,v] at this;exact this
      · rw [List.pairwise_iff_getElem];intro i j hi w k;have m : i < a.size:=by simpa using hi
        have l : j < a.size:=by simpa using w
        have:=y i j q0 k q0;rw [getElem!_pos a i m,getElem!_pos a j l] at this;simpa using this
    · have b : Zc N q xs 0 (xs.length : Int) ((Sort.bitsLen xs.length : Nat) : Int) = none:=b;rw [g] at b;cases b
  · omega
end
end Go.Sh
namespace Go.Sh
open Go Go.Am
theorem qvq : qbr = q4x:=rfl
theorem qur : q2u = q3k:=by
  funext p0;simp only [q2u,q3k,qvq]
  all_goals exact Qt
theorem qkw : Uy = q1a:=by
  funext p0;simp only [Uy,q1a,qur]
  all_goals exact Qt
theorem qv1 : q8t = U6:=by
  funext p1 q1 a459;simp only [q8t,U6]
  all_goals exact Qt
theorem qv0 : q8s = q1e:=by
  funext p2 p1 q1 a278;simp only [q8s,q1e,qv1]
  all_goals exact Qt
theorem quz : q8r = q2j:=by
  funext q1 p0 p1 p2;simp only [q8r,q2j,qv0]
  all_goals exact Qt
theorem qvp : q9b = U9:=by
  funext p2 p3 q1 a197;simp only [q9b,U9]
  all_goals exact Qt
theorem qky : q6n = Uw:=by
  funext q1 p0 p1 p2 p3;simp only [q6n,Uw,qvp]
  all_goals exact Qt
theorem qux : q8p = q1c:=by
  funext q1 p2 p1 a123;simp only [q8p,q1c,qky]
  all_goals exact Qt
theorem quy : q8q = q1d:=by
  funext p1 q1 a191;simp only [q8q,q1d,qky]
  all_goals exact Qt
theorem quw : q8o = q2i:=by
  funext q1 p0 p1 p2;simp only [q8o,q2i,qux,quy]
  all_goals exact Qt
theorem qv3 : q1v = q2k:=by
  funext p0;simp only [q1v,q2k,qkw]
  all_goals exact Qt
theorem qvr : q1w = q2o:=by
  funext p0;simp only [q1w,q2o]
  all_goals exact Qt
theorem quu : q8m = Un:=by
  funext p1 p2 r101 a153;simp only [q8m,Un,qvr]
  all_goals exact Qt
theorem qut : q8l = q1b:=by
  funext q1 p0 p1 p2;simp only [q8l,q1b,qv3,quu]
  all_goals exact Qt
theorem qv4 : q3w = Up:=by
  funext q1 p0 p1 p2 p3;simp only [q3w,Up]
  all_goals exact Qt
theorem qkx : q63 = Uo:=by
  funext q1 p0 p1 p2 p3 p4;simp only [q63,Uo,qv4]
  all_goals exact Qt
theorem qv2 : q3u = U7:=by
  funext q1 p0 p1 p2;simp only [q3u,U7,qkx]
  all_goals exact Qt
theorem quv : q8n = q2h:=by
  funext p0 p1 p2 p3;simp only [q8n,q2h,qkx,qv2]
  all_goals exact Qt
theorem qvo : q99 = q2n:=by
  funext a119;simp only [q99,q2n]
  all_goals exact Qt
theorem qvn : q98 = q1j:=by
  funext q1 p0 p1 p2;simp only [q98,q1j,qvo]
  all_goals exact Qt
theorem qv7 : q8u = Uq:=by
  funext p2 a438 q1 a681;simp only [q8u,Uq]
  all_goals exact Qt
theorem qv8 : q8v = Ur:=by
  funext q1 a838;simp only [q8v,Ur]
  all_goals exact Qt
theorem qv9 : q8w = Us:=by
  funext p2 q1 b684 a928;simp only [q8w,Us]
  all_goals exact Qt
theorem qv6 : q65 = J0:=by
  funext p2 q1 p1 a438;have a : @q65.match_1.{1} = @J0.match_1.{1} qj:=by funext motive m f g;cases m <;> rfl
  unfold q65 J0;rw [a];simp only [qv7,qv8,qv9]
theorem qv5 : q64 = U8:=by
  funext q1 p0 p1 p2;have a : @q64.match_1.{1} = @U8.match_1.{1} qj:=by funext motive m f g;cases m <;> rfl
  unfold q64 U8;rw [a];simp only [qv6]
theorem qvd : q96 = Ut:=by
  funext a318 p1 q1 a378;simp only [q96,Ut]
  all_goals exact Qt
theorem qve : q97 = Uu:=by
  funext b381 a318 p1 q1 a463;simp only [q97,Uu]
  all_goals exact Qt
theorem qvc : q95 = q1h:=by
  funext p1 q1 a318;simp only [q95,q1h,qvd,qve]
  all_goals exact Qt
theorem qvb : q94 = q1g:=by
  funext q1 p0 p1 p2 p3;simp only [q94,q1g,qvc]
  all_goals exact Qt
theorem qvf : q8z = q2l:=by
  funext p2 p0 p1 v101 p3 v103 q1 a163;simp only [q8z,q2l]
  all_goals exact Qt
theorem qvg : q90 = q2m:=by
  funext b166 p0 p1 v101 p3 v103 q1 a249;simp only [q90,q2m]
  all_goals exact Qt
theorem qvi : q92 = Jb:=by
  funext a514 p1 q1 a572;simp only [q92,Jb]
  all_goals exact Qt
theorem qvj : q93 = Jc:=by
  funext b575 a514 p1 q1 a658;simp only [q93,Jc]
  all_goals exact Qt
theorem qvh : q91 = q1i:=by
  funext p1 q1 a514;simp only [q91,q1i,qvi,qvj]
  all_goals exact Qt
theorem qva : q8y = q1f:=by
  funext q1 p0 p1 p2 p3;simp only [q8y,q1f,qvf,qvg,qvh]
  all_goals exact Qt
theorem qvl : q6j = Zo:=by
  funext q1 rec a309;have a : @q6j.match_1.{1} = @Zo.match_1.{1} qj:=by funext motive m f g;cases m <;> rfl
  unfold q6j Zo;rw [a];simp only [quz,quw,qut,quv,qvn,qv5,qvb,qva]
theorem qvm : q6k = Uv:=by
  funext rec q1 p0 p1 p2 p3;simp only [q6k,Uv,qvl]
  all_goals exact Qt
theorem qvk : ∀ N q,q6i N q = Zc N q:=by
  intro N q
  induction N with
  | zero=>rfl
  | succ N ih=>
    funext a b c d;show q6k (q6i N q) q a b c d = Uv (Zc N q) q a b c d;rw [ih,qvm]
theorem qus : q5t = q2g:=by
  funext q1 p0;simp only [q5t,q2g,qkw,qvk]
  all_goals exact Qt
end Go.Sh
namespace Go.Sh
open Go Go.Am
instance : Inhabited qj:=⟨⟨0,0,0⟩⟩
theorem qzc (q : qj→qj→Option Int) (xs : List qj) : q5t q xs = q2g q xs:=by rw [qus]
def evs (s : List qi) (l : Int) : List qj:=s.flatMap fun t=>[{at_:=t.Lo,list_:=l,by_:=1},{at_:=t.Hi,list_:=l,by_:=-1}]
theorem q7m (s : List qi) (l : Int) : (evs s l).length = 2 * s.length:=by
  induction s with
  | nil=>rfl
  | cons t s ih=>simp only [evs,List.flatMap_cons,List.length_append,List.length_cons,List.length_nil] at ih ⊢;omega
theorem qam {s : List qi} {l : Int} {e : qj} (h : e∈evs s l) : e.list_ = l∧(e.by_ = 1∨e.by_ = -1)∧∃ t∈s,e.at_ = t.Lo∨e.at_ = t.Hi:=by
  simp only [evs,List.mem_flatMap] at h;obtain ⟨t,a,h⟩:=h;simp only [List.mem_cons,List.not_mem_nil,or_false] at h;rcases h with rfl | rfl
  · exact ⟨rfl,.inl rfl,t,a,.inl rfl⟩
  · exact ⟨rfl,.inr rfl,t,a,.inr rfl⟩
theorem qhd (s : List qi) (l : Int) (y : List qj) (hs : s.length≤1000) (base : List qj) (hb : base.length≤10000) :
    loop (q4e s (l,y)) (0,base) = some (base ++ evs s l):=by
  have:=Zu (f:=q4e s (l,y)) (σ:=List qj) (fun k c=>((k : Int),c)) s.length (fun k c=>c = base ++ evs (s.take k) l) (fun t=>t = base ++ evs s l) ?_ ?_ (k0:=0) (c0:=base) q0 (by simp [evs])
  · obtain ⟨b,h,rfl⟩:=this;exact h
  · rintro k c d rfl;have a : decide ((k : Int) < (s.length : Int)) = true:=Qe q0;refine .inl ⟨base ++ evs (s.take (k + 1)) l,?_,rfl⟩;have g : (evs (s.take k) l).length≤2000:=by rw [q7m,List.length_take];omega
    simp only [q4e,a,Q1,K7 d,qm];rw [Z4 (by rw [List.length_append];simp only [List.length_cons,List.length_nil];omega),qm,Q9 q0,List.take_succ_eq_append_getElem d,List.append_assoc];have : evs (s.take k ++ [s[k]]) l = evs (s.take k) l ++ [{at_:=s[k].Lo,list_:=l,by_:=1},{at_:=s[k].Hi,list_:=l,by_:=-1}]:=by simp only [evs,List.flatMap_append,List.flatMap_cons,List.flatMap_nil,List.append_nil]
    rw [this];rfl
  · rintro c rfl;have a : decide ((s.length : Int) < (s.length : Int)) = false:=Qm q0;exact ⟨_,by simp only [q4e,a,Q3];rfl,by rw [List.take_length]⟩
def ltE (a b : qj) : Bool:=decide (a.at_ < b.at_)
def inE (e : qj) : Prop:=-1000000≤e.at_∧e.at_≤1000000
theorem swoE : Sort.SWO ltE where
  irrefl:=by intro x;simp [ltE]
  trans:=by intro x y z;simp only [ltE,decide_eq_true_eq];omega
  ntrans:=by intro x y z;simp only [ltE,decide_eq_false_iff_not];omega
theorem cmpE : Kt (fun a b=>q9j a b) ltE inE:=by
  rintro x y ⟨d,g⟩ ⟨f,c⟩;refine ⟨x.at_ - y.at_,?_,?_⟩
  · show some (w64 (x.at_ - y.at_)) = _;rw [Q9 q0]
  · unfold ltE;exact decide_eq_decide.2 q0
theorem qzb (p q : List qi) (hp : p.length≤500) (z : q.length≤500) (n : ∀ t∈p,vld t) (o : ∀ t∈q,vld t) :
    ∃ ys,q9k [p,q] = some ([p,q],ys)∧ys.Perm (evs p 0 ++ evs q 1)∧ys.Pairwise (fun x y=>x.at_≤y.at_):=by
  have m : ∀ x∈evs p 0 ++ evs q 1,inE x:=by
    intro x r;rcases List.mem_append.1 r with h | h
    · obtain ⟨_,_,t,g,h⟩:=qam h;obtain ⟨a,b,c⟩:=n t g;unfold inE;rcases h with h | h <;> omega
    · obtain ⟨_,_,t,g,h⟩:=qam h;obtain ⟨a,b,c⟩:=o t g;unfold inE;rcases h with h | h <;> omega
  have v:=q7m p 0;have w:=q7m q 1;obtain ⟨ys,l,j,s⟩:=qlw cmpE swoE (evs p 0 ++ evs q 1) (by rw [List.length_append];omega) m;refine ⟨ys,?_,j,s.imp (fun {x y} h=>by simp only [ltE,decide_eq_false_iff_not] at h;omega)⟩
  have d : loop (q12 [p,q]) (0,[]) = some (evs p 0 ++ evs q 1):=by
    have s0 : q12 [p,q] (0,[]) = some (.inl (1,evs p 0)):=by
      have t : decide ((0 : Int) < (([p,q] : List (List qi)).length : Int)) = true:=rfl;simp only [q12,t,Q1];have : idx [p,q] 0 = some p:=rfl;rw [this];simp only [qm,qhd p 0 [] q0 [] qc,List.nil_append];rfl
    have k : q12 [p,q] (1,evs p 0) = some (.inl (2,evs p 0 ++ evs q 1)):=by
      have t : decide ((1 : Int) < (([p,q] : List (List qi)).length : Int)) = true:=rfl;simp only [q12,t,Q1];have : idx [p,q] 1 = some q:=rfl;rw [this];simp only [qm,qhd q 1 (evs p 0) q0 (evs p 0) q0];rfl
    have u : q12 [p,q] (2,evs p 0 ++ evs q 1) = some (.inr (evs p 0 ++ evs q 1)):=by
      have t : decide ((2 : Int) < (([p,q] : List (List qi)).length : Int)) = false:=rfl;simp only [q12,t,Q3]
    rw [Y2 s0,Y2 k,Kl u]
  unfold q9k;rw [d];simp only [qm,qzc,l];have le : Qu ys.length (evs p 0 ++ evs q 1).length = some ():=by unfold Qu;rw [ql j.length_eq]
  have f : Qu ys.length ys.length = some ():=by unfold Qu;rw [ql rfl]
  simp only [le,qm,qbg,f]
def cnt (l : Int) (c : Int→Bool) : List qj→Int
  | []=>0
  | e::es=>(if e.list_ = l∧c e.at_ = true then e.by_ else 0) + cnt l c es
theorem q2d (l : Int) (c : Int→Bool) (a b : List qj) : cnt l c (a ++ b) = cnt l c a + cnt l c b:=by
  induction a with
  | nil=>simp [cnt]
  | cons e a ih=>simp only [List.cons_append,cnt,ih];omega
theorem qgv {l : Int} {c : Int→Bool} {a b : List qj} (h : a.Perm b) : cnt l c a = cnt l c b:=by
  induction h with
  | nil=>rfl
  | cons x _ ih=>simp only [cnt,ih]
  | swap x y l=>simp only [cnt];omega
  | trans _ _ ih1 ih2=>rw [ih1,ih2]
theorem qgs {l : Int} {c b : Int→Bool} : ∀ {a : List qj},(∀ e∈a,c e.at_ = b e.at_)→cnt l c a = cnt l b a
  | [],_=>rfl
  | e::a,h=>by simp only [cnt,h e qc,qgs (fun e d=>h e (List.mem_cons_of_mem _ d))]
theorem qgu {l : Int} {c : Int→Bool} : ∀ {a : List qj},(∀ e∈a,c e.at_ = false)→cnt l c a = 0
  | [],_=>rfl
  | e::a,h=>by
    simp only [cnt,qgu (fun e b=>h e (List.mem_cons_of_mem _ b)),h e qc]
    simp
theorem q7g {s : List qi} {l l' : Int} {c : Int→Bool} (h : l≠l') : cnt l c (evs s l') = 0:=by
  induction s with
  | nil=>rfl
  | cons t s ih=>
    have : evs (t::s) l' = [{at_:=t.Lo,list_:=l',by_:=1},{at_:=t.Hi,list_:=l',by_:=-1}] ++ evs s l':=rfl;rw [this,q2d,ih];have a : ¬ l' = l:=fun e=>h e.symm;simp [cnt,a]
theorem qgt {s : List qi} {l : Int} (v : ∀ t∈s,vld t) (x : Int) : 0≤cnt l (fun a=>decide (a≤x)) (evs s l)∧(0 < cnt l (fun a=>decide (a≤x)) (evs s l)↔has s x):=by
  induction s with
  | nil=>exact ⟨Int.le_refl 0,by simp [evs,cnt,has]⟩
  | cons t s ih=>
    obtain ⟨j,c⟩:=ih (fun t b=>v t (List.mem_cons_of_mem _ b));have d:=v t qc;have : evs (t::s) l = [{at_:=t.Lo,list_:=l,by_:=1},{at_:=t.Hi,list_:=l,by_:=-1}] ++ evs s l:=rfl;rw [this,q2d,Zs,← c];obtain ⟨h,f,g⟩:=d;simp only [cnt,true_and,decide_eq_true_eq];split <;> split <;> omega
theorem qgw {s : List qi} {l : Int} : cnt l (fun _=>true) (evs s l) = 0:=by
  induction s with
  | nil=>rfl
  | cons t s ih=>
    have : evs (t::s) l = [{at_:=t.Lo,list_:=l,by_:=1},{at_:=t.Hi,list_:=l,by_:=-1}] ++ evs s l:=rfl;rw [this,q2d,ih];simp [cnt]
theorem qcw {l : Int} {c : Int→Bool} : ∀ {a : List qj},(∀ e∈a,e.by_ = 1∨e.by_ = -1)→-(a.length : Int)≤cnt l c a∧cnt l c a≤(a.length : Int)
  | [],_=>by simp [cnt]
  | e::a,h=>by
    obtain ⟨d,f⟩:=qcw (l:=l) (c:=c) (fun e b=>h e (List.mem_cons_of_mem _ b))
    have:=h e qc
    simp only [cnt,List.length_cons]
    split <;> omega
end Go.Sh
namespace Go.Sh
open Go Go.Am
theorem qot (at_ a : Int) (inn : Bool) (out : List qi) (h : out.length≤10000) :
    q9l at_ inn a out = some (inn,a,if inn = true∧a≠at_ then addS out a at_ else out):=by
  unfold q9l
  cases inn with
  | false=>rfl
  | true=>
    by_cases c : a = at_
    · simp [c]
    · have hb : (a == at_) = false:=by simpa using c
      simp only [Bool.not_true,Q3,qm,hb];rw [ql ⟨trivial,c⟩];rcases qbh out with rfl | ⟨d,t,rfl⟩
      · rfl
      · have l : (d ++ [t]).length = d.length + 1:=by simp
        have k : decide (((d ++ [t]).length : Int) > 0) = true:=Qe q0;have g : w64 (((d ++ [t]).length : Int) - 1) = (d.length : Int):=by rw [Q9 q0];omega
        have j : idx (d ++ [t]) (d.length : Int) = some t:=by
          rw [K7 q0];simp
        simp only [k,Q1,g,j,qm];by_cases b : t.Hi = a
        · subst b;simp only [beq_self_eq_true,Q1,q9x,Int.toNat_natCast,ql1]
        · have f : (t.Hi == a) = false:=by simpa using b
          simp only [f,Q3,q9y b];rw [Z4 (by simp;omega)];rfl
open Classical in
structure qn4 (f : Bool→Bool→Bool) (p q : List qi) (ys : List qj) (k : Nat) (c : List Int × Int × Bool × List qi) : Prop where
  opn : c.1 = [cnt 0 (fun _=>true) (ys.take k),cnt 1 (fun _=>true) (ys.take k)]
  inn : c.2.2.1 = f (decide (0 < cnt 0 (fun _=>true) (ys.take k))) (decide (0 < cnt 1 (fun _=>true) (ys.take k)))
  lst : ∀ (h : k - 1 < ys.length),0 < k→c.2.1 = ys[k - 1].at_
  can : Can c.2.2.2
  his : ∀ t∈c.2.2.2,t.Hi≤c.2.1
  zro : k = 0→c.2.2.2 = []
  pts : ∀ x,has c.2.2.2 x↔0 < k∧x < c.2.1∧f (decide (has p x)) (decide (has q x)) = true
  len : c.2.2.2.length≤k
theorem qn6 (c : List qi) (a b : Int) : (addS c a b).length≤c.length + 1:=by
  rcases qbh c with rfl | ⟨d,t,rfl⟩
  · simp [qfs]
  · by_cases h : t.Hi = a
    · subst h;rw [q9x];simp
    · rw [q9y h];simp
theorem qgr {p q : List qi} {ys : List qj} (hp : ∀ t∈p,vld t) (d : ∀ t∈q,vld t) (b : ys.Perm (evs p 0 ++ evs q 1)) (_ : ys.Pairwise (fun x y=>x.at_≤y.at_)) (k : Nat) (x : Int)
    (j : ∀ i (h : i < ys.length),i < k→ys[i].at_≤x) (o : ∀ i (h : i < ys.length),k≤i→x < ys[i].at_) :
    (0 < cnt 0 (fun _=>true) (ys.take k)↔has p x)∧(0 < cnt 1 (fun _=>true) (ys.take k)↔has q x):=by
  have key : ∀ l,cnt l (fun _=>true) (ys.take k) = cnt l (fun a=>decide (a≤x)) (evs p 0) + cnt l (fun a=>decide (a≤x)) (evs q 1):=by
    intro l;rw [← q2d,← qgv b]
    conv=>rhs;rw [← List.take_append_drop k ys]
    rw [q2d]
    have m : cnt l (fun a=>decide (a≤x)) (ys.drop k) = 0:=by
      refine qgu fun e c=>?_;obtain ⟨i,hi,rfl⟩:=List.mem_iff_getElem.1 c;rw [List.getElem_drop];rw [List.length_drop] at hi;have:=o (k + i) q0 q0;exact Qm q0
    have f : cnt l (fun a=>decide (a≤x)) (ys.take k) = cnt l (fun _=>true) (ys.take k):=by
      refine qgs fun e c=>?_;obtain ⟨i,hi,rfl⟩:=List.mem_iff_getElem.1 c;rw [List.getElem_take];rw [List.length_take] at hi;exact Qe (j i q0 q0)
    rw [m,f];omega
  rw [key 0,key 1,q7g (l:=0) (l':=1) qw,q7g (l:=1) (l':=0) qw];have n:=qgt (l:=0) hp x;have g:=qgt (l:=1) d x;rw [Int.add_zero,Int.zero_add];exact ⟨n.2,g.2⟩
open Classical in
theorem qin (f : Bool→Bool→Bool) (hf : f false false = false) (p2 : Bool→Bool→Option Bool) (hp2 : ∀ a b,p2 a b = some (f a b)) (p q : List qi)
    (hp : p.length≤500) (hq : q.length≤500) (vp : ∀ t∈p,vld t) (vq : ∀ t∈q,vld t) :
    ∃ out,q38 p q p2 = some out∧Can out∧∀ x,has out x↔f (decide (has p x)) (decide (has q x)) = true:=by
  obtain ⟨ys,e1,g,hs⟩:=qzb p q hp hq vp vq;have bg : ys.length≤2000:=by rw [g.length_eq,List.length_append,q7m,q7m];omega
  have w : ∀ i j (hi : i < ys.length) (hj : j < ys.length),i≤j→ys[i].at_≤ys[j].at_:=by
    intro i j hi hj bl;rcases Nat.lt_or_ge i j with h | h
    · exact List.pairwise_iff_getElem.1 hs i j hi hj h
    · obtain rfl : i = j:=by omega
      exact Int.le_refl _
  have y : ∀ e∈ys,(e.list_ = 0∨e.list_ = 1)∧(e.by_ = 1∨e.by_ = -1):=by
    intro e he;rcases List.mem_append.1 (g.mem_iff.1 he) with h | h
    · obtain ⟨a,b,_⟩:=qam h;exact ⟨.inl a,b⟩
    · obtain ⟨a,b,_⟩:=qam h;exact ⟨.inr a,b⟩
  have:=Zu (f:=q4f ([p,q],ys) p2) (σ:=List Int × Int × Bool × List qi) (fun k c=>((k : Int),c)) ys.length (qn4 f p q ys) (fun out=>Can out∧∀ x,has out x↔f (decide (has p x)) (decide (has q x)) = true) ?_ ?_ (k0:=0) (c0:=([0,0],0,false,[])) q0 ?_
  · obtain ⟨out,r,m⟩:=this;refine ⟨out,?_,m⟩;unfold q38;have r : loop (q4f ([p,q],ys) p2) (0,[0,0],0,false,[]) = some out:=r;rw [e1];simp only [qm,r];rfl
  · rintro k ⟨opn,d,inn,out⟩ hk ⟨s1,s2,s3,s4,s5,s6,s7,s8⟩;simp only at s1 s2 s3 s4 s5 s6 s7 s8;have ac : decide ((k : Int) < (ys.length : Int)) = true:=Qe q0;have ax:=qot ys[k].at_ d inn out q0;have hm:=y ys[k] (Y3 hk);have av : ys.take (k + 1) = ys.take k ++ [ys[k]]:=List.take_succ_eq_append_getElem hk;have an : ∀ e∈ys.take k,e.by_ = 1∨e.by_ = -1:=fun e he=>(y e (List.mem_of_mem_take he)).2;have b0:=qcw (l:=0) (c:=fun _=>true) an;have b1:=qcw (l:=1) (c:=fun _=>true) an;have bc : (ys.take k).length = k:=by rw [List.length_take];omega
    rw [bc] at b0 b1
    have ae : ∃ v,idxA 2 opn ys[k].list_ = some v∧opn.set ys[k].list_.toNat (w64 (v + ys[k].by_)) = [cnt 0 (fun _=>true) (ys.take (k + 1)),cnt 1 (fun _=>true) (ys.take (k + 1))]:=by
      subst s1;rw [av,q2d,q2d];rcases hm.1 with h | h
      · refine ⟨cnt 0 (fun _=>true) (ys.take k),by rw [h];rfl,?_⟩;rw [h,Q9 q0];simp [cnt,h]
      · refine ⟨cnt 1 (fun _=>true) (ys.take k),by rw [h];rfl,?_⟩;rw [h,Q9 q0];simp [cnt,h]
    obtain ⟨v,o1,o2⟩:=ae;refine .inl ⟨([cnt 0 (fun _=>true) (ys.take (k + 1)),cnt 1 (fun _=>true) (ys.take (k + 1))],ys[k].at_,f (decide (0 < cnt 0 (fun _=>true) (ys.take (k + 1)))) (decide (0 < cnt 1 (fun _=>true) (ys.take (k + 1)))),if inn = true∧d≠ys[k].at_ then addS out d ys[k].at_ else out),?_,?_⟩
    · have x0 : ∀ a b : Int,idxA 2 [a,b] 0 = some a:=fun a b=>rfl;have x1 : ∀ a b : Int,idxA 2 [a,b] 1 = some b:=fun a b=>rfl;simp only [q4f,ac,Q1,K7 hk,qm,ax,o1,o2,x0,x1,hp2];rw [Q9 q0];rfl
    · have aa : ∀ x,(0 < k→d≤x)→∀ i (h : i < ys.length),i < k→ys[i].at_≤x:=by
        intro x o i hi al;have:=s3 q0 q0;have:=w i (k - 1) hi q0 q0;have:=o q0;omega
      have ab : ∀ x,x < ys[k].at_→∀ i (h : i < ys.length),k≤i→x < ys[i].at_:=by
        intro x o i hi al;have:=w k i hk hi al;omega
      have hF : ∀ x,(0 < k→d≤x)→x < ys[k].at_→f (decide (has p x)) (decide (has q x)) = inn:=by
        intro x o bd;obtain ⟨c1,c2⟩:=qgr vp vq g hs k x (aa x o) (ab x bd);rw [s2,decide_eq_decide.2 c1,decide_eq_decide.2 c2]
      have n : 0 < k→d≤ys[k].at_:=by
        intro u;rw [s3 q0 u];exact w (k - 1) k q0 hk q0
      have z : k = 0→inn = false:=by
        intro u;subst u;rw [s2];exact hf
      by_cases s : inn = true∧d≠ys[k].at_
      · have aj : 0 < k:=by
          rcases Nat.eq_zero_or_pos k with h | h
          · rw [z h] at s;cases s.1
          · exact h
        have hl:=n aj;have bb : d < ys[k].at_:=by have:=s.2;omega
        obtain ⟨d1,d2,d3,d4⟩:=qft s4 s5 bb;constructor
        · rfl
        · rfl
        · intro h _;rfl
        · simp only [ql s];exact d1
        · simp only [ql s];exact d3
        · omega
        · intro x;simp only [ql s];rw [d2,s7];constructor
          · rintro (⟨u,r,m⟩ | ⟨r,m⟩)
            · exact ⟨q0,q0,m⟩
            · exact ⟨q0,m,by rw [hF x (fun _=>r) m];exact s.1⟩
          · rintro ⟨u,r,m⟩;by_cases o : x < d
            · exact .inl ⟨aj,o,m⟩
            · exact .inr ⟨q0,r⟩
        · simp only [ql s];have:=qn6 out d ys[k].at_;omega
      · constructor
        · rfl
        · rfl
        · intro h _;rfl
        · simp only [qn s];exact s4
        · simp only [qn s];intro t ht;rcases Nat.eq_zero_or_pos k with h | h
          · rw [s6 h] at ht;cases ht
          · have:=s5 t ht;have:=n h;omega
        · omega
        · intro x;simp only [qn s];rw [s7];constructor
          · rintro ⟨u,r,m⟩;exact ⟨q0,by have:=n u;omega,m⟩
          · rintro ⟨u,r,m⟩;by_cases o : 0 < k∧x < d
            · exact ⟨o.1,o.2,m⟩
            · have ak : 0 < k→d≤x:=fun h=>by
                refine Int.not_lt.1 fun h'=>o ⟨h,h'⟩
              have:=hF x ak r;rw [this] at m;refine absurd ⟨m,?_⟩ s;intro e;rcases Nat.eq_zero_or_pos k with h | h
              · rw [z h] at m;cases m
              · have:=ak h;omega
        · simp only [qn s];omega
  · rintro ⟨opn,d,inn,out⟩ ⟨s1,s2,s3,s4,s5,s6,s7,s8⟩;simp only at s1 s2 s3 s4 s5 s6 s7 s8;have ac : decide ((ys.length : Int) < (ys.length : Int)) = false:=Qm q0;refine ⟨out,by simp only [q4f,ac,Q3],s4,fun x=>?_⟩;rw [s7];constructor
    · rintro ⟨_,_,h⟩;exact h
    · intro h;by_cases o : 0 < ys.length∧x < d
      · exact ⟨o.1,o.2,h⟩
      · obtain ⟨c1, c2⟩ := qgr vp vq g hs ys.length x (fun i hi _ => by
            have:=s3 q0 q0;have:=w i (ys.length - 1) hi q0 q0;have : d≤x:=Int.not_lt.1 fun h'=>o ⟨q0,h'⟩
            omega) (fun i hi bn=>q0)
        have az : ∀ l,cnt l (fun _=>true) (ys.take ys.length) = 0:=by
          intro l;rw [List.take_length,qgv g,q2d];by_cases u : l = 0
          · subst u;rw [qgw,q7g qw];rfl
          · rw [q7g u];by_cases r : l = 1
            · subst r;rw [qgw];rfl
            · rw [q7g r];rfl
        rw [az] at c1 c2;have n1 : ¬ has p x:=fun h=>absurd (c1.2 h) qw;have n2 : ¬ has q x:=fun h=>absurd (c2.2 h) qw;rw [Qm n1,Qm n2,hf] at h;cases h
  · constructor
    · simp [cnt]
    · simp [cnt,hf]
    · intro h u;omega
    · exact ⟨fun t ht=>(by cases ht),.nil⟩
    · intro t ht;cases ht
    · intro _;rfl
    · intro x;simp [has]
    · simp
end Go.Sh
namespace Go.Sh
open Go Go.Am
theorem qcr {s : List qi} (h : Yk s = 0) : s.length≤400∧Good s:=by
  unfold Yk at h;split at h
  · cases h
  · split at h
    · rename_i b a;exact ⟨q0,a⟩
    · cases h
def dst (x : Int) (t : qi) : Int:=max (max (t.Lo - x) (x - t.Hi + 1)) 0
end Go.Sh
namespace Go.Sh
open Go Go.Am
noncomputable def Je (kind : Int) (p q : List qi) : List qi:=(qax kind p q).getD []
theorem q7r (kind : Int) (p q : List qi) (hp : p.length≤100000) (b : q.length≤100000) : qax kind p q = some (Je kind p q)∧qc6 kind p q (Je kind p q):=by
  obtain ⟨out,a,c⟩:=qqz kind p q hp b;unfold Je;rw [a];exact ⟨rfl,c⟩
noncomputable def opS (kind : Int) (p q : List qi) : List qi × Int:=
  if Yk p≠0 then ([],Yk p) else if Yk q≠0 then ([],Yk q) else if 400 < (Je kind p q).length then ([],4) else (Je kind p q,0)
open Classical in
theorem qqx (kind : Int) (f : Bool→Bool→Bool) (c : f false false = false) (n : ∀ a b : Prop,(f (decide a) (decide b) = true↔Y5 kind a b)) (p2 : Bool→Bool→Option Bool) (hp2 : ∀ a b,p2 a b = some (f a b))
    (p q : List qi) (hp : p.length≤500) (g : q.length≤500) (k : ∀ t∈p,vld t) (m : ∀ t∈q,vld t) : q38 p q p2 = some (Je kind p q):=by
  obtain ⟨out,h,d,l⟩:=qin f c p2 hp2 p q hp g k m;obtain ⟨_,j⟩:=q7r kind p q q0 q0;rw [h];congr 1;refine q7d d j.can fun x=>?_;rw [l,j.pts,n]
open Classical in
theorem qgj (kind : Int) (f : Bool→Bool→Bool) (h : f false false = false) (n : ∀ a b : Prop,(f (decide a) (decide b) = true↔Y5 kind a b)) (p2 : Bool→Bool→Option Bool) (hp2 : ∀ a b,p2 a b = some (f a b))
    (p q : List qi) : q74 p q p2 = some (opS kind p q):=by
  unfold q74 opS;simp only [qcs,qm];by_cases d : Yk p = 0
  · have j : (Yk p != 0) = false:=by simpa using d
    simp only [j,Q3];simp only [d,ne_eq,not_true_eq_false,if_false];by_cases c : Yk q = 0
    · have k : (Yk q != 0) = false:=by simpa using c
      obtain ⟨s,o⟩:=qcr d;obtain ⟨r,m⟩:=qcr c;simp only [c,not_true_eq_false,if_false,qqx kind f h n p2 hp2 p q q0 q0 o.1 m.1,qm];by_cases l : 400 < (Je kind p q).length
      · have g : decide (((Je kind p q).length : Int) > 400) = true:=Qe q0;rw [g,ql l];rfl
      · have g : decide (((Je kind p q).length : Int) > 400) = false:=Qm q0;rw [g,qn l];rfl
    · have k : (Yk q != 0) = true:=by simpa using c
      simp only [k,Q1,c,not_false_eq_true,if_true]
  · have j : (Yk p != 0) = true:=by simpa using d
    simp only [j,Q1,d,ne_eq,not_false_eq_true,if_true]
theorem q10f (p q : List qi) : q73 p q = some (opS 2 p q):=by
  classical
  unfold q73;rw [qgj 2 (fun a b=>a || b) rfl (by intro a b;by_cases c : a <;> by_cases hb : b <;> simp [Y5,c,hb]) _ (by intro a b;cases a <;> rfl)];rfl
theorem qrf (p q : List qi) : q72 p q = some (opS 1 p q):=by
  classical
  unfold q72;rw [qgj 1 (fun a b=>a && b) rfl (by intro a b;by_cases c : a <;> by_cases hb : b <;> simp [Y5,c,hb]) _ (by intro a b;cases a <;> rfl)];rfl
theorem qqq (s : List qi) (b : qi→Option Bool) (c : qi→Bool) (h : ∀ t,b t = some (c t)) (q : s.length≤1000000) :
    ∃ r,q8k s b = some r∧decide (r ≥ 0) = s.any c:=by
  have:=Zu (f:=q30 s b) (σ:=Unit) (fun k _=>(k : Int)) s.length (fun k _=>∀ i (h : i < s.length),i < k→c s[i] = false)
    (fun m=>∃ r : Int,(match m with | .inl b22=>some (-1) | .inr x1=>some x1) = some r∧decide (r ≥ 0) = s.any c) ?_ ?_ (k0:=0) (c0:=()) q0 (fun i _ hi=>q0)
  · obtain ⟨m,j,r,l,o⟩:=this;have j : loop (q30 s b) 0 = some m:=j;exact ⟨r,by unfold q8k;rw [j];exact l,o⟩
  · rintro k _ g hi;have hb : decide ((k : Int) < (s.length : Int)) = true:=Qe q0
    cases d : c s[k] with
    | true=>
      refine .inr ⟨.inr (k : Int),?_,(k : Int),rfl,?_⟩
      · simp only [q30,hb,Q1,K7 g,qm,h,d]
      · have : s.any c = true:=List.any_eq_true.2 ⟨s[k],Y3 g,d⟩;rw [this];exact Qe q0
    | false=>
      refine .inl ⟨(),?_,?_⟩
      · simp only [q30,hb,Q1,K7 g,qm,h,d,Q3];rw [Q9 q0];rfl
      · intro i a p;by_cases e : i = k
        · subst e;exact d
        · exact hi i a q0
  · rintro _ hi;have hb : decide ((s.length : Int) < (s.length : Int)) = false:=Qm q0;refine ⟨.inl (),by simp only [q30,hb,Q3],-1,rfl,?_⟩
    have : s.any c = false:=by
      rw [List.any_eq_false];intro t n;obtain ⟨i,a,rfl⟩:=List.mem_iff_getElem.1 n;simp [hi i a a]
    rw [this];rfl
theorem qp4 (s : List qi) (a : qi→Option Bool) (c : qi→Bool) (h : ∀ t,a t = some (c t)) (f : s.length≤1000000) : q8h s a = some (s.any c):=by
  obtain ⟨r,d,b⟩:=qqq s a c h f;unfold q8h;rw [d,qm,b]
open Classical in
noncomputable def qdz (s : List qi) : List qi × Int:=if 400 < s.length then ([],4) else if ∀ t∈s,vld t then (Je 2 s [],0) else ([],8)
theorem qrc (s : List qi) (k : s.length≤400) (h : ∀ t∈s,vld t) (p2 : Bool→Bool→Option Bool) (hp2 : ∀ a b,p2 a b = some a) : q38 s [] p2 = some (Je 2 s []):=by
  classical
  obtain ⟨out,f,c,g⟩:=qin (fun a _=>a) rfl p2 hp2 s [] q0 qc h (fun t d=>by cases d);obtain ⟨_,j⟩:=q7r 2 s [] q0 qc;rw [f];congr 1;refine q7d c j.can fun x=>?_;rw [g,j.pts];simp [Y5,q1m]
theorem qrb (s : List qi) : q71 s = some (qdz s):=by
  classical
  unfold q71 qdz;by_cases f : 400 < s.length
  · have e : decide ((s.length : Int) > 400) = true:=Qe q0;rw [e,ql f];rfl
  · have e : decide ((s.length : Int) > 400) = false:=Qm q0;rw [e,qn f,Q3,qp4 s _ (fun t=>!decide (vld t)) (fun t=>by show (q39 t).bind _ = _;rw [qms];rfl) q0,qm];by_cases c : ∀ t∈s,vld t
    · have : (s.any fun t=>!decide (vld t)) = false:=by
        rw [List.any_eq_false];intro t d;simp [c t d]
      rw [this,Q3,ql c,qrc s q0 c (fun g j=>q9i g j) (fun a b=>rfl)];rfl
    · have : (s.any fun t=>!decide (vld t)) = true:=by
        rw [List.any_eq_true];obtain ⟨t,c⟩:=Classical.not_forall.1 c;obtain ⟨d,h⟩:=Classical.not_imp.1 c;exact ⟨t,d,by simp [h]⟩
      rw [this,Q1,qn c]
def lenL : List qi→Int
  | []=>0
  | t::s=>(t.Hi - t.Lo) + lenL s
theorem qiu (a b : List qi) : lenL (a ++ b) = lenL a + lenL b:=by
  induction a with
  | nil=>simp [lenL]
  | cons t a ih=>simp only [List.cons_append,lenL,ih];omega
theorem qiv : ∀ {s : List qi},(∀ t∈s,vld t)→0≤lenL s∧lenL s≤2000000 * (s.length : Int)
  | [],_=>by simp [lenL]
  | t::s,h=>by
    obtain ⟨d,c⟩:=qiv (fun t a=>h t (List.mem_cons_of_mem _ a))
    obtain ⟨f,b,g⟩:=h t qc
    simp only [lenL,List.length_cons]
    omega
noncomputable def qdt (s : List qi) : Int × Int:=if Yk s = 0 then (lenL s,0) else (0,Yk s)
theorem qr2 (s : List qi) (o : s.length≤400) (h : ∀ t∈s,vld t) : loop (q9h s) (0,0) = some (lenL s)∧loop (q83 s) (0,0) = some (lenL s):=by
  have d : ∀ k,0≤lenL (s.take k)∧lenL (s.take k)≤800000000:=by
    intro k;have:=qiv (s:=s.take k) (fun t l=>h t (List.mem_of_mem_take l));have : (s.take k).length≤400:=by rw [List.length_take];omega
    omega
  constructor
  · have:=Zu (f:=q9h s) (σ:=Int) (fun k c=>(c,(k : Int))) s.length (fun k c=>c = lenL (s.take k)) (fun r=>r = lenL s) ?_ ?_ (k0:=0) (c0:=0) q0 (by simp [lenL])
    · obtain ⟨b,g,rfl⟩:=this;exact g
    · rintro k c a rfl;have hb : decide ((k : Int) < (s.length : Int)) = true:=Qe q0;obtain ⟨m,j,n⟩:=h _ (Y3 a);have:=d k;refine .inl ⟨lenL (s.take (k + 1)),?_,rfl⟩;simp only [q9h,hb,Q1,K7 a,qm];rw [Q9 (x:=s[k].Hi - s[k].Lo) q0,Q9 (x:=lenL (s.take k) + _) q0,Q9 q0,List.take_succ_eq_append_getElem a,qiu];simp only [lenL,Int.add_zero];rfl
    · rintro c rfl;have hb : decide ((s.length : Int) < (s.length : Int)) = false:=Qm q0;exact ⟨_,by simp only [q9h,hb,Q3];rfl,by rw [List.take_length]⟩
  · have:=Zu (f:=q83 s) (σ:=Int) (fun k c=>(c,(k : Int))) s.length (fun k c=>c = lenL (s.take k)) (fun r=>r = lenL s) ?_ ?_ (k0:=0) (c0:=0) q0 (by simp [lenL])
    · obtain ⟨b,g,rfl⟩:=this;exact g
    · rintro k c a rfl;have hb : decide ((k : Int) < (s.length : Int)) = true:=Qe q0;obtain ⟨m,j,n⟩:=h _ (Y3 a);have:=d k;refine .inl ⟨lenL (s.take (k + 1)),?_,rfl⟩;simp only [q83,hb,Q1,K7 a,qm];rw [Q9 (x:=lenL (s.take k) + s[k].Hi) q0,Q9 (x:=lenL (s.take k) + s[k].Hi - _) q0,Q9 q0,List.take_succ_eq_append_getElem a,qiu];have : lenL (s.take k) + s[k].Hi - s[k].Lo = lenL (s.take k) + lenL [s[k]]:=by simp only [lenL];omega
      rw [this];rfl
    · rintro c rfl;have hb : decide ((s.length : Int) < (s.length : Int)) = false:=Qm q0;exact ⟨_,by simp only [q83,hb,Q3];rfl,by rw [List.take_length]⟩
theorem q117 (s : List qi) : qm2 s = some (qdt s)∧qka s = some (qdt s):=by
  unfold qm2 qka qdt;simp only [qcs,qts,qm];by_cases h : Yk s = 0
  · obtain ⟨d,c⟩:=qcr h;obtain ⟨a,b⟩:=qr2 s d c.1;have e : (Yk s != 0) = false:=by simpa using h
    simp only [e,Q3,a,b,qm];simp only [h,if_true];exact ⟨trivial,trivial⟩
  · have e : (Yk s != 0) = true:=by simpa using h
    simp only [e,Q1,qn h];exact ⟨trivial,trivial⟩
end Go.Sh
set_option maxHeartbeats 4000000
namespace Go.Sh
open Go Go.Am
def sg (a b : Int) : Int:=if a < b then -1 else 0
theorem J4 {a b : Int} : decide (sg a b < 0) = decide (a < b):=by
  unfold sg;by_cases h : a < b <;> simp [h]
def qO (a b : Int) : Option Int:=some (sg a b)
theorem Jj (a b : Int) : qO a b = some (sg a b):=rfl
theorem Jg (a b : Int) : Z7 a b = some (decide (a < b)):=by
  unfold Z7 q7f;have : (a != a) = false:=by simp
  simp []
theorem qyr : qbr = q4x:=rfl
theorem qwu : (fun p0=>q2u p0) = (fun p0=>q3k p0):=by
  funext p0;simp only [q2u,q3k,qyr]
  all_goals exact Qt
theorem qwv  : ∀ p0,q2u p0 = q3k p0:=fun p0=>(congrFun qwu p0)
theorem qwt : (fun p0=>Uy p0) = (fun p0=>q1a p0):=by
  funext p0;simp only [Uy,q1a,qwv]
  all_goals exact Qt
theorem qle  : ∀ p0,Uy p0 = q1a p0:=fun p0=>(congrFun qwt p0)
theorem qxe : (fun a=>q62 a) = (fun a=>U6 a qO):=by
  funext a a443;simp only [q62,U6,Jg,Jj,qm,J4]
  all_goals exact Qt
theorem qxf  : ∀ a,q62 a = U6 a qO:=fun a=>(congrFun qxe a)
theorem qxc : (fun p2 a=>q61 p2 a) = (fun p2 a=>q1e p2 a qO):=by
  funext p2 a a270;simp only [q61,q1e,qxf]
  all_goals exact Qt
theorem qxd  : ∀ p2 a,q61 p2 a = q1e p2 a qO:=fun p2 a=>(congrFun (congrFun qxc p2) a)
theorem qxa : (fun p0 a p2=>q60 p0 a p2) = (fun p0 a p2=>q2j qO p0 a p2):=by
  funext p0 a p2;simp only [q60,q2j,qxd]
  all_goals exact Qt
theorem qxb  : ∀ p0 a p2,q60 p0 a p2 = q2j qO p0 a p2:=fun p0 a p2=>(congrFun (congrFun (congrFun qxa p0) a) p2)
theorem qyp : (fun p2 p3=>q6o p2 p3) = (fun p2 p3=>U9 p2 p3 qO):=by
  funext p2 p3 a193;simp only [q6o,U9,Jg,Jj,qm,J4]
  all_goals exact Qt
theorem qyq  : ∀ p2 p3,q6o p2 p3 = U9 p2 p3 qO:=fun p2 p3=>(congrFun (congrFun qyp p2) p3)
theorem qyo : (fun p0 a p2 p3=>q41 p0 a p2 p3) = (fun p0 a p2 p3=>Uw qO p0 a p2 p3):=by
  funext p0 a p2 p3;simp only [q41,Uw,qyq]
  all_goals exact Qt
theorem qlg  : ∀ p0 a p2 p3,q41 p0 a p2 p3 = Uw qO p0 a p2 p3:=fun p0 a p2 p3=>(congrFun (congrFun (congrFun (congrFun qyo p0) a) p2) p3)
theorem qx6 : (fun p2 a=>q5y p2 a) = (fun p2 a=>q1c qO p2 a):=by
  funext p2 a a123;simp only [q5y,q1c,qlg]
  all_goals exact Qt
theorem qx7  : ∀ p2 a,q5y p2 a = q1c qO p2 a:=fun p2 a=>(congrFun (congrFun qx6 p2) a)
theorem qx8 : (fun a=>q5z a) = (fun a=>q1d a qO):=by
  funext a a191;simp only [q5z,q1d,qlg]
  all_goals exact Qt
theorem qx9  : ∀ a,q5z a = q1d a qO:=fun a=>(congrFun qx8 a)
theorem qx4 : (fun p0 a p2=>q5x p0 a p2) = (fun p0 a p2=>q2i qO p0 a p2):=by
  funext p0 a p2;simp only [q5x,q2i,qx7,qx9]
  all_goals exact Qt
theorem qx5  : ∀ p0 a p2,q5x p0 a p2 = q2i qO p0 a p2:=fun p0 a p2=>(congrFun (congrFun (congrFun qx4 p0) a) p2)
theorem qxj : (fun p0=>q1v p0) = (fun p0=>q2k p0):=by
  funext p0;simp only [q1v,q2k,qle]
  all_goals exact Qt
theorem qxk  : ∀ p0,q1v p0 = q2k p0:=fun p0=>(congrFun qxj p0)
theorem qys : (fun p0=>q1w p0) = (fun p0=>q2o p0):=by
  funext p0;simp only [q1w,q2o]
  all_goals exact Qt
theorem qyt  : ∀ p0,q1w p0 = q2o p0:=fun p0=>(congrFun qys p0)
theorem qx0 : (fun b p2 a=>q5v b p2 a) = (fun b p2 a=>Un b p2 a):=by
  funext b p2 a a153;simp only [q5v,Un,qyt]
  all_goals exact Qt
theorem qx1  : ∀ b p2 a,q5v b p2 a = Un b p2 a:=fun b p2 a=>(congrFun (congrFun (congrFun qx0 b) p2) a)
theorem qwy : (fun p0 a p2=>q5u p0 a p2) = (fun p0 a p2=>q1b qO p0 a p2):=by
  funext p0 a p2;simp only [q5u,q1b,qxk,qx1]
  all_goals exact Qt
theorem qwz  : ∀ p0 a p2,q5u p0 a p2 = q1b qO p0 a p2:=fun p0 a p2=>(congrFun (congrFun (congrFun qwy p0) a) p2)
theorem qxl : (fun p0 a p2 p3=>q32 p0 a p2 p3) = (fun p0 a p2 p3=>Up qO p0 a p2 p3):=by
  funext p0 a p2 p3;simp only [q32,Up,Jg,Jj,qm,J4]
  all_goals exact Qt
theorem qxm  : ∀ p0 a p2 p3,q32 p0 a p2 p3 = Up qO p0 a p2 p3:=fun p0 a p2 p3=>(congrFun (congrFun (congrFun (congrFun qxl p0) a) p2) p3)
theorem qxg : (fun p0 a p2 p3 p4=>q3v p0 a p2 p3 p4) = (fun p0 a p2 p3 p4=>Uo qO p0 a p2 p3 p4):=by
  funext p0 a p2 p3 p4;simp only [q3v,Uo,qxm]
  all_goals exact Qt
theorem qlf  : ∀ p0 a p2 p3 p4,q3v p0 a p2 p3 p4 = Uo qO p0 a p2 p3 p4:=fun p0 a p2 p3 p4=>(congrFun (congrFun (congrFun (congrFun (congrFun qxg p0) a) p2) p3) p4)
theorem qxh : (fun p0 a p2=>q31 p0 a p2) = (fun p0 a p2=>U7 qO p0 a p2):=by
  funext p0 a p2;simp only [q31,U7,qlf]
  all_goals exact Qt
theorem qxi  : ∀ p0 a p2,q31 p0 a p2 = U7 qO p0 a p2:=fun p0 a p2=>(congrFun (congrFun (congrFun qxh p0) a) p2)
theorem qx2 : (fun p0 a p2=>q5w p0 a p2) = (fun p0 a p2=>q2h p0 a p2 qO):=by
  funext p0 a p2;simp only [q5w,q2h,qlf,qxi]
  all_goals exact Qt
theorem qx3  : ∀ p0 a p2,q5w p0 a p2 = q2h p0 a p2 qO:=fun p0 a p2=>(congrFun (congrFun (congrFun qx2 p0) a) p2)
theorem qyn : q9a = q2n:=by
  funext a119;simp only [q9a,q2n]
  all_goals exact Qt
theorem qyl : (fun p0 a p2=>q6m p0 a p2) = (fun p0 a p2=>q1j qO p0 a p2):=by
  funext p0 a p2;simp only [q6m,q1j,qyn]
  all_goals exact Qt
theorem qym  : ∀ p0 a p2,q6m p0 a p2 = q1j qO p0 a p2:=fun p0 a p2=>(congrFun (congrFun (congrFun qyl p0) a) p2)
theorem qxr : (fun p2 a=>q66 p2 a) = (fun p2 a=>Uq p2 a qO):=by
  funext p2 a a667;simp only [q66,Uq,Jg,Jj,qm,J4]
  all_goals exact Qt
theorem qxs  : ∀ p2 a,q66 p2 a = Uq p2 a qO:=fun p2 a=>(congrFun (congrFun qxr p2) a)
theorem qxt : q8x = Ur qO:=by
  funext a822;simp only [q8x,Ur,Jg,Jj,qm,J4]
  all_goals exact Qt
theorem qxu : (fun p2 a=>q67 p2 a) = (fun p2 a=>Us p2 qO a):=by
  funext p2 a a912;simp only [q67,Us,Jg,Jj,qm,J4]
  all_goals exact Qt
theorem qxv  : ∀ p2 a,q67 p2 a = Us p2 qO a:=fun p2 a=>(congrFun (congrFun qxu p2) a)
theorem qxp : (fun p2 a=>q3y p2 a) = (fun p2 a=>J0 p2 qO a):=by
  funext p2 a a432;have b : @q3y.match_1.{1} = @J0.match_1.{1} Int:=by funext motive m f g;cases m <;> rfl
  unfold q3y J0;rw [b];simp only [qxs,qxt,qxv]
  all_goals repeat' first | with_reducible rfl | (congr 1) | funext _
  done
theorem qxq  : ∀ p2 a,q3y p2 a = J0 p2 qO a:=fun p2 a=>(congrFun (congrFun qxp p2) a)
theorem qxn : (fun p0 a p2=>q3x p0 a p2) = (fun p0 a p2=>U8 qO p0 a p2):=by
  funext p0 a p2;have b : @q3x.match_1.{1} = @U8.match_1.{1} Int:=by funext motive m f g;cases m <;> rfl
  unfold q3x U8;rw [b];simp only [qxq]
  all_goals repeat' first | with_reducible rfl | (congr 1) | funext _
  done
theorem qxo  : ∀ p0 a p2,q3x p0 a p2 = U8 qO p0 a p2:=fun p0 a p2=>(congrFun (congrFun (congrFun qxn p0) a) p2)
theorem qy1 : (fun a b=>q6a a b) = (fun a b=>Ut a b qO):=by
  funext a b a360;simp only [q6a,Ut,Jg,Jj,qm,J4]
  all_goals exact Qt
theorem qy2  : ∀ a b,q6a a b = Ut a b qO:=fun a b=>(congrFun (congrFun qy1 a) b)
theorem qy3 : (fun b a c=>q6b b a c) = (fun b a c=>Uu b a c qO):=by
  funext b a c a439;simp only [q6b,Uu,Jg,Jj,qm,J4]
  all_goals exact Qt
theorem qy4  : ∀ b a c,q6b b a c = Uu b a c qO:=fun b a c=>(congrFun (congrFun (congrFun qy3 b) a) c)
theorem qxz : (fun a=>q69 a) = (fun a=>q1h a qO):=by
  funext a a304;simp only [q69,q1h,qy2,qy4]
  all_goals exact Qt
theorem qy0  : ∀ a,q69 a = q1h a qO:=fun a=>(congrFun qxz a)
theorem qxx : (fun p0 a p2 p3=>q68 p0 a p2 p3) = (fun p0 a p2 p3=>q1g qO p0 a p2 p3):=by
  funext p0 a p2 p3;simp only [q68,q1g,qy0]
  all_goals exact Qt
theorem qxy  : ∀ p0 a p2 p3,q68 p0 a p2 p3 = q1g qO p0 a p2 p3:=fun p0 a p2 p3=>(congrFun (congrFun (congrFun (congrFun qxx p0) a) p2) p3)
theorem qy6 : (fun p2 p0 c a p3 b=>q6d p2 p0 c a p3 b) = (fun p2 p0 c a p3 b=>q2l p2 p0 c a p3 b qO):=by
  funext p2 p0 c a p3 b a159;simp only [q6d,q2l,Jg,Jj,qm,J4]
  all_goals exact Qt
theorem qy7  : ∀ p2 p0 c a p3 b,q6d p2 p0 c a p3 b = q2l p2 p0 c a p3 b qO:=fun p2 p0 c a p3 b=>(congrFun (congrFun (congrFun (congrFun (congrFun (congrFun qy6 p2) p0) c) a) p3) b)
theorem qy8 : (fun c p0 d a p3 b=>q6e c p0 d a p3 b) = (fun c p0 d a p3 b=>q2m c p0 d a p3 b qO):=by
  funext c p0 d a p3 b a239;simp only [q6e,q2m,Jg,Jj,qm,J4]
  all_goals exact Qt
theorem qy9  : ∀ c p0 d a p3 b,q6e c p0 d a p3 b = q2m c p0 d a p3 b qO:=fun c p0 d a p3 b=>(congrFun (congrFun (congrFun (congrFun (congrFun (congrFun qy8 c) p0) d) a) p3) b)
theorem qyc : (fun a b=>q6g a b) = (fun a b=>Jb a b qO):=by
  funext a b a542;simp only [q6g,Jb,Jg,Jj,qm,J4]
  all_goals exact Qt
theorem qyd  : ∀ a b,q6g a b = Jb a b qO:=fun a b=>(congrFun (congrFun qyc a) b)
theorem qye : (fun a b c=>q6h a b c) = (fun a b c=>Jc a b c qO):=by
  funext a b c a622;simp only [q6h,Jc,Jg,Jj,qm,J4]
  all_goals exact Qt
theorem qyf  : ∀ a b c,q6h a b c = Jc a b c qO:=fun a b c=>(congrFun (congrFun (congrFun qye a) b) c)
theorem qya : (fun a=>q6f a) = (fun a=>q1i a qO):=by
  funext a a488;simp only [q6f,q1i,qyd,qyf]
  all_goals exact Qt
theorem qyb  : ∀ a,q6f a = q1i a qO:=fun a=>(congrFun qya a)
theorem qxw : (fun p0 a p2 p3=>q6c p0 a p2 p3) = (fun p0 a p2 p3=>q1f qO p0 a p2 p3):=by
  funext p0 a p2 p3;simp only [q6c,q1f,qy7,qy9,qyb]
  all_goals exact Qt
theorem qy5  : ∀ p0 a p2 p3,q6c p0 a p2 p3 = q1f qO p0 a p2 p3:=fun p0 a p2 p3=>(congrFun (congrFun (congrFun (congrFun qxw p0) a) p2) p3)
theorem qyh : (fun a=>q3z a) = (fun a=>Zo qO a):=by
  funext a a305;have b : @q3z.match_1.{1} = @Zo.match_1.{1} Int:=by funext motive m f g;cases m <;> rfl
  unfold q3z Zo;rw [b];simp only [qxb,qx5,qwz,qx3,qym,qxo,qxy,qy5,Jg,Jj,qm,J4]
  all_goals repeat' first | with_reducible rfl | (congr 1) | funext _
  done
theorem qyi  : ∀ a,q3z a = Zo qO a:=fun a=>(congrFun qyh a)
theorem qyj : (fun a p0 b p2 p3=>q40 a p0 b p2 p3) = (fun a p0 b p2 p3=>Uv a qO p0 b p2 p3):=by
  funext a p0 b p2 p3;simp only [q40,Uv,qyi]
  all_goals exact Qt
theorem qyk  : ∀ a p0 b p2 p3,q40 a p0 b p2 p3 = Uv a qO p0 b p2 p3:=fun a p0 b p2 p3=>(congrFun (congrFun (congrFun (congrFun (congrFun qyj a) p0) b) p2) p3)
theorem qyg : ∀ N,q6l N = Zc N qO:=by
  intro N
  induction N with
  | zero=>rfl
  | succ N ih=>
    funext a b c d;show q40 (q6l N) a b c d = Uv (Zc N qO) qO a b c d;rw [ih,qyk]
theorem qww : (fun p0=>U3 p0) = (fun p0=>q2g qO p0):=by
  funext p0;simp only [U3,q2g,qle,qyg]
  all_goals exact Qt
theorem qwx  : ∀ p0,U3 p0 = q2g qO p0:=fun p0=>(congrFun qww p0)
end Go.Sh
