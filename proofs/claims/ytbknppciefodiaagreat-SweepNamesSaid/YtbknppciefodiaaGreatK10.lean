/- Pg4 Pg5 Pg6 Pj1 Pj2 Pl4 Pj3 Po1 -/
import Derived.Test.YtbknppciefodiaaGreatK9
namespace Go.Sh
open Go Go.Am
section
variable {T : Type} [Inhabited T] {P : T→Prop} {lt : T→T→Bool} {q : T→T→Option Int}
theorem qez {f : Int→Option (Int ⊕ Int)} (p : T→Bool) (d : Array T) (j : Nat)
    (b : ∀ k : Nat,k≤1000002→f (k : Int) = if (decide (k≤j) && p d[k]!) = true then some (.inl ((k + 1 : Nat) : Int)) else some (.inr (k : Int))) (g : j≤1000000) :
    ∀ (m i : Nat),j + 1 - i = m→i≤1000002→loop f (i : Int) = some ((Sort.scanUp p d j i : Nat) : Int):=by
  intro m
  induction m with
  | zero=>
    intro i c hi;unfold Sort.scanUp;have a : ¬ (decide (i≤j) && p d[i]!) = true:=by simp;omega
    rw [ql a];exact Kh (by rw [b i hi,ql a])
  | succ m ih=>
    intro i c hi;unfold Sort.scanUp;by_cases a : (decide (i≤j) && p d[i]!) = true
    · rw [qm a,Kx (by rw [b i hi,qm a])];exact ih (i + 1) q0 q0
    · rw [ql a];exact Kh (by rw [b i hi,ql a])
theorem qb8 {f : Int→Option (Int ⊕ Int)} (p : T→Bool) (d : Array T) (i n : Nat) (hi : 1≤i)
    (b : ∀ k : Nat,k < n→f (k : Int) = if (decide (i≤k) && p d[k]!) = true then some (.inl ((k - 1 : Nat) : Int)) else some (.inr (k : Int))) :
    ∀ (j : Nat),j < n→loop f (j : Int) = some ((Sort.scanDown p d i j : Nat) : Int)
  | 0,hj=>by
    have a : ¬ (decide (i≤0) && p d[0]!) = true:=by simp;omega
    exact Kh (by rw [b 0 hj,ql a];rfl)
  | j + 1,hj=>by
    unfold Sort.scanDown
    by_cases a : (decide (i≤j + 1) && p d[j + 1]!) = true
    · rw [qm a,Kx (by rw [b (j + 1) hj,qm a])]
      exact qb8 p d i n hi b j q0
    · rw [ql a]
      exact Kh (by rw [b (j + 1) hj,ql a])
theorem qjx (b : Ku q lt P) {n : Nat} {d : Array T} (hd : AllP n P d) {a j : Nat} (c : a < n) (m : j < n) (x : Int) (k : Nat) (o : k≤1000002) :
    J9 (x,(j : Int),d.toList) (a : Int) q (k : Int) = if (decide (k≤j) && (fun x=>lt x d[a]!) d[k]!) = true then some (.inl ((k + 1 : Nat) : Int)) else some (.inr (k : Int)):=by
  have l:=hd.1;by_cases h : k≤j
  · obtain ⟨r,g,f⟩:=b d[k]! d[a]! (hd.2.2 _ q0) (hd.2.2 _ c);have t : decide ((k : Int)≤(j : Int)) = true:=Q9 q0;simp only [J9,t,Q2,gx (d:=d) (k:=k) q0,gx (d:=d) (k:=a) q0,qn,g,f,w1p k q0];simp only [Q9 h,Bool.true_and,Bool.cond_eq_ite]
  · have t : decide ((k : Int)≤(j : Int)) = false:=Qh q0;simp only [J9,t,Q3,qn];simp [h]
theorem qjy (g : Ku q lt P) {n : Nat} {d : Array T} (hd : AllP n P d) {a i : Nat} (b : a < n) (hi : 1≤i) (x y : Int) (k : Nat) (l : k < n) :
    Ja (i : Int) (x,y,d.toList) (a : Int) q (k : Int) = if (decide (i≤k) && (fun x=>!lt x d[a]!) d[k]!) = true then some (.inl ((k - 1 : Nat) : Int)) else some (.inr (k : Int)):=by
  have f:=hd.1;have m:=hd.2.1;by_cases h : i≤k
  · obtain ⟨r,j,c⟩:=g d[k]! d[a]! (hd.2.2 _ q0) (hd.2.2 _ b);have t : decide ((i : Int)≤(k : Int)) = true:=Q9 q0;have w : w64 ((k : Int) - 1) = ((k - 1 : Nat) : Int):=by rw [Qe q0];omega
    simp only [Ja,t,Q2,gx (d:=d) (k:=k) q0,gx (d:=d) (k:=a) q0,qn,j,c,w];simp only [Q9 h,Bool.true_and,Bool.cond_eq_ite]
  · have t : decide ((i : Int)≤(k : Int)) = false:=Qh q0;simp only [Ja,t,Q3,qn];simp [h]
theorem qt2 (b : Ku q lt P) {n : Nat} {d : Array T} (hd : AllP n P d) {a j : Nat} (c : a < n) (m : j < n) (x : Int) (k : Nat) (o : k≤1000002) :
    Uo (x,(j : Int),d.toList) (a : Int) q (k : Int) = if (decide (k≤j) && (fun x=>!lt d[a]! x) d[k]!) = true then some (.inl ((k + 1 : Nat) : Int)) else some (.inr (k : Int)):=by
  have l:=hd.1;by_cases h : k≤j
  · obtain ⟨r,g,f⟩:=b d[a]! d[k]! (hd.2.2 _ c) (hd.2.2 _ q0);have t : decide ((k : Int)≤(j : Int)) = true:=Q9 q0;simp only [Uo,t,Q2,gx (d:=d) (k:=k) q0,gx (d:=d) (k:=a) q0,qn,g,f,w1p k q0];simp only [Q9 h,Bool.true_and,Bool.cond_eq_ite]
  · have t : decide ((k : Int)≤(j : Int)) = false:=Qh q0;simp only [Uo,t,Q3,qn];simp [h]
theorem qt3 (g : Ku q lt P) {n : Nat} {d : Array T} (hd : AllP n P d) {a i : Nat} (b : a < n) (hi : 1≤i) (x y : Int) (k : Nat) (l : k < n) :
    Up (i : Int) (x,y,d.toList) (a : Int) q (k : Int) = if (decide (i≤k) && (fun x=>lt d[a]! x) d[k]!) = true then some (.inl ((k - 1 : Nat) : Int)) else some (.inr (k : Int)):=by
  have f:=hd.1;have m:=hd.2.1;by_cases h : i≤k
  · obtain ⟨r,j,c⟩:=g d[a]! d[k]! (hd.2.2 _ b) (hd.2.2 _ q0);have t : decide ((i : Int)≤(k : Int)) = true:=Q9 q0;have w : w64 ((k : Int) - 1) = ((k - 1 : Nat) : Int):=by rw [Qe q0];omega
    simp only [Up,t,Q2,gx (d:=d) (k:=k) q0,gx (d:=d) (k:=a) q0,qn,j,c,w];simp only [Q9 h,Bool.true_and,Bool.cond_eq_ite]
  · have t : decide ((i : Int)≤(k : Int)) = false:=Qh q0;simp only [Up,t,Q3,qn];simp [h]
theorem qsx (s : Ku q lt P) (a n : Nat) (r : a < n) : ∀ (m i j : Nat) (d : Array T),j + 1 - i = m→AllP n P d→1≤i→i≤n + 1→j < n→
    loop (q1g (a : Int) q) ((i : Int),(j : Int),d.toList) = some (((Sort.partLoop lt a i j d).1 : Int),(Sort.partLoop lt a i j d).2.toList)∧AllP n P (Sort.partLoop lt a i j d).2∧(Sort.partLoop lt a i j d).1 < n:=by
  intro m
  induction m using Nat.strongRecOn with
  | _ m ih=>
    intro i j d hm hd hi aa u;have z:=hd.1;have hn:=hd.2.1;rw [Sort.partLoop_eq];have l:=qez (f:=J9 ((i : Int),(j : Int),d.toList) (a : Int) q) (fun x=>lt x d[a]!) d j (fun k o=>qjx s hd r u _ k o) q0 _ i rfl q0;have g1:=Sort.scanUp_ge (fun x=>lt x d[a]!) d j i;have u1:=(Sort.scanUp_spec (fun x=>lt x d[a]!) d j _ i rfl).2.1;generalize Sort.scanUp (fun x=>lt x d[a]!) d j i = c at l g1 u1 ⊢;have p:=qb8 (f:=Ja (c : Int) ((i : Int),(j : Int),d.toList) (a : Int) q) (fun x=>!lt x d[a]!) d c n q0 (fun k o=>qjy s hd r q0 _ _ k o) j u;have y:=Sort.scanDown_le (fun x=>!lt x d[a]!) d c j;generalize Sort.scanDown (fun x=>!lt x d[a]!) d c j = g at p y ⊢;by_cases v : c > g
    · rw [qm v];have t : decide ((c : Int) > (g : Int)) = true:=Q9 q0;refine ⟨Kh ?_,hd,by show g < n;omega⟩;simp only [q1g,l,p,qn,t,Q2]
    · rw [ql v];have t : decide ((c : Int) > (g : Int)) = false:=Qh q0;have h:=ih ((g - 1) + 1 - (c + 1)) q0 (c + 1) (g - 1) _ rfl (hd.swp (a:=c) (b:=g) q0 q0) q0 q0 q0;refine ⟨?_,h.2⟩;rw [Kx (a':=(((c + 1 : Nat) : Int),((g - 1 : Nat) : Int),(Sort.swp d c g).toList)) ?_]
      · exact h.1
      · have w : w64 ((g : Int) - 1) = ((g - 1 : Nat) : Int):=by rw [Qe q0];omega
        simp only [q1g,l,p,qn,t,Q3,gx (d:=d) (k:=c) q0,gx (d:=d) (k:=g) q0,gxs (d:=d) (k:=g) q0,Int.toNat_natCast,gswp,w,w1p c q0]
theorem qsw (r : Ku q lt P) (a n : Nat) (p : a < n) : ∀ (m i j : Nat) (d : Array T),j + 1 - i = m→AllP n P d→1≤i→i≤n + 1→j < n→
    loop (q1f (a : Int) q) ((i : Int),(j : Int),d.toList) = some (((Sort.partEqLoop lt a i j d).1 : Int),(Sort.partEqLoop lt a i j d).2.toList):=by
  intro m
  induction m using Nat.strongRecOn with
  | _ m ih=>
    intro i j d hm hd hi z s;have y:=hd.1;have hn:=hd.2.1;rw [Sort.partEqLoop_eq];have h:=qez (f:=Uo ((i : Int),(j : Int),d.toList) (a : Int) q) (fun x=>!lt d[a]! x) d j (fun k l=>qt2 r hd p s _ k l) q0 _ i rfl q0;have g1:=Sort.scanUp_ge (fun x=>!lt d[a]! x) d j i;have u1:=(Sort.scanUp_spec (fun x=>!lt d[a]! x) d j _ i rfl).2.1;generalize Sort.scanUp (fun x=>!lt d[a]! x) d j i = c at h g1 u1 ⊢;have o:=qb8 (f:=Up (c : Int) ((i : Int),(j : Int),d.toList) (a : Int) q) (fun x=>lt d[a]! x) d c n q0 (fun k l=>qt3 r hd p q0 _ _ k l) j s;have v:=Sort.scanDown_le (fun x=>lt d[a]! x) d c j;generalize Sort.scanDown (fun x=>lt d[a]! x) d c j = g at o v ⊢;by_cases u : c > g
    · rw [qm u];have t : decide ((c : Int) > (g : Int)) = true:=Q9 q0;refine Kh ?_;simp only [q1f,h,o,qn,t,Q2]
    · rw [ql u];have t : decide ((c : Int) > (g : Int)) = false:=Qh q0;rw [Kx (a':=(((c + 1 : Nat) : Int),((g - 1 : Nat) : Int),(Sort.swp d c g).toList)) ?_]
      · exact ih ((g - 1) + 1 - (c + 1)) q0 (c + 1) (g - 1) _ rfl (hd.swp (a:=c) (b:=g) q0 q0) q0 q0 q0
      · have w : w64 ((g : Int) - 1) = ((g - 1 : Nat) : Int):=by rw [Qe q0];omega
        simp only [q1f,h,o,qn,t,Q3,gx (d:=d) (k:=c) q0,gx (d:=d) (k:=g) q0,gxs (d:=d) (k:=g) q0,Int.toNat_natCast,gswp,w,w1p c q0]
theorem qsz (c : Ku q lt P) {a b n p : Nat} (hb : b≤n) (f : a < b) (hp : p < n) {d : Array T} (hd : AllP n P d) :
    q1e q d.toList (a : Int) (b : Int) (p : Int) = some (((Sort.partitionEqual lt d a b p).1 : Int),(Sort.partitionEqual lt d a b p).2.toList):=by
  have g:=hd.1;have h:=hd.2.1;have w : w64 ((b : Int) - 1) = ((b - 1 : Nat) : Int):=by rw [Qe q0];omega
  have s:=qsw c a n q0 _ (a + 1) (b - 1) _ rfl (hd.swp (a:=a) (b:=p) q0 hp) q0 q0 q0;unfold q1e Sort.partitionEqual;simp only [gx (d:=d) (k:=p) q0,gx (d:=d) (k:=a) q0,gxs (d:=d) (k:=p) q0,qn,Int.toNat_natCast,gswp,w,w1p a q0,s]
theorem qt0 (l : Ku q lt P) {a b n p : Nat} (hb : b≤n) (y : a < b) (hp : p < n) {d : Array T} (hd : AllP n P d) :
    q1d q d.toList (a : Int) (b : Int) (p : Int) = some (((Sort.partition lt d a b p).1 : Int),(Sort.partition lt d a b p).2.1,(Sort.partition lt d a b p).2.2.toList):=by
  have ab:=hd.1;have hn:=hd.2.1;have w : w64 ((b : Int) - 1) = ((b - 1 : Nat) : Int):=by rw [Qe q0];omega
  have h:=hd.swp (a:=a) (b:=p) q0 hp
  have v : q2g (b : Int) d.toList (a : Int) d[p]! (p : Int) d[a]! q = J9 ((0 : Int),((b - 1 : Nat) : Int),(Sort.swp d a p).toList) (a : Int) q:=by
    funext k;simp only [q2g,J9,w,Int.toNat_natCast,gswp]
  have e2 : ∀ c : Int,q2h c d.toList (a : Int) d[p]! (p : Int) d[a]! q = Ja c ((0 : Int),(0 : Int),(Sort.swp d a p).toList) (a : Int) q:=by
    intro c;funext k;simp only [q2h,Ja,Int.toNat_natCast,gswp]
  unfold q1d Sort.partition;simp only [gx (d:=d) (k:=p) q0,gx (d:=d) (k:=a) q0,gxs (d:=d) (k:=p) q0,qn,v,e2,Int.toNat_natCast,gswp,w,w1p a q0];generalize Sort.swp d a p = D at h ⊢;have ac:=h.1;have m:=qez (f:=J9 ((0 : Int),((b - 1 : Nat) : Int),D.toList) (a : Int) q) (fun x=>lt x D[a]!) D (b - 1) (fun k j=>qjx l h q0 q0 _ k j) q0 _ (a + 1) rfl q0;have g1:=Sort.scanUp_ge (fun x=>lt x D[a]!) D (b - 1) (a + 1);generalize Sort.scanUp (fun x=>lt x D[a]!) D (b - 1) (a + 1) = c at m g1 ⊢;have o:=qb8 (f:=Ja (c : Int) ((0 : Int),(0 : Int),D.toList) (a : Int) q) (fun x=>!lt x D[a]!) D c n q0 (fun k j=>qjy l h q0 q0 _ _ k j) (b - 1) q0;have g2:=Sort.scanDown_le (fun x=>!lt x D[a]!) D c (b - 1);generalize Sort.scanDown (fun x=>!lt x D[a]!) D c (b - 1) = g at o g2 ⊢;simp only [m,o,qn];by_cases s : c > g
  · have t : decide ((c : Int) > (g : Int)) = true:=Q9 q0;simp only [qm s,t,Q2,gx (d:=D) (k:=a) q0,gx (d:=D) (k:=g) q0,gxs (d:=D) (k:=a) q0,qn,Int.toNat_natCast,gswp]
  · have t : decide ((c : Int) > (g : Int)) = false:=Qh q0;have w2 : w64 ((g : Int) - 1) = ((g - 1 : Nat) : Int):=by rw [Qe q0];omega
    obtain ⟨u,r,b3⟩:=qsx l a n q0 _ (c + 1) (g - 1) _ rfl (h.swp (a:=c) (b:=g) q0 q0) q0 q0 q0;simp only [ql s,t,Q3,gx (d:=D) (k:=c) q0,gx (d:=D) (k:=g) q0,gxs (d:=D) (k:=g) q0,qn,Int.toNat_natCast,gswp,w2,w1p c q0,u];generalize Sort.partLoop lt a (c + 1) (g - 1) (Sort.swp D c g) = R at r b3 ⊢;have z:=r.1;simp only [gx (d:=R.2) (k:=a) q0,gx (d:=R.2) (k:=R.1) q0,gxs (d:=R.2) (k:=a) q0,qn,Int.toNat_natCast,gswp]
theorem qu7 (l : Ku q lt P) {b n : Nat} (hb : b≤n) {d : Array T} (hd : AllP n P d) (x y : Int) : ∀ (m i : Nat),b - i = m→1≤i→i≤b→
    loop (Ul (b : Int) (x,y,d.toList) q) (i : Int) = some ((Sort.scanSorted lt d b i : Nat) : Int)∧i≤Sort.scanSorted lt d b i∧Sort.scanSorted lt d b i≤b:=by
  have j:=hd.1;have p:=hd.2.1;intro m
  induction m with
  | zero=>
    intro i o hi a;unfold Sort.scanSorted;rw [ql (by simp;omega)];have t : decide ((i : Int) < (b : Int)) = false:=Qh q0;exact ⟨Kh (by simp only [Ul,t,Q3,qn]),Nat.le_refl _,a⟩
  | succ m ih=>
    intro i o hi a;unfold Sort.scanSorted;have t : decide ((i : Int) < (b : Int)) = true:=Q9 q0;have w : w64 ((i : Int) - 1) = ((i - 1 : Nat) : Int):=by rw [Qe q0];omega
    obtain ⟨r,h,g⟩:=l d[i]! d[i - 1]! (hd.2.2 _ q0) (hd.2.2 _ q0);by_cases c : lt d[i]! d[i - 1]! = true
    · rw [ql (by simp [c])];refine ⟨Kh ?_,Nat.le_refl _,a⟩;simp only [Ul,t,Q2,w,gx (d:=d) (k:=i) q0,gx (d:=d) (k:=i - 1) q0,qn,h,g,c,Bool.not_true,Q3]
    · have c : lt d[i]! d[i - 1]! = false:=by simpa using c
      rw [qm (by simp [c];omega)];have f:=ih (i + 1) q0 q0 q0;refine ⟨?_,q0,f.2.2⟩;rw [Kx (a':=((i + 1 : Nat) : Int)) ?_]
      · exact f.1
      · simp only [Ul,t,Q2,w,gx (d:=d) (k:=i) q0,gx (d:=d) (k:=i - 1) q0,qn,h,g,c,Bool.not_false,w1p i q0]
theorem ql0 (g : Ku q lt P) (n : Nat) : ∀ (j : Nat) (d : Array T),AllP n P d→j < n→loop (Um q) ((j : Int),d.toList) = some (Sort.shiftDown lt j d).toList∧AllP n P (Sort.shiftDown lt j d)
  | 0,d,hd,hj=>by
    have t : decide (((0 : Nat) : Int) ≥ 1) = false:=Qh q0
    exact ⟨Kh (by simp only [Um,t,Q3];rfl),hd⟩
  | j + 1,d,hd,hj=>by
    have m:=hd.1
    have o:=hd.2.1
    have t : decide (((j + 1 : Nat) : Int) ≥ 1) = true:=Q9 q0
    obtain ⟨r,l,f⟩:=g d[j + 1]! d[j]! (hd.2.2 _ hj) (hd.2.2 _ q0)
    unfold Sort.shiftDown
    by_cases c : lt d[j + 1]! d[j]! = true
    · rw [ql (by simp [c])]
      have h:=ql0 g n j _ (hd.swp (a:=j + 1) (b:=j) hj q0) q0
      refine ⟨?_,h.2⟩
      rw [Kx (a':=((j : Int),(Sort.swp d (j + 1) j).toList)) ?_]
      · exact h.1
      · simp only [Um,t,Q2,gx (d:=d) (k:=j + 1) q0,w1m j q0,gx (d:=d) (k:=j) q0,gxs (d:=d) (k:=j) q0,qn,l,f,c,Bool.not_true,Q3,Int.toNat_natCast,gswp]
    · have c : lt d[j + 1]! d[j]! = false:=by simpa using c
      rw [qm (by simp [c])]
      refine ⟨Kh ?_,hd⟩
      simp only [Um,t,Q2,gx (d:=d) (k:=j + 1) q0,w1m j q0,gx (d:=d) (k:=j) q0,qn,l,f,c,Bool.not_false]
theorem ql2 (p : Ku q lt P) {b n : Nat} (hb : b≤n) (c : Int) : ∀ (m j : Nat) (d : Array T),b - j = m→AllP n P d→1≤j→loop (Un (b : Int) q c) ((j : Int),d.toList) = some (c,(Sort.shiftUp lt b j d).toList)∧AllP n P (Sort.shiftUp lt b j d):=by
  intro m
  induction m with
  | zero=>
    intro j d s hd u;unfold Sort.shiftUp;rw [ql q0];have t : decide ((j : Int) < (b : Int)) = false:=Qh q0;exact ⟨Kh (by simp only [Un,t,Q3]),hd⟩
  | succ m ih=>
    intro j d s hd u;have o:=hd.1;have v:=hd.2.1;unfold Sort.shiftUp;rw [qm q0];have t : decide ((j : Int) < (b : Int)) = true:=Q9 q0;have w : w64 ((j : Int) - 1) = ((j - 1 : Nat) : Int):=by rw [Qe q0];omega
    obtain ⟨r,l,h⟩:=p d[j]! d[j - 1]! (hd.2.2 _ q0) (hd.2.2 _ q0);by_cases f : lt d[j]! d[j - 1]! = true
    · rw [ql (by simp [f])];have g:=ih (j + 1) _ q0 (hd.swp (a:=j) (b:=j - 1) q0 q0) q0;refine ⟨?_,g.2⟩;rw [Kx (a':=(((j + 1 : Nat) : Int),(Sort.swp d j (j - 1)).toList)) ?_]
      · exact g.1
      · simp only [Un,t,Q2,w,gx (d:=d) (k:=j) q0,gx (d:=d) (k:=j - 1) q0,gxs (d:=d) (k:=j - 1) q0,qn,l,h,f,Bool.not_true,Q3,Int.toNat_natCast,gswp,w1p j q0]
    · have f : lt d[j]! d[j - 1]! = false:=by simpa using f
      rw [qm (by simp [f])];refine ⟨Kh ?_,hd⟩;simp only [Un,t,Q2,w,gx (d:=d) (k:=j) q0,gx (d:=d) (k:=j - 1) q0,qn,l,h,f,Bool.not_false]
theorem qk0 (l : Ku q lt P) {a b n : Nat} (hb : b≤n) : ∀ (s i : Nat) (d : Array T),s≤5→AllP n P d→a < i→i≤b→
    ∃ m,loop (Zy (b : Int) q (a : Int)) ((i : Int),((5 - s : Nat) : Int),d.toList) = some m∧(match m with | .inl b441=>some (false,b441) | .inr x1=>some x1) = some ((Sort.partialIns lt a b s i d).2,(Sort.partialIns lt a b s i d).1.toList)
  | 0,i,d,hs,hd,hi,hib=>by
    have t : decide (((5 - 0 : Nat) : Int) < 5) = false:=Qh q0
    refine ⟨.inl d.toList,Kh (by simp only [Zy,t,Q3]),rfl⟩
  | s + 1,i,d,hs,hd,hi,hib=>by
    have af:=hd.1
    have hn:=hd.2.1
    have t : decide (((5 - (s + 1) : Nat) : Int) < 5) = true:=Q9 q0
    rw [Sort.partialIns_succ]
    obtain ⟨p,l1,u1⟩:=qu7 l hb hd (i : Int) ((5 - (s + 1) : Nat) : Int) _ i rfl q0 hib
    generalize Sort.scanSorted lt d b i = k at p l1 u1 ⊢
    by_cases w : k = b
    · subst w
      rw [qm rfl]
      refine ⟨.inr (true,d.toList),Kh ?_,rfl⟩
      simp only [Zy,t,Q2,p,qn,beq_self_eq_true]
    · rw [ql w]
      have tk : ((k : Int) == (b : Int)) = false:=by simp;omega
      have e0 : w64 ((b : Int) - (a : Int)) = ((b - a : Nat) : Int):=wsub q0 q0
      by_cases j : b - a < 50
      · rw [qm j]
        have c : decide (((b - a : Nat) : Int) < 50) = true:=Q9 q0
        refine ⟨.inr (false,d.toList),Kh ?_,rfl⟩
        simp only [Zy,t,Q2,p,qn,tk,Q3,e0,c]
      · rw [ql j]
        have c : decide (((b - a : Nat) : Int) < 50) = false:=Qh q0
        have wk : w64 ((k : Int) - 1) = ((k - 1 : Nat) : Int):=by rw [Qe q0];omega
        have wa : w64 ((k : Int) - (a : Int)) = ((k - a : Nat) : Int):=wsub q0 q0
        have wb : w64 ((b : Int) - (k : Int)) = ((b - k : Nat) : Int):=wsub q0 q0
        have o:=hd.swp (a:=k) (b:=k - 1) q0 q0
        have down : (cond (decide (((k - a : Nat) : Int) ≥ 2)) ((loop (Um q) (((k - 1 : Nat) : Int),(Sort.swp d k (k - 1)).toList)).bind fun x0=>some x0) (some (Sort.swp d k (k - 1)).toList)) = some (Sort.fixDown lt a k (Sort.swp d k (k - 1))).toList∧AllP n P (Sort.fixDown lt a k (Sort.swp d k (k - 1))):=by
          unfold Sort.fixDown;by_cases h : k - a ≥ 2
          · have g : decide (((k - a : Nat) : Int) ≥ 2) = true:=Q9 q0;obtain ⟨x,y⟩:=ql0 l n (k - 1) _ o q0;rw [qm h,g,Q2,x];exact ⟨rfl,y⟩
          · have g : decide (((k - a : Nat) : Int) ≥ 2) = false:=Qh q0;rw [ql h,g,Q3];exact ⟨rfl,o⟩
        obtain ⟨dn,f⟩:=down
        have r : AllP n P (Sort.fixUp lt b k (Sort.fixDown lt a k (Sort.swp d k (k - 1)))):=by
          unfold Sort.fixUp;split
          · exact (ql2 l hb 0 _ (k + 1) _ rfl f q0).2
          · exact f
        obtain ⟨m,u,v⟩:=qk0 (a:=a) l hb s k _ q0 r q0 u1
        refine ⟨m,?_,v⟩
        rw [Kx (a':=((k : Int),((5 - s : Nat) : Int),(Sort.fixUp lt b k (Sort.fixDown lt a k (Sort.swp d k (k - 1)))).toList)) ?_]
        · exact u
        · have z : w64 (((5 - (s + 1) : Nat) : Int) + 1) = ((5 - s : Nat) : Int):=by rw [Qe q0];omega
          simp only [Zy,t,Q2,p,qn,tk,Q3,e0,c,wk,gx (d:=d) (k:=k) q0,gx (d:=d) (k:=k - 1) q0,gxs (d:=d) (k:=k - 1) q0,Int.toNat_natCast,gswp,wa,dn,wb,w1p k q0]
          unfold Sort.fixUp
          by_cases h : b - k ≥ 2
          · have g : decide (((b - k : Nat) : Int) ≥ 2) = true:=Q9 q0
            obtain ⟨x,y⟩:=ql2 l hb (k : Int) _ (k + 1) _ rfl f q0
            rw [qm h,g,Q2,x]
            simp only [qn,z]
          · have g : decide (((b - k : Nat) : Int) ≥ 2) = false:=Qh q0
            rw [ql h,g,Q3]
            simp only [qn,z]
theorem qsy (f : Ku q lt P) {a b n : Nat} (hb : b≤n) (h : a < b) {d : Array T} (hd : AllP n P d) :
    U5 q d.toList (a : Int) (b : Int) = some ((Sort.partialInsertionSort lt d a b).2,(Sort.partialInsertionSort lt d a b).1.toList):=by
  have j:=hd.2.1;obtain ⟨m,c,g⟩:=qk0 (a:=a) f hb 5 (a + 1) d q0 hd q0 q0;have c : loop (Zy (b : Int) q (a : Int)) (((a + 1 : Nat) : Int),0,d.toList) = some m:=c;unfold U5 Sort.partialInsertionSort;rw [w1p a q0,c];exact g
end
end Go.Sh
namespace Go.Sh
open Go Go.Am
theorem qj1 {α β : Type} {f : α→Option (α ⊕ β)} {a : α} (h : f a = none) : loop f a = none:=by
  apply Option.ext;intro b;rw [q7q];constructor
  · rintro ⟨n,c⟩
    cases n with
    | zero=>simp [iter] at c
    | succ n=>simp [iter,h] at c
  · intro h;cases h
section
variable {T : Type} [Inhabited T] {P : T→Prop} {lt : T→T→Bool} {q : T→T→Option Int}
def Srt (lt : T→T→Bool) (a b : Nat) (d : Array T) (o : Option (List T)) : Prop:=∃ d' : Array T,o = some d'.toList∧Sort.PermIn a b d d'∧Sort.SortedIn lt a b d'
theorem qt1 (hq : Ku q lt P) (hS : Sort.SWO lt) {n N : Nat} (ae : List T→Int→Int→Int→Option (List T))
    (an : ∀ (a b f : Nat) (d : Array T),AllP n P d→a≤b→b≤n→f≤1000→Sort.Below lt a b d→Srt lt a b d (ae d.toList (a : Int) (b : Int) (f : Int))∨(N≤b - a∧ae d.toList (a : Int) (b : Int) (f : Int) = none)) :
    ∀ (m a b f : Nat) (wb wp : Bool) (d : Array T),b - a = m→AllP n P d→a≤b→b≤n→f≤1000→Sort.Below lt a b d→
      Srt lt a b d (loop (Zq q ae) ((a : Int),(b : Int),(f : Int),wb,wp,d.toList))∨(N + 1≤b - a∧loop (Zq q ae) ((a : Int),(b : Int),(f : Int),wb,wp,d.toList) = none):=by
  intro m
  induction m using Nat.strongRecOn with
  | _ m ih=>
    intro a b f wb wp d hm hd o hb hl hB;have dj:=hd.1;have hn:=hd.2.1;have e0 : w64 ((b : Int) - (a : Int)) = ((b - a : Nat) : Int):=wsub o q0;by_cases dn : b - a≤12
    ·
      have t : decide (((b - a : Nat) : Int)≤12) = true:=Q9 q0;obtain ⟨x,y⟩:=Sort.insertionSort_holds (lt:=lt) hS d a b o q0;have s:=qqa hq hb o hd;refine .inl ⟨_,Kh ?_,x,y⟩;simp only [Zq,e0,t,Q2,s,qn,Ua hd (hd.perm o hb x)]
    have bm : decide (((b - a : Nat) : Int)≤12) = false:=Qh q0;by_cases h0 : f = 0
    ·
      have t : ((f : Int) == 0) = true:=by simp [h0]
      obtain ⟨x,y⟩:=Sort.heapSort_holds (lt:=lt) hS d a b o q0;have s:=qq4 hq hb (by omega : a < b) hd;refine .inl ⟨_,Kh ?_,x,y⟩;simp only [Zq,e0,bm,Q3,t,Q2,s,qn,Ua hd (hd.perm o hb x)]
    have t0 : ((f : Int) == 0) = false:=by simp [h0]
    have hA : ∃ (l1 : Nat) (d1 : Array T),(cond (!wb) ((q19 q d.toList (a : Int) (b : Int)).bind fun bc=>(Qy bc.length d.toList.length).bind fun cx=>some (w64 ((f : Int) - 1),bc)) (some ((f : Int),d.toList))) = some ((l1 : Int),d1.toList)∧l1≤1000∧AllP n P d1∧Sort.PermIn a b d d1:=by
      cases wb with
      | true=>exact ⟨f,d,rfl,hl,hd,Sort.permIn_refl _ _ _⟩
      | false=>
        have x:=Sort.breakPatterns_holds d a b o q0;have z:=hd.perm o hb x;have w : w64 ((f : Int) - 1) = ((f - 1 : Nat) : Int):=by rw [Qe q0];omega
        refine ⟨f - 1,_,?_,q0,z,x⟩;simp only [Bool.not_false,Q2,qng (q:=q) hb (by omega : a < b) hd,qn,Ua hd z,w]
    obtain ⟨l1,d1,eA,am,z,p1⟩:=hA;have hC:=qoh hq z (by omega : a < b) hb;obtain ⟨c1,c2⟩:=Sort.choosePivot_holds lt d1 a b q0;generalize (Sort.choosePivot lt d1 a b).1 = c at hC c1 c2;generalize qdt (Sort.choosePivot lt d1 a b).2 = h at hC
    have hR : ∃ (p : Nat) (h2 : Int) (d2 : Array T),(cond (h == 2) ((q1h q d1.toList (a : Int) (b : Int)).bind fun ba=>(Qy ba.length d1.toList.length).bind fun cs=>some (w64 ((w64 ((b : Int) - 1)) - (w64 ((c : Int) - (a : Int)))),(1 : Int),ba)) (some ((c : Int),h,d1.toList))) = some ((p : Int),h2,d2.toList)∧a≤p∧p < b∧AllP n P d2∧Sort.PermIn a b d1 d2:=by
      cases hh : (h == 2) with
      | false=>exact ⟨c,h,d1,rfl,c1,c2,z,Sort.permIn_refl _ _ _⟩
      | true=>
        have x:=Sort.reverseRange_holds d1 a b o (by rw [z.1];exact hb);have ac:=z.perm o hb x;have w1 : w64 ((b : Int) - 1) = ((b - 1 : Nat) : Int):=by rw [Qe q0];omega
        have w2 : w64 ((c : Int) - (a : Int)) = ((c - a : Nat) : Int):=wsub c1 q0;have w3 : w64 (((b - 1 : Nat) : Int) - ((c - a : Nat) : Int)) = ((b - 1 - (c - a) : Nat) : Int):=wsub q0 q0;refine ⟨b - 1 - (c - a),1,_,?_,q0,q0,ac,x⟩;simp only [Q2,qu1 (q:=q) hb (by omega : a < b) z,qn,Ua z ac,w1,w2,w3]
    obtain ⟨p,h2,d2,eR,hp1,hp2,ac,p2⟩:=hR;have bu : Sort.Below lt a b d2:=(hB.perm q0 p1).perm (by rw [z.1];exact hb) p2;have bt:=Sort.permIn_trans _ _ _ a b p1 p2
    have hP : ∀ cc : Bool,∃ ab : (List T) ⊕ (List T),(cond cc ((U5 q d2.toList (a : Int) (b : Int)).bind fun ag=>(Qy ag.2.length d2.toList.length).bind fun dc=>cond ag.1 (some (.inr ag.2)) (some (.inl ag.2))) (some (.inl d2.toList)) : Option ((List T) ⊕ (List T))) = some ab∧
        ((∃ l : Array T,ab = .inr l.toList∧Sort.PermIn a b d2 l∧Sort.SortedIn lt a b l)∨(∃ l : Array T,ab = .inl l.toList∧AllP n P l∧Sort.PermIn a b d2 l)):=by
      intro cc
      cases cc with
      | false=>exact ⟨_,rfl,.inr ⟨d2,rfl,ac,Sort.permIn_refl _ _ _⟩⟩
      | true=>
        obtain ⟨x,y⟩:=Sort.partialInsertionSort_holds (lt:=lt) hS d2 a b q0 (by rw [ac.1];exact hb) bu;have u:=ac.perm o hb x;have s:=qsy hq hb (by omega : a < b) ac;simp only [Q2,s,qn,Ua ac u]
        cases hz : (Sort.partialInsertionSort lt d2 a b).2 with
        | true=>exact ⟨_,rfl,.inl ⟨_,rfl,x,y hz⟩⟩
        | false=>exact ⟨_,rfl,.inr ⟨_,rfl,u,x⟩⟩
    obtain ⟨ab,eP,bl⟩:=hP (wb && wp && (h2 == 1))
    have cp : ∀ {γ : Type} (X : Bool→Option γ),((cond wb (some wp) (some false)).bind fun bn=>(cond bn (some (h2 == 1)) (some false)).bind X) = X (wb && wp && (h2 == 1)):=by
      intro γ X;cases wb <;> cases wp <;> rfl
    have head : Zq q ae ((a : Int),(b : Int),(f : Int),wb,wp,d.toList) = (match (generalizing:=false) ab with | .inl b377=>(cond (decide ((a : Int) > 0)) ((idx b377 (w64 ((a : Int) - 1))).bind fun aq=>(idx b377 (p : Int)).bind fun av=>(q aq av).bind fun ao=>some (!(decide (ao < 0)))) (some false)).bind fun bp=>cond bp ((q1e q b377 (a : Int) (b : Int) (p : Int)).bind fun au=>(Qy au.2.length b377.length).bind fun da=>some (.inl (au.1,(b : Int),(l1 : Int),wb,wp,au.2))) ((q1d q b377 (a : Int) (b : Int) (p : Int)).bind fun g=>(Qy g.2.2.length b377.length).bind fun de=>cond (decide ((w64 (g.1 - (a : Int))) < (w64 ((b : Int) - g.1)))) ((ae g.2.2 (a : Int) g.1 (l1 : Int)).bind fun be=>(Qy be.length g.2.2.length).bind fun cz=>some (.inl (w64 (g.1 + 1),(b : Int),(l1 : Int),decide ((w64 (g.1 - (a : Int))) ≥ (w64 (Int.tdiv ((b - a : Nat) : Int) 8))),g.2.1,be))) ((ae g.2.2 (w64 (g.1 + 1)) (b : Int) (l1 : Int)).bind fun az=>(Qy az.length g.2.2.length).bind fun cv=>some (.inl ((a : Int),g.1,(l1 : Int),decide ((w64 ((b : Int) - g.1)) ≥ (w64 (Int.tdiv ((b - a : Nat) : Int) 8))),g.2.1,az)))) | .inr x1=>some (.inr x1)):=by
      simp only [Zq,e0,bm,Q3,t0,eA,qn,hC,eR,cp,eP]
      clear eP bl hP an ih
      cases ab <;> rfl
    rcases bl with ⟨l,rfl,x,y⟩ | ⟨l,rfl,u,p3⟩
    · refine .inl ⟨l,Kh ?_,Sort.permIn_trans _ _ _ a b bt x,y⟩;rw [head]
    have ay:=u.1;have P3:=Sort.permIn_trans _ _ _ a b bt p3;have B3 : Sort.Below lt a b l:=bu.perm (by rw [ac.1];exact hb) p3
    have bg : (cond (decide ((a : Int) > 0)) ((idx l.toList (w64 ((a : Int) - 1))).bind fun aq=>(idx l.toList (p : Int)).bind fun av=>(q aq av).bind fun ao=>some (!(decide (ao < 0)))) (some false)) = some (decide (a > 0) && !lt l[a - 1]! l[p]!):=by
      by_cases ha : a > 0
      · have ta : decide ((a : Int) > 0) = true:=Q9 q0;have w : w64 ((a : Int) - 1) = ((a - 1 : Nat) : Int):=by rw [Qe q0];omega
        obtain ⟨r,h1,h2⟩:=hq l[a - 1]! l[p]! (u.2.2 _ q0) (u.2.2 _ q0);simp only [ta,Q2,w,gx (d:=l) (k:=a - 1) q0,gx (d:=l) (k:=p) q0,qn,h1,h2,Q9 ha,Bool.true_and]
      · have ta : decide ((a : Int) > 0) = false:=Qh q0;simp only [ta,Q3,Qh ha,Bool.false_and]
    simp only [bg,qn] at head;by_cases hc : (decide (a > 0) && !lt l[a - 1]! l[p]!) = true
    ·
      rw [hc] at head;have s:=qsz hq hb (by omega : a < b) (by omega : p < n) u;simp only [Bool.and_eq_true,decide_eq_true_eq,Bool.not_eq_true'] at hc
      cases hx : Sort.partitionEqual lt l a b p with
      | mk j d4=>
        obtain ⟨g1,g2,ci,ck,ad⟩:=Sort.round_eq hS (Sort.partitionEqual_holds lt) hc.1 hp1 hp2 (by rw [ay];exact hb) B3 hc.2 hx
        have cf : ∀ i,a≤i→i < b→lt l[i]! l[p]! = false:=fun i hi cq=>by
          rcases B3 with h0 | hB
          · omega
          · exact hS.ntrans _ _ _ (hB i hi cq) hc.2
        obtain ⟨_,_,v,_,_⟩:=Sort.partitionEqual_holds lt hS l a b p hp1 hp2 (by rw [ay];exact hb) cf;rw [hx] at v s;have aa:=u.perm o hb v;simp only [Q2,s,qn,Ua u aa] at head;rw [Kx head];rcases ih (b - j) q0 j b l1 wb wp d4 rfl aa g2 hb am ck with ⟨R,r0,r1,r2⟩ | ⟨r1,r2⟩
        · obtain ⟨q1,q2⟩:=ad _ r1 r2;exact .inl ⟨R,r0,Sort.permIn_trans _ _ _ a b P3 q1,q2⟩
        · exact .inr ⟨q0,r2⟩
    ·
      have hc : (decide (a > 0) && !lt l[a - 1]! l[p]!) = false:=by simpa using hc
      rw [hc] at head;have s:=qt0 hq hb (by omega : a < b) (by omega : p < n) u
      cases hx : Sort.partition lt l a b p with
      | mk j r=>
      cases r with
      | mk ap d4=>
        obtain ⟨g1,g2,ci,cj,ch,bf,ax⟩:=Sort.round_part hS (Sort.partition_holds lt) hp1 hp2 (by rw [ay];exact hb) B3 hx;obtain ⟨_,_,v,_,_⟩:=Sort.partition_holds lt hS l a b p hp1 hp2 (by rw [ay];exact hb);rw [hx] at v s;have aa:=u.perm o hb v;have w1 : w64 ((j : Int) - (a : Int)) = ((j - a : Nat) : Int):=wsub g1 q0;have w2 : w64 ((b : Int) - (j : Int)) = ((b - j : Nat) : Int):=wsub q0 q0;simp only [Q3,s,qn,Ua u aa,w1,w2,w1p j q0] at head;by_cases dq : j - a < b - j
        · have tl : decide (((j - a : Nat) : Int) < ((b - j : Nat) : Int)) = true:=Q9 q0;simp only [tl,Q2] at head;rcases an a j l1 d4 aa g1 q0 am cj with ⟨L,e,al,bk⟩ | ⟨r1,r2⟩
          · have ar:=aa.perm g1 q0 al;obtain ⟨bi,ad⟩:=bf _ al bk;simp only [e,qn,Ua aa ar] at head;rw [Kx head];rcases ih (b - (j + 1)) q0 (j + 1) b l1 _ _ L rfl ar q0 hb am bi with ⟨R,r0,r1,r2⟩ | ⟨r1,r2⟩
            · obtain ⟨q1,q2⟩:=ad _ r1 r2;exact .inl ⟨R,r0,Sort.permIn_trans _ _ _ a b P3 q1,q2⟩
            · exact .inr ⟨q0,r2⟩
          · simp only [r2,Option.bind_none] at head;exact .inr ⟨q0,qj1 head⟩
        · have tl : decide (((j - a : Nat) : Int) < ((b - j : Nat) : Int)) = false:=Qh q0;simp only [tl,Q3] at head;rcases an (j + 1) b l1 d4 aa q0 hb am ch with ⟨L,e,al,bk⟩ | ⟨r1,r2⟩
          · have ar:=aa.perm (by omega : j + 1≤b) hb al;obtain ⟨bi,ad⟩:=ax _ al bk;simp only [e,qn,Ua aa ar] at head;rw [Kx head];rcases ih (j - a) q0 a j l1 _ _ L rfl ar g1 q0 am bi with ⟨R,r0,r1,r2⟩ | ⟨r1,r2⟩
            · obtain ⟨q1,q2⟩:=ad _ r1 r2;exact .inl ⟨R,r0,Sort.permIn_trans _ _ _ a b P3 q1,q2⟩
            · exact .inr ⟨q0,r2⟩
          · simp only [r2,Option.bind_none] at head;exact .inr ⟨q0,qj1 head⟩
theorem qk1 (g : Ku q lt P) (f : Sort.SWO lt) {n : Nat} : ∀ (N a b c : Nat) (d : Array T),AllP n P d→a≤b→b≤n→c≤1000→Sort.Below lt a b d→
    Srt lt a b d (Zh N q d.toList (a : Int) (b : Int) (c : Int))∨(N≤b - a∧Zh N q d.toList (a : Int) (b : Int) (c : Int) = none)
  | 0,a,b,c,d,_,_,_,_,_=>.inr ⟨q0,rfl⟩
  | N + 1,a,b,c,d,hd,hab,hb,hl,hB=>by
    have h:=qt1 g f (N:=N) (Zh N q) (fun a b c d o j m k l=>qk1 g f N a b c d o j m k l) _ a b c true true d rfl hd hab hb hl hB
    have e : Zh (N + 1) q d.toList (a : Int) (b : Int) (c : Int) = loop (Zq q (Zh N q)) ((a : Int),(b : Int),(c : Int),true,true,d.toList):=by
      show Uq (Zh N q) q d.toList (a : Int) (b : Int) (c : Int) = _;unfold Uq;cases loop (Zq q (Zh N q)) ((a : Int),(b : Int),(c : Int),true,true,d.toList) <;> rfl
    rw [e]
    exact h
theorem qlm (v : Ku q lt P) (t : Sort.SWO lt) (xs : List T) (n : xs.length≤1000000) (u : ∀ x∈xs,P x) :
    ∃ ys,q2b q xs = some ys∧ys.Perm xs∧ys.Pairwise (fun x y=>lt y x = false):=by
  have hd : AllP xs.length P xs.toArray:=by
    refine ⟨qe,n,fun i hi=>?_⟩;have : xs.toArray[i]! = xs[i]:=by simp [hi]
    rw [this];exact u _ (Y6 hi)
  have hk : Sort.bitsLen xs.length≤20:=(Sort.bitsLen_le_iff _ 20).2 q0;have c : ∀ N,_:=fun N=>qk1 v t N 0 xs.length (Sort.bitsLen xs.length) xs.toArray hd q0 q0 q0 (.inl rfl);have w:=c (xs.length + 1);rcases w with ⟨d',e,_,_⟩ | ⟨h,_⟩
  · obtain ⟨r,o⟩:=qqn (f:=fun N=>Zh N q xs 0 (xs.length : Int) ((Sort.bitsLen xs.length : Nat) : Int)) e;obtain ⟨N,g⟩:=qdx o;have g : Zh N q xs 0 (xs.length : Int) ((Sort.bitsLen xs.length : Nat) : Int) = some r:=g;rcases c N with ⟨a,b,x,y⟩ | ⟨_,b⟩
    · have b : Zh N q xs 0 (xs.length : Int) ((Sort.bitsLen xs.length : Nat) : Int) = some a.toList:=b;rw [g] at b;obtain rfl : r = a.toList:=qc8 b;have d : a.size = xs.length:=by rw [x.1];simp
      refine ⟨a.toList,?_,?_,?_⟩
      · unfold q2b;rw [q21,show ((xs.length : Int) % 18446744073709551616) = (xs.length : Int) by omega,qix _ n];simp only [qn,o];unfold Qy;rw [qm (by simp [d])];rfl
      · have:=x.2.2;have p : a.extract 0 xs.length = a:=by rw [← d];simp
        have s : xs.toArray.extract 0 xs.length = xs.toArray:=by simp
        rw [p,s] at this;exact this
      · rw [List.pairwise_iff_getElem];intro i j hi z l;have m : i < a.size:=by simpa using hi
        have k : j < a.size:=by simpa using z
        have:=y i j q0 l q0;rw [getElem!_pos a i m,getElem!_pos a j k] at this;simpa using this
    · have b : Zh N q xs 0 (xs.length : Int) ((Sort.bitsLen xs.length : Nat) : Int) = none:=b;rw [g] at b;cases b
  · omega
end
end Go.Sh
namespace Go.Sh
open Go Go.Am
theorem qv9 : qby = q4l:=rfl
theorem qu9 : q2o = q3h:=by
  funext p0;simp only [q2o,q3h,qv9]
  all_goals exact Qx
theorem qkt : Ut = q18:=by
  funext p0;simp only [Ut,q18,qu9]
  all_goals exact Qx
theorem quj : q8o = U3:=by
  funext p1 q1 a459;simp only [q8o,U3]
  all_goals exact Qx
theorem qui : q8n = q1c:=by
  funext p2 p1 q1 a278;simp only [q8n,q1c,quj]
  all_goals exact Qx
theorem quh : q8m = q2e:=by
  funext q1 p0 p1 p2;simp only [q8m,q2e,qui]
  all_goals exact Qx
theorem qv8 : q96 = U6:=by
  funext p2 p3 q1 a197;simp only [q96,U6]
  all_goals exact Qx
theorem qkv : q6b = Ur:=by
  funext q1 p0 p1 p2 p3;simp only [q6b,Ur,qv8]
  all_goals exact Qx
theorem quf : q8k = q1a:=by
  funext q1 p2 p1 a123;simp only [q8k,q1a,qkv]
  all_goals exact Qx
theorem qug : q8l = q1b:=by
  funext p1 q1 a191;simp only [q8l,q1b,qkv]
  all_goals exact Qx
theorem que : q8j = q2d:=by
  funext q1 p0 p1 p2;simp only [q8j,q2d,quf,qug]
  all_goals exact Qx
theorem qul : q1s = q2f:=by
  funext p0;simp only [q1s,q2f,qkt]
  all_goals exact Qx
theorem qva : q1t = q2j:=by
  funext p0;simp only [q1t,q2j]
  all_goals exact Qx
theorem quc : q8h = Ui:=by
  funext p1 p2 r101 a153;simp only [q8h,Ui,qva]
  all_goals exact Qx
theorem qub : q8g = q19:=by
  funext q1 p0 p1 p2;simp only [q8g,q19,qul,quc]
  all_goals exact Qx
theorem qum : q3t = Uk:=by
  funext q1 p0 p1 p2 p3;simp only [q3t,Uk]
  all_goals exact Qx
theorem qku : q5r = Uj:=by
  funext q1 p0 p1 p2 p3 p4;simp only [q5r,Uj,qum]
  all_goals exact Qx
theorem quk : q3r = U4:=by
  funext q1 p0 p1 p2;simp only [q3r,U4,qku]
  all_goals exact Qx
theorem qud : q8i = q2c:=by
  funext p0 p1 p2 p3;simp only [q8i,q2c,qku,quk]
  all_goals exact Qx
theorem qv7 : q94 = q2i:=by
  funext a119;simp only [q94,q2i]
  all_goals exact Qx
theorem qv6 : q93 = q1h:=by
  funext q1 p0 p1 p2;simp only [q93,q1h,qv7]
  all_goals exact Qx
theorem quq : q8p = Ul:=by
  funext p2 a438 q1 a681;simp only [q8p,Ul]
  all_goals exact Qx
theorem qur : q8q = Um:=by
  funext q1 a838;simp only [q8q,Um]
  all_goals exact Qx
theorem qus : q8r = Un:=by
  funext p2 q1 b684 a928;simp only [q8r,Un]
  all_goals exact Qx
theorem qup : q5t = Zy:=by
  funext p2 q1 p1 a438;have a : @q5t.match_1.{1} = @Zy.match_1.{1} qi:=by funext motive m f g;cases m <;> rfl
  unfold q5t Zy;rw [a];simp only [quq,qur,qus]
theorem qun : q5s = U5:=by
  funext q1 p0 p1 p2;have a : @q5s.match_1.{1} = @U5.match_1.{1} qi:=by funext motive m f g;cases m <;> rfl
  unfold q5s U5;rw [a];simp only [qup]
theorem quw : q91 = Uo:=by
  funext a318 p1 q1 a378;simp only [q91,Uo]
  all_goals exact Qx
theorem qux : q92 = Up:=by
  funext b381 a318 p1 q1 a463;simp only [q92,Up]
  all_goals exact Qx
theorem quv : q90 = q1f:=by
  funext p1 q1 a318;simp only [q90,q1f,quw,qux]
  all_goals exact Qx
theorem quu : q8z = q1e:=by
  funext q1 p0 p1 p2 p3;simp only [q8z,q1e,quv]
  all_goals exact Qx
theorem quy : q8u = q2g:=by
  funext p2 p0 p1 v101 p3 v103 q1 a163;simp only [q8u,q2g]
  all_goals exact Qx
theorem quz : q8v = q2h:=by
  funext b166 p0 p1 v101 p3 v103 q1 a249;simp only [q8v,q2h]
  all_goals exact Qx
theorem qv1 : q8x = J9:=by
  funext a514 p1 q1 a572;simp only [q8x,J9]
  all_goals exact Qx
theorem qv2 : q8y = Ja:=by
  funext b575 a514 p1 q1 a658;simp only [q8y,Ja]
  all_goals exact Qx
theorem qv0 : q8w = q1g:=by
  funext p1 q1 a514;simp only [q8w,q1g,qv1,qv2]
  all_goals exact Qx
theorem qut : q8t = q1d:=by
  funext q1 p0 p1 p2 p3;simp only [q8t,q1d,quy,quz,qv0]
  all_goals exact Qx
theorem qv4 : q67 = Zq:=by
  funext q1 rec a309;have a : @q67.match_1.{1} = @Zq.match_1.{1} qi:=by funext motive m f g;cases m <;> rfl
  unfold q67 Zq;rw [a];simp only [quh,que,qub,qud,qv6,qun,quu,qut]
theorem qv5 : q68 = Uq:=by
  funext rec q1 p0 p1 p2 p3;simp only [q68,Uq,qv4]
  all_goals exact Qx
theorem qv3 : ∀ N q,q66 N q = Zh N q:=by
  intro N q
  induction N with
  | zero=>rfl
  | succ N ih=>
    funext a b c d;show q68 (q66 N q) q a b c d = Uq (Zh N q) q a b c d;rw [ih,qv5]
theorem qua : q5h = q2b:=by
  funext q1 p0;simp only [q5h,q2b,qkt,qv3]
  all_goals exact Qx
end Go.Sh
namespace Go.Sh
open Go Go.Am
instance : Inhabited qi:=⟨⟨0,0,0⟩⟩
theorem qyw (q : qi→qi→Option Int) (xs : List qi) : q5h q xs = q2b q xs:=by rw [qua]
def evs (s : List qj) (l : Int) : List qi:=s.flatMap fun t=>[{at_:=t.Lo,list_:=l,by_:=1},{at_:=t.Hi,list_:=l,by_:=-1}]
theorem q7j (s : List qj) (l : Int) : (evs s l).length = 2 * s.length:=by
  induction s with
  | nil=>rfl
  | cons t s ih=>simp only [evs,List.flatMap_cons,List.length_append,List.length_cons,List.length_nil] at ih ⊢;omega
theorem qat {s : List qj} {l : Int} {e : qi} (h : e∈evs s l) : e.list_ = l∧(e.by_ = 1∨e.by_ = -1)∧∃ t∈s,e.at_ = t.Lo∨e.at_ = t.Hi:=by
  simp only [evs,List.mem_flatMap] at h;obtain ⟨t,a,h⟩:=h;simp only [List.mem_cons,List.not_mem_nil,or_false] at h;rcases h with rfl | rfl
  · exact ⟨rfl,.inl rfl,t,a,.inl rfl⟩
  · exact ⟨rfl,.inr rfl,t,a,.inr rfl⟩
theorem qhb (s : List qj) (l : Int) (y : List qi) (hs : s.length≤1000) (base : List qi) (hb : base.length≤10000) :
    loop (q41 s (l,y)) (0,base) = some (base ++ evs s l):=by
  have:=J2 (f:=q41 s (l,y)) (σ:=List qi) (fun k c=>((k : Int),c)) s.length (fun k c=>c = base ++ evs (s.take k) l) (fun t=>t = base ++ evs s l) ?_ ?_ (k0:=0) (c0:=base) q0 (by simp [evs])
  · obtain ⟨b,h,rfl⟩:=this;exact h
  · rintro k c d rfl;have a : decide ((k : Int) < (s.length : Int)) = true:=Q9 q0;refine .inl ⟨base ++ evs (s.take (k + 1)) l,?_,rfl⟩;have g : (evs (s.take k) l).length≤2000:=by rw [q7j,List.length_take];omega
    simp only [q41,a,Q2,K5 d,qn];rw [Zf (by rw [List.length_append];simp only [List.length_cons,List.length_nil];omega),qn,Qe q0,List.take_succ_eq_append_getElem d,List.append_assoc];have : evs (s.take k ++ [s[k]]) l = evs (s.take k) l ++ [{at_:=s[k].Lo,list_:=l,by_:=1},{at_:=s[k].Hi,list_:=l,by_:=-1}]:=by simp only [evs,List.flatMap_append,List.flatMap_cons,List.flatMap_nil,List.append_nil]
    rw [this];rfl
  · rintro c rfl;have a : decide ((s.length : Int) < (s.length : Int)) = false:=Qh q0;exact ⟨_,by simp only [q41,a,Q3];rfl,by rw [List.take_length]⟩
def ltE (a b : qi) : Bool:=decide (a.at_ < b.at_)
def inE (e : qi) : Prop:=-1000000≤e.at_∧e.at_≤1000000
theorem swoE : Sort.SWO ltE where
  irrefl:=by intro x;simp [ltE]
  trans:=by intro x y z;simp only [ltE,decide_eq_true_eq];omega
  ntrans:=by intro x y z;simp only [ltE,decide_eq_false_iff_not];omega
theorem cmpE : Ku (fun a b=>q9g a b) ltE inE:=by
  rintro x y ⟨d,f⟩ ⟨c,g⟩;refine ⟨x.at_ - y.at_,?_,?_⟩
  · show some (w64 (x.at_ - y.at_)) = _;rw [Qe q0]
  · unfold ltE;exact decide_eq_decide.2 q0
theorem qyv (p q : List qj) (hp : p.length≤500) (v : q.length≤500) (r : ∀ t∈p,vld t) (u : ∀ t∈q,vld t) :
    ∃ ys,q9h [p,q] = some ([p,q],ys)∧ys.Perm (evs p 0 ++ evs q 1)∧ys.Pairwise (fun x y=>x.at_≤y.at_):=by
  have n : ∀ x∈evs p 0 ++ evs q 1,inE x:=by
    intro x m;rcases List.mem_append.1 m with h | h
    · obtain ⟨_,_,t,g,h⟩:=qat h;obtain ⟨a,b,c⟩:=r t g;unfold inE;rcases h with h | h <;> omega
    · obtain ⟨_,_,t,g,h⟩:=qat h;obtain ⟨a,b,c⟩:=u t g;unfold inE;rcases h with h | h <;> omega
  have z:=q7j p 0;have w:=q7j q 1;obtain ⟨ys,s,j,o⟩:=qlm cmpE swoE (evs p 0 ++ evs q 1) (by rw [List.length_append];omega) n;refine ⟨ys,?_,j,o.imp (fun {x y} h=>by simp only [ltE,decide_eq_false_iff_not] at h;omega)⟩
  have d : loop (Ux [p,q]) (0,[]) = some (evs p 0 ++ evs q 1):=by
    have s0 : Ux [p,q] (0,[]) = some (.inl (1,evs p 0)):=by
      have t : decide ((0 : Int) < (([p,q] : List (List qj)).length : Int)) = true:=rfl;simp only [Ux,t,Q2];have : idx [p,q] 0 = some p:=rfl;rw [this];simp only [qn,qhb p 0 [] q0 [] qe,List.nil_append];rfl
    have k : Ux [p,q] (1,evs p 0) = some (.inl (2,evs p 0 ++ evs q 1)):=by
      have t : decide ((1 : Int) < (([p,q] : List (List qj)).length : Int)) = true:=rfl;simp only [Ux,t,Q2];have : idx [p,q] 1 = some q:=rfl;rw [this];simp only [qn,qhb q 1 (evs p 0) q0 (evs p 0) q0];rfl
    have l : Ux [p,q] (2,evs p 0 ++ evs q 1) = some (.inr (evs p 0 ++ evs q 1)):=by
      have t : decide ((2 : Int) < (([p,q] : List (List qj)).length : Int)) = false:=rfl;simp only [Ux,t,Q3]
    rw [Kx s0,Kx k,Kh l]
  unfold q9h;rw [d];simp only [qn,qyw,s];have le : Qy ys.length (evs p 0 ++ evs q 1).length = some ():=by unfold Qy;rw [qm j.length_eq]
  have f : Qy ys.length ys.length = some ():=by unfold Qy;rw [qm rfl]
  simp only [le,qn,qbn,f]
def cnt (l : Int) (c : Int→Bool) : List qi→Int
  | []=>0
  | e::es=>(if e.list_ = l∧c e.at_ = true then e.by_ else 0) + cnt l c es
theorem q28 (l : Int) (c : Int→Bool) (a b : List qi) : cnt l c (a ++ b) = cnt l c a + cnt l c b:=by
  induction a with
  | nil=>simp [cnt]
  | cons e a ih=>simp only [List.cons_append,cnt,ih];omega
theorem qgw {l : Int} {c : Int→Bool} {a b : List qi} (h : a.Perm b) : cnt l c a = cnt l c b:=by
  induction h with
  | nil=>rfl
  | cons x _ ih=>simp only [cnt,ih]
  | swap x y l=>simp only [cnt];omega
  | trans _ _ ih1 ih2=>rw [ih1,ih2]
theorem qgt {l : Int} {c b : Int→Bool} : ∀ {a : List qi},(∀ e∈a,c e.at_ = b e.at_)→cnt l c a = cnt l b a
  | [],_=>rfl
  | e::a,h=>by simp only [cnt,h e qe,qgt (fun e d=>h e (List.mem_cons_of_mem _ d))]
theorem qgv {l : Int} {c : Int→Bool} : ∀ {a : List qi},(∀ e∈a,c e.at_ = false)→cnt l c a = 0
  | [],_=>rfl
  | e::a,h=>by
    simp only [cnt,qgv (fun e b=>h e (List.mem_cons_of_mem _ b)),h e qe]
    simp
theorem q7a {s : List qj} {l l' : Int} {c : Int→Bool} (h : l≠l') : cnt l c (evs s l') = 0:=by
  induction s with
  | nil=>rfl
  | cons t s ih=>
    have : evs (t::s) l' = [{at_:=t.Lo,list_:=l',by_:=1},{at_:=t.Hi,list_:=l',by_:=-1}] ++ evs s l':=rfl;rw [this,q28,ih];have a : ¬ l' = l:=fun e=>h e.symm;simp [cnt,a]
theorem qgu {s : List qj} {l : Int} (v : ∀ t∈s,vld t) (x : Int) : 0≤cnt l (fun a=>decide (a≤x)) (evs s l)∧(0 < cnt l (fun a=>decide (a≤x)) (evs s l)↔has s x):=by
  induction s with
  | nil=>exact ⟨Int.le_refl 0,by simp [evs,cnt,has]⟩
  | cons t s ih=>
    obtain ⟨g,b⟩:=ih (fun t c=>v t (List.mem_cons_of_mem _ c));have d:=v t qe;have : evs (t::s) l = [{at_:=t.Lo,list_:=l,by_:=1},{at_:=t.Hi,list_:=l,by_:=-1}] ++ evs s l:=rfl;rw [this,q28,Zs,← b];obtain ⟨j,h,f⟩:=d;simp only [cnt,true_and,decide_eq_true_eq];split <;> split <;> omega
theorem qgx {s : List qj} {l : Int} : cnt l (fun _=>true) (evs s l) = 0:=by
  induction s with
  | nil=>rfl
  | cons t s ih=>
    have : evs (t::s) l = [{at_:=t.Lo,list_:=l,by_:=1},{at_:=t.Hi,list_:=l,by_:=-1}] ++ evs s l:=rfl;rw [this,q28,ih];simp [cnt]
theorem qd3 {l : Int} {c : Int→Bool} : ∀ {a : List qi},(∀ e∈a,e.by_ = 1∨e.by_ = -1)→-(a.length : Int)≤cnt l c a∧cnt l c a≤(a.length : Int)
  | [],_=>by simp [cnt]
  | e::a,h=>by
    obtain ⟨d,f⟩:=qd3 (l:=l) (c:=c) (fun e b=>h e (List.mem_cons_of_mem _ b))
    have:=h e qe
    simp only [cnt,List.length_cons]
    split <;> omega
end Go.Sh
namespace Go.Sh
open Go Go.Am
theorem qoj (at_ a : Int) (inn : Bool) (out : List qj) (h : out.length≤10000) :
    q9i at_ inn a out = some (inn,a,if inn = true∧a≠at_ then addS out a at_ else out):=by
  unfold q9i
  cases inn with
  | false=>rfl
  | true=>
    by_cases f : a = at_
    · simp [f]
    · have hb : (a == at_) = false:=by simpa using f
      simp only [Bool.not_true,Q3,qn,hb];rw [qm ⟨trivial,f⟩];rcases qbo out with rfl | ⟨d,t,rfl⟩
      · rfl
      · have l : (d ++ [t]).length = d.length + 1:=by simp
        have g : decide (((d ++ [t]).length : Int) > 0) = true:=Q9 q0;have k : w64 (((d ++ [t]).length : Int) - 1) = (d.length : Int):=by rw [Qe q0];omega
        have j : idx (d ++ [t]) (d.length : Int) = some t:=by
          rw [K5 q0];simp
        simp only [g,Q2,k,j,qn];by_cases b : t.Hi = a
        · subst b;simp only [beq_self_eq_true,Q2,qa2,Int.toNat_natCast,qky]
        · have c : (t.Hi == a) = false:=by simpa using b
          simp only [c,Q3,qa3 b];rw [Zf (by simp;omega)];rfl
open Classical in
structure qmy (f : Bool→Bool→Bool) (p q : List qj) (ys : List qi) (k : Nat) (c : List Int × Int × Bool × List qj) : Prop where
  opn : c.1 = [cnt 0 (fun _=>true) (ys.take k),cnt 1 (fun _=>true) (ys.take k)]
  inn : c.2.2.1 = f (decide (0 < cnt 0 (fun _=>true) (ys.take k))) (decide (0 < cnt 1 (fun _=>true) (ys.take k)))
  lst : ∀ (h : k - 1 < ys.length),0 < k→c.2.1 = ys[k - 1].at_
  can : Can c.2.2.2
  his : ∀ t∈c.2.2.2,t.Hi≤c.2.1
  zro : k = 0→c.2.2.2 = []
  pts : ∀ x,has c.2.2.2 x↔0 < k∧x < c.2.1∧f (decide (has p x)) (decide (has q x)) = true
  len : c.2.2.2.length≤k
theorem qn0 (c : List qj) (a b : Int) : (addS c a b).length≤c.length + 1:=by
  rcases qbo c with rfl | ⟨d,t,rfl⟩
  · simp [qfu]
  · by_cases h : t.Hi = a
    · subst h;rw [qa2];simp
    · rw [qa3 h];simp
theorem qgs {p q : List qj} {ys : List qi} (hp : ∀ t∈p,vld t) (n : ∀ t∈q,vld t) (b : ys.Perm (evs p 0 ++ evs q 1)) (hs : ys.Pairwise (fun x y=>x.at_≤y.at_)) (k : Nat) (x : Int)
    (o : ∀ i (h : i < ys.length),i < k→ys[i].at_≤x) (f : ∀ i (h : i < ys.length),k≤i→x < ys[i].at_) :
    (0 < cnt 0 (fun _=>true) (ys.take k)↔has p x)∧(0 < cnt 1 (fun _=>true) (ys.take k)↔has q x):=by
  have key : ∀ l,cnt l (fun _=>true) (ys.take k) = cnt l (fun a=>decide (a≤x)) (evs p 0) + cnt l (fun a=>decide (a≤x)) (evs q 1):=by
    intro l;rw [← q28,← qgw b]
    conv=>rhs;rw [← List.take_append_drop k ys]
    rw [q28]
    have g : cnt l (fun a=>decide (a≤x)) (ys.drop k) = 0:=by
      refine qgv fun e c=>?_;obtain ⟨i,hi,rfl⟩:=List.mem_iff_getElem.1 c;rw [List.getElem_drop];rw [List.length_drop] at hi;have:=f (k + i) q0 q0;exact Qh q0
    have m : cnt l (fun a=>decide (a≤x)) (ys.take k) = cnt l (fun _=>true) (ys.take k):=by
      refine qgt fun e c=>?_;obtain ⟨i,hi,rfl⟩:=List.mem_iff_getElem.1 c;rw [List.getElem_take];rw [List.length_take] at hi;exact Q9 (o i q0 q0)
    rw [g,m];omega
  rw [key 0,key 1,q7a (l:=0) (l':=1) qo,q7a (l:=1) (l':=0) qo];have d:=qgu (l:=0) hp x;have j:=qgu (l:=1) n x;rw [Int.add_zero,Int.zero_add];exact ⟨d.2,j.2⟩
open Classical in
theorem qin (f : Bool→Bool→Bool) (hf : f false false = false) (p2 : Bool→Bool→Option Bool) (hp2 : ∀ a b,p2 a b = some (f a b)) (p q : List qj)
    (hp : p.length≤500) (hq : q.length≤500) (vp : ∀ t∈p,vld t) (vq : ∀ t∈q,vld t) :
    ∃ out,q35 p q p2 = some out∧Can out∧∀ x,has out x↔f (decide (has p x)) (decide (has q x)) = true:=by
  obtain ⟨ys,e1,g,hs⟩:=qyv p q hp hq vp vq;have bh : ys.length≤2000:=by rw [g.length_eq,List.length_append,q7j,q7j];omega
  have w : ∀ i j (hi : i < ys.length) (hj : j < ys.length),i≤j→ys[i].at_≤ys[j].at_:=by
    intro i j hi hj bs;rcases Nat.lt_or_ge i j with h | h
    · exact List.pairwise_iff_getElem.1 hs i j hi hj h
    · obtain rfl : i = j:=by omega
      exact Int.le_refl _
  have y : ∀ e∈ys,(e.list_ = 0∨e.list_ = 1)∧(e.by_ = 1∨e.by_ = -1):=by
    intro e he;rcases List.mem_append.1 (g.mem_iff.1 he) with h | h
    · obtain ⟨a,b,_⟩:=qat h;exact ⟨.inl a,b⟩
    · obtain ⟨a,b,_⟩:=qat h;exact ⟨.inr a,b⟩
  have:=J2 (f:=q42 ([p,q],ys) p2) (σ:=List Int × Int × Bool × List qj) (fun k c=>((k : Int),c)) ys.length (qmy f p q ys) (fun out=>Can out∧∀ x,has out x↔f (decide (has p x)) (decide (has q x)) = true) ?_ ?_ (k0:=0) (c0:=([0,0],0,false,[])) q0 ?_
  · obtain ⟨out,r,m⟩:=this;refine ⟨out,?_,m⟩;unfold q35;have r : loop (q42 ([p,q],ys) p2) (0,[0,0],0,false,[]) = some out:=r;rw [e1];simp only [qn,r];rfl
  · rintro k ⟨opn,d,inn,out⟩ hk ⟨s1,s2,s3,s4,s5,s6,s7,s8⟩;simp only at s1 s2 s3 s4 s5 s6 s7 s8;have ac : decide ((k : Int) < (ys.length : Int)) = true:=Q9 q0;have ax:=qoj ys[k].at_ d inn out q0;have hm:=y ys[k] (Y6 hk);have au : ys.take (k + 1) = ys.take k ++ [ys[k]]:=List.take_succ_eq_append_getElem hk;have al : ∀ e∈ys.take k,e.by_ = 1∨e.by_ = -1:=fun e he=>(y e (List.mem_of_mem_take he)).2;have b0:=qd3 (l:=0) (c:=fun _=>true) al;have b1:=qd3 (l:=1) (c:=fun _=>true) al;have bd : (ys.take k).length = k:=by rw [List.length_take];omega
    rw [bd] at b0 b1
    have ab : ∃ v,idxA 2 opn ys[k].list_ = some v∧opn.set ys[k].list_.toNat (w64 (v + ys[k].by_)) = [cnt 0 (fun _=>true) (ys.take (k + 1)),cnt 1 (fun _=>true) (ys.take (k + 1))]:=by
      subst s1;rw [au,q28,q28];rcases hm.1 with h | h
      · refine ⟨cnt 0 (fun _=>true) (ys.take k),by rw [h];rfl,?_⟩;rw [h,Qe q0];simp [cnt,h]
      · refine ⟨cnt 1 (fun _=>true) (ys.take k),by rw [h];rfl,?_⟩;rw [h,Qe q0];simp [cnt,h]
    obtain ⟨v,o1,o2⟩:=ab;refine .inl ⟨([cnt 0 (fun _=>true) (ys.take (k + 1)),cnt 1 (fun _=>true) (ys.take (k + 1))],ys[k].at_,f (decide (0 < cnt 0 (fun _=>true) (ys.take (k + 1)))) (decide (0 < cnt 1 (fun _=>true) (ys.take (k + 1)))),if inn = true∧d≠ys[k].at_ then addS out d ys[k].at_ else out),?_,?_⟩
    · have x0 : ∀ a b : Int,idxA 2 [a,b] 0 = some a:=fun a b=>rfl;have x1 : ∀ a b : Int,idxA 2 [a,b] 1 = some b:=fun a b=>rfl;simp only [q42,ac,Q2,K5 hk,qn,ax,o1,o2,x0,x1,hp2,Bool.not_true,Q3];rw [Qe q0];rfl
    · have aa : ∀ x,(0 < k→d≤x)→∀ i (h : i < ys.length),i < k→ys[i].at_≤x:=by
        intro x o i hi ak;have:=s3 q0 q0;have:=w i (k - 1) hi q0 q0;have:=o q0;omega
      have ad : ∀ x,x < ys[k].at_→∀ i (h : i < ys.length),k≤i→x < ys[i].at_:=by
        intro x o i hi ak;have:=w k i hk hi ak;omega
      have hF : ∀ x,(0 < k→d≤x)→x < ys[k].at_→f (decide (has p x)) (decide (has q x)) = inn:=by
        intro x o bc;obtain ⟨c1,c2⟩:=qgs vp vq g hs k x (aa x o) (ad x bc);rw [s2,decide_eq_decide.2 c1,decide_eq_decide.2 c2]
      have n : 0 < k→d≤ys[k].at_:=by
        intro u;rw [s3 q0 u];exact w (k - 1) k q0 hk q0
      have z : k = 0→inn = false:=by
        intro u;subst u;rw [s2];exact hf
      by_cases s : inn = true∧d≠ys[k].at_
      · have ai : 0 < k:=by
          rcases Nat.eq_zero_or_pos k with h | h
          · rw [z h] at s;cases s.1
          · exact h
        have hl:=n ai;have aw : d < ys[k].at_:=by have:=s.2;omega
        obtain ⟨d1,d2,d3,d4⟩:=qfv s4 s5 aw;constructor
        · rfl
        · rfl
        · intro h _;rfl
        · simp only [qm s];exact d1
        · simp only [qm s];exact d3
        · omega
        · intro x;simp only [qm s];rw [d2,s7];constructor
          · rintro (⟨u,r,m⟩ | ⟨r,m⟩)
            · exact ⟨q0,q0,m⟩
            · exact ⟨q0,m,by rw [hF x (fun _=>r) m];exact s.1⟩
          · rintro ⟨u,r,m⟩;by_cases o : x < d
            · exact .inl ⟨ai,o,m⟩
            · exact .inr ⟨q0,r⟩
        · simp only [qm s];have:=qn0 out d ys[k].at_;omega
      · constructor
        · rfl
        · rfl
        · intro h _;rfl
        · simp only [ql s];exact s4
        · simp only [ql s];intro t ht;rcases Nat.eq_zero_or_pos k with h | h
          · rw [s6 h] at ht;cases ht
          · have:=s5 t ht;have:=n h;omega
        · omega
        · intro x;simp only [ql s];rw [s7];constructor
          · rintro ⟨u,r,m⟩;exact ⟨q0,by have:=n u;omega,m⟩
          · rintro ⟨u,r,m⟩;by_cases o : 0 < k∧x < d
            · exact ⟨o.1,o.2,m⟩
            · have ao : 0 < k→d≤x:=fun h=>by
                refine Int.not_lt.1 fun h'=>o ⟨h,h'⟩
              have:=hF x ao r;rw [this] at m;refine absurd ⟨m,?_⟩ s;intro e;rcases Nat.eq_zero_or_pos k with h | h
              · rw [z h] at m;cases m
              · have:=ao h;omega
        · simp only [ql s];omega
  · rintro ⟨opn,d,inn,out⟩ ⟨s1,s2,s3,s4,s5,s6,s7,s8⟩;simp only at s1 s2 s3 s4 s5 s6 s7 s8;have ac : decide ((ys.length : Int) < (ys.length : Int)) = false:=Qh q0;refine ⟨out,by simp only [q42,ac,Q3],s4,fun x=>?_⟩;rw [s7];constructor
    · rintro ⟨_,_,h⟩;exact h
    · intro h;by_cases o : 0 < ys.length∧x < d
      · exact ⟨o.1,o.2,h⟩
      · obtain ⟨c1, c2⟩ := qgs vp vq g hs ys.length x (fun i hi _ => by
            have:=s3 q0 q0;have:=w i (ys.length - 1) hi q0 q0;have : d≤x:=Int.not_lt.1 fun h'=>o ⟨q0,h'⟩
            omega) (fun i hi bu=>q0)
        have ar : ∀ l,cnt l (fun _=>true) (ys.take ys.length) = 0:=by
          intro l;rw [List.take_length,qgw g,q28];by_cases u : l = 0
          · subst u;rw [qgx,q7a qo];rfl
          · rw [q7a u];by_cases r : l = 1
            · subst r;rw [qgx];rfl
            · rw [q7a r];rfl
        rw [ar] at c1 c2;have n1 : ¬ has p x:=fun h=>absurd (c1.2 h) qo;have n2 : ¬ has q x:=fun h=>absurd (c2.2 h) qo;rw [Qh n1,Qh n2,hf] at h;cases h
  · constructor
    · simp [cnt]
    · simp [cnt,hf]
    · intro h u;omega
    · exact ⟨fun t ht=>(by cases ht),.nil⟩
    · intro t ht;cases ht
    · intro _;rfl
    · intro x;simp [has]
    · simp
end Go.Sh
namespace Go.Sh
open Go Go.Am
theorem qcx {s : List qj} (h : Yp s = 0) : s.length≤400∧Good s:=by
  unfold Yp at h;split at h
  · cases h
  · split at h
    · rename_i b a;exact ⟨q0,a⟩
    · cases h
def dst (x : Int) (t : qj) : Int:=max (max (t.Lo - x) (x - t.Hi + 1)) 0
end Go.Sh
namespace Go.Sh
open Go Go.Am
noncomputable def Jb (kind : Int) (p q : List qj) : List qj:=(qb1 kind p q).getD []
theorem q7n (kind : Int) (p q : List qj) (hp : p.length≤100000) (b : q.length≤100000) : qb1 kind p q = some (Jb kind p q)∧qcc kind p q (Jb kind p q):=by
  obtain ⟨out,c,a⟩:=qqj kind p q hp b;unfold Jb;rw [c];exact ⟨rfl,a⟩
noncomputable def opS (kind : Int) (p q : List qj) : List qj × Int:=
  if Yp p≠0 then ([],Yp p) else if Yp q≠0 then ([],Yp q) else if 400 < (Jb kind p q).length then ([],4) else (Jb kind p q,0)
open Classical in
theorem qqg (kind : Int) (f : Bool→Bool→Bool) (c : f false false = false) (l : ∀ a b : Prop,(f (decide a) (decide b) = true↔Yc kind a b)) (p2 : Bool→Bool→Option Bool) (hp2 : ∀ a b,p2 a b = some (f a b))
    (p q : List qj) (hp : p.length≤500) (h : q.length≤500) (k : ∀ t∈p,vld t) (n : ∀ t∈q,vld t) : q35 p q p2 = some (Jb kind p q):=by
  obtain ⟨out,m,d,g⟩:=qin f c p2 hp2 p q hp h k n;obtain ⟨_,j⟩:=q7n kind p q q0 q0;rw [m];congr 1;refine q76 d j.can fun x=>?_;rw [g,j.pts,l]
open Classical in
theorem qog (kind : Int) (f : Bool→Bool→Bool) (j : f false false = false) (n : ∀ a b : Prop,(f (decide a) (decide b) = true↔Yc kind a b)) (p2 : Bool→Bool→Option Bool) (hp2 : ∀ a b,p2 a b = some (f a b))
    (p q : List qj) : q9f p q p2 = some (opS kind p q):=by
  unfold q9f opS;simp only [qcy,qn];by_cases d : Yp p = 0
  · have g : (Yp p != 0) = false:=by simpa using d
    simp only [g,Q3];simp only [d,ne_eq,not_true_eq_false,if_false];by_cases c : Yp q = 0
    · have h : (Yp q != 0) = false:=by simpa using c
      obtain ⟨s,o⟩:=qcx d;obtain ⟨r,m⟩:=qcx c;simp only [h,Q3,c,not_true_eq_false,if_false,qqg kind f j n p2 hp2 p q q0 q0 o.1 m.1,qn];by_cases l : 400 < (Jb kind p q).length
      · have k : decide (((Jb kind p q).length : Int) > 400) = true:=Q9 q0;rw [k,qm l];rfl
      · have k : decide (((Jb kind p q).length : Int) > 400) = false:=Qh q0;rw [k,ql l];rfl
    · have h : (Yp q != 0) = true:=by simpa using c
      simp only [h,Q2,c,not_false_eq_true,if_true]
  · have g : (Yp p != 0) = true:=by simpa using d
    simp only [g,Q2,d,ne_eq,not_false_eq_true,if_true]
theorem q105 (p q : List qj) : q6l p q = some (opS 2 p q):=by
  classical
  unfold q6l;rw [qog 2 (fun a b=>a || b) rfl (by intro a b;by_cases c : a <;> by_cases hb : b <;> simp [Yc,c,hb]) _ (by intro a b;cases a <;> rfl)];rfl
theorem qq7 (s : List qj) (b : qj→Option Bool) (c : qj→Bool) (h : ∀ t,b t = some (c t)) (q : s.length≤1000000) :
    ∃ r,q8f s b = some r∧decide (r ≥ 0) = s.any c:=by
  have:=J2 (f:=q2z s b) (σ:=Unit) (fun k _=>(k : Int)) s.length (fun k _=>∀ i (h : i < s.length),i < k→c s[i] = false)
    (fun m=>∃ r : Int,(match m with | .inl b22=>some (-1) | .inr x1=>some x1) = some r∧decide (r ≥ 0) = s.any c) ?_ ?_ (k0:=0) (c0:=()) q0 (fun i _ hi=>q0)
  · obtain ⟨m,j,r,l,n⟩:=this;have j : loop (q2z s b) 0 = some m:=j;exact ⟨r,by unfold q8f;rw [j];exact l,n⟩
  · rintro k _ g hi;have hb : decide ((k : Int) < (s.length : Int)) = true:=Q9 q0
    cases d : c s[k] with
    | true=>
      refine .inr ⟨.inr (k : Int),?_,(k : Int),rfl,?_⟩
      · simp only [q2z,hb,Q2,K5 g,qn,h,d]
      · have : s.any c = true:=List.any_eq_true.2 ⟨s[k],Y6 g,d⟩;rw [this];exact Q9 q0
    | false=>
      refine .inl ⟨(),?_,?_⟩
      · simp only [q2z,hb,Q2,K5 g,qn,h,d,Q3];rw [Qe q0];rfl
      · intro i a o;by_cases e : i = k
        · subst e;exact d
        · exact hi i a q0
  · rintro _ hi;have hb : decide ((s.length : Int) < (s.length : Int)) = false:=Qh q0;refine ⟨.inl (),by simp only [q2z,hb,Q3],-1,rfl,?_⟩
    have : s.any c = false:=by
      rw [List.any_eq_false];intro t p;obtain ⟨i,a,rfl⟩:=List.mem_iff_getElem.1 p;simp [hi i a a]
    rw [this];rfl
theorem qor (s : List qj) (a : qj→Option Bool) (c : qj→Bool) (h : ∀ t,a t = some (c t)) (b : s.length≤1000000) : q8c s a = some (s.any c):=by
  obtain ⟨r,f,d⟩:=qq7 s a c h b;unfold q8c;rw [f,qn,d]
open Classical in
noncomputable def qe2 (s : List qj) : List qj × Int:=if 400 < s.length then ([],4) else if ∀ t∈s,vld t then (Jb 2 s [],0) else ([],8)
theorem qqx (s : List qj) (k : s.length≤400) (h : ∀ t∈s,vld t) (p2 : Bool→Bool→Option Bool) (hp2 : ∀ a b,p2 a b = some a) : q35 s [] p2 = some (Jb 2 s []):=by
  classical
  obtain ⟨out,g,d,c⟩:=qin (fun a _=>a) rfl p2 hp2 s [] q0 qe h (fun t f=>by cases f);obtain ⟨_,j⟩:=q7n 2 s [] q0 qe;rw [g];congr 1;refine q76 d j.can fun x=>?_;rw [c,j.pts];simp [Yc,q1i]
theorem qqw (s : List qj) : q6k s = some (qe2 s):=by
  classical
  unfold q6k qe2;by_cases f : 400 < s.length
  · have e : decide ((s.length : Int) > 400) = true:=Q9 q0;rw [e,qm f];rfl
  · have e : decide ((s.length : Int) > 400) = false:=Qh q0;rw [e,ql f,Q3,qor s _ (fun t=>!decide (vld t)) (fun t=>by show (q36 t).bind _ = _;rw [qmq];rfl) q0,qn];by_cases c : ∀ t∈s,vld t
    · have : (s.any fun t=>!decide (vld t)) = false:=by
        rw [List.any_eq_false];intro t d;simp [c t d]
      rw [this,Q3,qm c,qqx s q0 c (fun j g=>q9e j g) (fun a b=>rfl)];rfl
    · have : (s.any fun t=>!decide (vld t)) = true:=by
        rw [List.any_eq_true];obtain ⟨t,c⟩:=Classical.not_forall.1 c;obtain ⟨d,h⟩:=Classical.not_imp.1 c;exact ⟨t,d,by simp [h]⟩
      rw [this,Q2,ql c]
def lenL : List qj→Int
  | []=>0
  | t::s=>(t.Hi - t.Lo) + lenL s
theorem qiv (a b : List qj) : lenL (a ++ b) = lenL a + lenL b:=by
  induction a with
  | nil=>simp [lenL]
  | cons t a ih=>simp only [List.cons_append,lenL,ih];omega
theorem qiw : ∀ {s : List qj},(∀ t∈s,vld t)→0≤lenL s∧lenL s≤2000000 * (s.length : Int)
  | [],_=>by simp [lenL]
  | t::s,h=>by
    obtain ⟨g,c⟩:=qiw (fun t a=>h t (List.mem_cons_of_mem _ a))
    obtain ⟨f,d,b⟩:=h t qe
    simp only [lenL,List.length_cons]
    omega
noncomputable def qdw (s : List qj) : Int × Int:=if Yp s = 0 then (lenL s,0) else (0,Yp s)
theorem qqm (s : List qj) (o : s.length≤400) (h : ∀ t∈s,vld t) : loop (q9d s) (0,0) = some (lenL s)∧loop (q7y s) (0,0) = some (lenL s):=by
  have d : ∀ k,0≤lenL (s.take k)∧lenL (s.take k)≤800000000:=by
    intro k;have:=qiw (s:=s.take k) (fun t m=>h t (List.mem_of_mem_take m));have : (s.take k).length≤400:=by rw [List.length_take];omega
    omega
  constructor
  · have:=J2 (f:=q9d s) (σ:=Int) (fun k c=>(c,(k : Int))) s.length (fun k c=>c = lenL (s.take k)) (fun r=>r = lenL s) ?_ ?_ (k0:=0) (c0:=0) q0 (by simp [lenL])
    · obtain ⟨b,g,rfl⟩:=this;exact g
    · rintro k c a rfl;have hb : decide ((k : Int) < (s.length : Int)) = true:=Q9 q0;obtain ⟨n,l,j⟩:=h _ (Y6 a);have:=d k;refine .inl ⟨lenL (s.take (k + 1)),?_,rfl⟩;simp only [q9d,hb,Q2,K5 a,qn];rw [Qe (x:=s[k].Hi - s[k].Lo) q0,Qe (x:=lenL (s.take k) + _) q0,Qe q0,List.take_succ_eq_append_getElem a,qiv];simp only [lenL,Int.add_zero];rfl
    · rintro c rfl;have hb : decide ((s.length : Int) < (s.length : Int)) = false:=Qh q0;exact ⟨_,by simp only [q9d,hb,Q3];rfl,by rw [List.take_length]⟩
  · have:=J2 (f:=q7y s) (σ:=Int) (fun k c=>(c,(k : Int))) s.length (fun k c=>c = lenL (s.take k)) (fun r=>r = lenL s) ?_ ?_ (k0:=0) (c0:=0) q0 (by simp [lenL])
    · obtain ⟨b,g,rfl⟩:=this;exact g
    · rintro k c a rfl;have hb : decide ((k : Int) < (s.length : Int)) = true:=Q9 q0;obtain ⟨n,l,j⟩:=h _ (Y6 a);have:=d k;refine .inl ⟨lenL (s.take (k + 1)),?_,rfl⟩;simp only [q7y,hb,Q2,K5 a,qn];rw [Qe (x:=lenL (s.take k) + s[k].Hi) q0,Qe (x:=lenL (s.take k) + s[k].Hi - _) q0,Qe q0,List.take_succ_eq_append_getElem a,qiv];have : lenL (s.take k) + s[k].Hi - s[k].Lo = lenL (s.take k) + lenL [s[k]]:=by simp only [lenL];omega
      rw [this];rfl
    · rintro c rfl;have hb : decide ((s.length : Int) < (s.length : Int)) = false:=Qh q0;exact ⟨_,by simp only [q7y,hb,Q3];rfl,by rw [List.take_length]⟩
theorem q10y (s : List qj) : qlr s = some (qdw s)∧qk7 s = some (qdw s):=by
  unfold qlr qk7 qdw;simp only [qcy,qt9,qn];by_cases h : Yp s = 0
  · obtain ⟨c,d⟩:=qcx h;obtain ⟨a,b⟩:=qqm s c d.1;have e : (Yp s != 0) = false:=by simpa using h
    simp only [e,Q3,a,b,qn];simp only [h,if_true];exact ⟨trivial,trivial⟩
  · have e : (Yp s != 0) = true:=by simpa using h
    simp only [e,Q2,ql h];exact ⟨trivial,trivial⟩
end Go.Sh
set_option maxHeartbeats 4000000
namespace Go.Sh
open Go Go.Am
def sg (a b : Int) : Int:=if a < b then -1 else 0
theorem J4 {a b : Int} : decide (sg a b < 0) = decide (a < b):=by
  unfold sg;by_cases h : a < b <;> simp [h]
def qO (a b : Int) : Option Int:=some (sg a b)
theorem Je (a b : Int) : qO a b = some (sg a b):=rfl
theorem Jc (a b : Int) : Z8 a b = some (decide (a < b)):=by
  unfold Z8 q79;have : (a != a) = false:=by simp
  simp []
theorem qyd : qby = q4l:=rfl
theorem qwg : (fun a=>q2o a) = (fun a=>q3h a):=by
  funext a;simp only [q2o,q3h,qyd]
  all_goals exact Qx
theorem qwh  : ∀ a,q2o a = q3h a:=fun a=>(congrFun qwg a)
theorem qwf : (fun a=>Ut a) = (fun a=>q18 a):=by
  funext a;simp only [Ut,q18,qwh]
  all_goals exact Qx
theorem qlc  : ∀ a,Ut a = q18 a:=fun a=>(congrFun qwf a)
theorem qx0 : (fun a=>q5q a) = (fun a=>U3 a qO):=by
  funext a a443;simp only [q5q,U3,Jc,Je,qn,J4]
  all_goals exact Qx
theorem qx1  : ∀ a,q5q a = U3 a qO:=fun a=>(congrFun qx0 a)
theorem qwy : (fun p2 a=>q5p p2 a) = (fun p2 a=>q1c p2 a qO):=by
  funext p2 a a270;simp only [q5p,q1c,qx1]
  all_goals exact Qx
theorem qwz  : ∀ p2 a,q5p p2 a = q1c p2 a qO:=fun p2 a=>(congrFun (congrFun qwy p2) a)
theorem qww : (fun b a p2=>q5o b a p2) = (fun b a p2=>q2e qO b a p2):=by
  funext b a p2;simp only [q5o,q2e,qwz]
  all_goals exact Qx
theorem qwx  : ∀ b a p2,q5o b a p2 = q2e qO b a p2:=fun b a p2=>(congrFun (congrFun (congrFun qww b) a) p2)
theorem qyb : (fun p2 p3=>q6c p2 p3) = (fun p2 p3=>U6 p2 p3 qO):=by
  funext p2 p3 a193;simp only [q6c,U6,Jc,Je,qn,J4]
  all_goals exact Qx
theorem qyc  : ∀ p2 p3,q6c p2 p3 = U6 p2 p3 qO:=fun p2 p3=>(congrFun (congrFun qyb p2) p3)
theorem qya : (fun b a p2 p3=>q3y b a p2 p3) = (fun b a p2 p3=>Ur qO b a p2 p3):=by
  funext b a p2 p3;simp only [q3y,Ur,qyc]
  all_goals exact Qx
theorem qle  : ∀ b a p2 p3,q3y b a p2 p3 = Ur qO b a p2 p3:=fun b a p2 p3=>(congrFun (congrFun (congrFun (congrFun qya b) a) p2) p3)
theorem qws : (fun p2 a=>q5m p2 a) = (fun p2 a=>q1a qO p2 a):=by
  funext p2 a a123;simp only [q5m,q1a,qle]
  all_goals exact Qx
theorem qwt  : ∀ p2 a,q5m p2 a = q1a qO p2 a:=fun p2 a=>(congrFun (congrFun qws p2) a)
theorem qwu : (fun a=>q5n a) = (fun a=>q1b a qO):=by
  funext a a191;simp only [q5n,q1b,qle]
  all_goals exact Qx
theorem qwv  : ∀ a,q5n a = q1b a qO:=fun a=>(congrFun qwu a)
theorem qwq : (fun b a p2=>q5l b a p2) = (fun b a p2=>q2d qO b a p2):=by
  funext b a p2;simp only [q5l,q2d,qwt,qwv]
  all_goals exact Qx
theorem qwr  : ∀ b a p2,q5l b a p2 = q2d qO b a p2:=fun b a p2=>(congrFun (congrFun (congrFun qwq b) a) p2)
theorem qx5 : (fun a=>q1s a) = (fun a=>q2f a):=by
  funext a;simp only [q1s,q2f,qlc]
  all_goals exact Qx
theorem qx6  : ∀ a,q1s a = q2f a:=fun a=>(congrFun qx5 a)
theorem qye : (fun a=>q1t a) = (fun a=>q2j a):=by
  funext a;simp only [q1t,q2j]
  all_goals exact Qx
theorem qyf  : ∀ a,q1t a = q2j a:=fun a=>(congrFun qye a)
theorem qwm : (fun b p2 a=>q5j b p2 a) = (fun b p2 a=>Ui b p2 a):=by
  funext b p2 a a153;simp only [q5j,Ui,qyf]
  all_goals exact Qx
theorem qwn  : ∀ b p2 a,q5j b p2 a = Ui b p2 a:=fun b p2 a=>(congrFun (congrFun (congrFun qwm b) p2) a)
theorem qwk : (fun b a p2=>q5i b a p2) = (fun b a p2=>q19 qO b a p2):=by
  funext b a p2;simp only [q5i,q19,qx6,qwn]
  all_goals exact Qx
theorem qwl  : ∀ b a p2,q5i b a p2 = q19 qO b a p2:=fun b a p2=>(congrFun (congrFun (congrFun qwk b) a) p2)
theorem qx7 : (fun b a p2 p3=>q31 b a p2 p3) = (fun b a p2 p3=>Uk qO b a p2 p3):=by
  funext b a p2 p3;simp only [q31,Uk,Jc,Je,qn,J4]
  all_goals exact Qx
theorem qx8  : ∀ b a p2 p3,q31 b a p2 p3 = Uk qO b a p2 p3:=fun b a p2 p3=>(congrFun (congrFun (congrFun (congrFun qx7 b) a) p2) p3)
theorem qx2 : (fun b a p2 p3 p4=>q3s b a p2 p3 p4) = (fun b a p2 p3 p4=>Uj qO b a p2 p3 p4):=by
  funext b a p2 p3 p4;simp only [q3s,Uj,qx8]
  all_goals exact Qx
theorem qld  : ∀ b a p2 p3 p4,q3s b a p2 p3 p4 = Uj qO b a p2 p3 p4:=fun b a p2 p3 p4=>(congrFun (congrFun (congrFun (congrFun (congrFun qx2 b) a) p2) p3) p4)
theorem qx3 : (fun b a p2=>q30 b a p2) = (fun b a p2=>U4 qO b a p2):=by
  funext b a p2;simp only [q30,U4,qld]
  all_goals exact Qx
theorem qx4  : ∀ b a p2,q30 b a p2 = U4 qO b a p2:=fun b a p2=>(congrFun (congrFun (congrFun qx3 b) a) p2)
theorem qwo : (fun b a p2=>q5k b a p2) = (fun b a p2=>q2c b a p2 qO):=by
  funext b a p2;simp only [q5k,q2c,qld,qx4]
  all_goals exact Qx
theorem qwp  : ∀ b a p2,q5k b a p2 = q2c b a p2 qO:=fun b a p2=>(congrFun (congrFun (congrFun qwo b) a) p2)
theorem qy9 : q95 = q2i:=by
  funext a119;simp only [q95,q2i]
  all_goals exact Qx
theorem qy7 : (fun b a p2=>q6a b a p2) = (fun b a p2=>q1h qO b a p2):=by
  funext b a p2;simp only [q6a,q1h,qy9]
  all_goals exact Qx
theorem qy8  : ∀ b a p2,q6a b a p2 = q1h qO b a p2:=fun b a p2=>(congrFun (congrFun (congrFun qy7 b) a) p2)
theorem qxd : (fun p2 a=>q5u p2 a) = (fun p2 a=>Ul p2 a qO):=by
  funext p2 a a667;simp only [q5u,Ul,Jc,Je,qn,J4]
  all_goals exact Qx
theorem qxe  : ∀ p2 a,q5u p2 a = Ul p2 a qO:=fun p2 a=>(congrFun (congrFun qxd p2) a)
theorem qxf : q8s = Um qO:=by
  funext a822;simp only [q8s,Um,Jc,Je,qn,J4]
  all_goals exact Qx
theorem qxg : (fun p2 a=>q5v p2 a) = (fun p2 a=>Un p2 qO a):=by
  funext p2 a a912;simp only [q5v,Un,Jc,Je,qn,J4]
  all_goals exact Qx
theorem qxh  : ∀ p2 a,q5v p2 a = Un p2 qO a:=fun p2 a=>(congrFun (congrFun qxg p2) a)
theorem qxb : (fun p2 a=>q3v p2 a) = (fun p2 a=>Zy p2 qO a):=by
  funext p2 a a432;have b : @q3v.match_1.{1} = @Zy.match_1.{1} Int:=by funext motive m f g;cases m <;> rfl
  unfold q3v Zy;rw [b];simp only [qxe,qxf,qxh]
  all_goals repeat' first | with_reducible rfl | (congr 1) | funext _
  done
theorem qxc  : ∀ p2 a,q3v p2 a = Zy p2 qO a:=fun p2 a=>(congrFun (congrFun qxb p2) a)
theorem qx9 : (fun b a p2=>q3u b a p2) = (fun b a p2=>U5 qO b a p2):=by
  funext b a p2;have c : @q3u.match_1.{1} = @U5.match_1.{1} Int:=by funext motive m f g;cases m <;> rfl
  unfold q3u U5;rw [c];simp only [qxc]
  all_goals repeat' first | with_reducible rfl | (congr 1) | funext _
  done
theorem qxa  : ∀ b a p2,q3u b a p2 = U5 qO b a p2:=fun b a p2=>(congrFun (congrFun (congrFun qx9 b) a) p2)
theorem qxn : (fun a b=>q5y a b) = (fun a b=>Uo a b qO):=by
  funext a b a360;simp only [q5y,Uo,Jc,Je,qn,J4]
  all_goals exact Qx
theorem qxo  : ∀ a b,q5y a b = Uo a b qO:=fun a b=>(congrFun (congrFun qxn a) b)
theorem qxp : (fun a b c=>q5z a b c) = (fun a b c=>Up a b c qO):=by
  funext a b c a439;simp only [q5z,Up,Jc,Je,qn,J4]
  all_goals exact Qx
theorem qxq  : ∀ a b c,q5z a b c = Up a b c qO:=fun a b c=>(congrFun (congrFun (congrFun qxp a) b) c)
theorem qxl : (fun a=>q5x a) = (fun a=>q1f a qO):=by
  funext a a304;simp only [q5x,q1f,qxo,qxq]
  all_goals exact Qx
theorem qxm  : ∀ a,q5x a = q1f a qO:=fun a=>(congrFun qxl a)
theorem qxj : (fun b a p2 p3=>q5w b a p2 p3) = (fun b a p2 p3=>q1e qO b a p2 p3):=by
  funext b a p2 p3;simp only [q5w,q1e,qxm]
  all_goals exact Qx
theorem qxk  : ∀ b a p2 p3,q5w b a p2 p3 = q1e qO b a p2 p3:=fun b a p2 p3=>(congrFun (congrFun (congrFun (congrFun qxj b) a) p2) p3)
theorem qxs : (fun p2 c d b p3 a=>q61 p2 c d b p3 a) = (fun p2 c d b p3 a=>q2g p2 c d b p3 a qO):=by
  funext p2 c d b p3 a a159;simp only [q61,q2g,Jc,Je,qn,J4]
  all_goals exact Qx
theorem qxt  : ∀ p2 c d b p3 a,q61 p2 c d b p3 a = q2g p2 c d b p3 a qO:=fun p2 c d b p3 a=>(congrFun (congrFun (congrFun (congrFun (congrFun (congrFun qxs p2) c) d) b) p3) a)
theorem qxu : (fun a d f c p3 b=>q62 a d f c p3 b) = (fun a d f c p3 b=>q2h a d f c p3 b qO):=by
  funext a d f c p3 b a239;simp only [q62,q2h,Jc,Je,qn,J4]
  all_goals exact Qx
theorem qxv  : ∀ a d f c p3 b,q62 a d f c p3 b = q2h a d f c p3 b qO:=fun a d f c p3 b=>(congrFun (congrFun (congrFun (congrFun (congrFun (congrFun qxu a) d) f) c) p3) b)
theorem qxy : (fun a b=>q64 a b) = (fun a b=>J9 a b qO):=by
  funext a b a542;simp only [q64,J9,Jc,Je,qn,J4]
  all_goals exact Qx
theorem qxz  : ∀ a b,q64 a b = J9 a b qO:=fun a b=>(congrFun (congrFun qxy a) b)
theorem qy0 : (fun b a c=>q65 b a c) = (fun b a c=>Ja b a c qO):=by
  funext b a c a622;simp only [q65,Ja,Jc,Je,qn,J4]
  all_goals exact Qx
theorem qy1  : ∀ b a c,q65 b a c = Ja b a c qO:=fun b a c=>(congrFun (congrFun (congrFun qy0 b) a) c)
theorem qxw : (fun a=>q63 a) = (fun a=>q1g a qO):=by
  funext a a488;simp only [q63,q1g,qxz,qy1]
  all_goals exact Qx
theorem qxx  : ∀ a,q63 a = q1g a qO:=fun a=>(congrFun qxw a)
theorem qxi : (fun b a p2 p3=>q60 b a p2 p3) = (fun b a p2 p3=>q1d qO b a p2 p3):=by
  funext b a p2 p3;simp only [q60,q1d,qxt,qxv,qxx]
  all_goals exact Qx
theorem qxr  : ∀ b a p2 p3,q60 b a p2 p3 = q1d qO b a p2 p3:=fun b a p2 p3=>(congrFun (congrFun (congrFun (congrFun qxi b) a) p2) p3)
theorem qy3 : (fun a=>q3w a) = (fun a=>Zq qO a):=by
  funext a a305;have b : @q3w.match_1.{1} = @Zq.match_1.{1} Int:=by funext motive m f g;cases m <;> rfl
  unfold q3w Zq;rw [b];simp only [qwx,qwr,qwl,qwp,qy8,qxa,qxk,qxr,Jc,Je,qn,J4]
  all_goals repeat' first | with_reducible rfl | (congr 1) | funext _
  done
theorem qy4  : ∀ a,q3w a = Zq qO a:=fun a=>(congrFun qy3 a)
theorem qy5 : (fun a c b p2 p3=>q3x a c b p2 p3) = (fun a c b p2 p3=>Uq a qO c b p2 p3):=by
  funext a c b p2 p3;simp only [q3x,Uq,qy4]
  all_goals exact Qx
theorem qy6  : ∀ a c b p2 p3,q3x a c b p2 p3 = Uq a qO c b p2 p3:=fun a c b p2 p3=>(congrFun (congrFun (congrFun (congrFun (congrFun qy5 a) c) b) p2) p3)
theorem qy2 : ∀ N,q69 N = Zh N qO:=by
  intro N
  induction N with
  | zero=>rfl
  | succ N ih=>
    funext a b c d;show q3x (q69 N) a b c d = Uq (Zh N qO) qO a b c d;rw [ih,qy6]
theorem qwi : (fun a=>U0 a) = (fun a=>q2b qO a):=by
  funext a;simp only [U0,q2b,qlc,qy2]
  all_goals exact Qx
theorem qwj  : ∀ a,U0 a = q2b qO a:=fun a=>(congrFun qwi a)
end Go.Sh
