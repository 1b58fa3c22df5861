/- Pg4 Pg5 Pg6 Pj1 Pj2 Pl4 Pj3 St1 -/
import Derived.Test.YtgkialgkmjnfbaaGreatK11
namespace Go.Sh
open Go Go.Am
section
variable {T : Type} [Inhabited T] {P : T→Prop} {lt : T→T→Bool} {q : T→T→Option Int}
theorem qhj {f : Int→Option (Int ⊕ Int)} (p : T→Bool) (d : Array T) (j : Nat)
    (b : ∀ k : Nat,k≤1000002→f (k : Int) = if (decide (k≤j) && p d[k]!) = true then some (.inl ((k + 1 : Nat) : Int)) else some (.inr (k : Int))) (g : j≤1000000) :
    ∀ (m i : Nat),j + 1 - i = m→i≤1000002→loop f (i : Int) = some ((Sort.scanUp p d j i : Nat) : Int):=by
  intro m
  induction m with
  | zero=>
    intro i c hi;unfold Sort.scanUp;have a : ¬ (decide (i≤j) && p d[i]!) = true:=by simp;omega
    rw [Q3 a];exact Ki (by rw [b i hi,Q3 a])
  | succ m ih=>
    intro i c hi;unfold Sort.scanUp;by_cases a : (decide (i≤j) && p d[i]!) = true
    · rw [Q0 a,Kg (by rw [b i hi,Q0 a])];exact ih (i + 1) q7 q7
    · rw [Q3 a];exact Ki (by rw [b i hi,Q3 a])
theorem qe4 {f : Int→Option (Int ⊕ Int)} (p : T→Bool) (d : Array T) (i n : Nat) (hi : 1≤i)
    (b : ∀ k : Nat,k < n→f (k : Int) = if (decide (i≤k) && p d[k]!) = true then some (.inl ((k - 1 : Nat) : Int)) else some (.inr (k : Int))) :
    ∀ (j : Nat),j < n→loop f (j : Int) = some ((Sort.scanDown p d i j : Nat) : Int)
  | 0,hj=>by
    have a : ¬ (decide (i≤0) && p d[0]!) = true:=by simp;omega
    exact Ki (by rw [b 0 hj,Q3 a];rfl)
  | j + 1,hj=>by
    unfold Sort.scanDown
    by_cases a : (decide (i≤j + 1) && p d[j + 1]!) = true
    · rw [Q0 a,Kg (by rw [b (j + 1) hj,Q0 a])]
      exact qe4 p d i n hi b j q7
    · rw [Q3 a]
      exact Ki (by rw [b (j + 1) hj,Q3 a])
theorem qn1 (b : Y5 q lt P) {n : Nat} {d : Array T} (hd : AllP n P d) {a j : Nat} (c : a < n) (m : j < n) (x : Int) (k : Nat) (hk : k≤1000002) :
    Jc (x,(j : Int),d.toList) (a : Int) q (k : Int) = if (decide (k≤j) && (fun x=>lt x d[a]!) d[k]!) = true then some (.inl ((k + 1 : Nat) : Int)) else some (.inr (k : Int)):=by
  have l:=hd.1;by_cases h : k≤j
  · obtain ⟨r,g,f⟩:=b d[k]! d[a]! (hd.2.2 _ q7) (hd.2.2 _ c);have t : decide ((k : Int)≤(j : Int)) = true:=Q2 q7;simp only [Jc,t,Q1,gx (d:=d) (k:=k) q7,gx (d:=d) (k:=a) q7,qn,g,f,w1p k q7];simp only [Q2 h,Bool.true_and,Bool.cond_eq_ite]
  · have t : decide ((k : Int)≤(j : Int)) = false:=Q4 q7;simp only [Jc,t,qz,qn];simp [h]
theorem qn2 (c : Y5 q lt P) {n : Nat} {d : Array T} (hd : AllP n P d) {a i : Nat} (f : a < n) (hi : 1≤i) (x y : Int) (k : Nat) (hk : k < n) :
    Jd (i : Int) (x,y,d.toList) (a : Int) q (k : Int) = if (decide (i≤k) && (fun x=>!lt x d[a]!) d[k]!) = true then some (.inl ((k - 1 : Nat) : Int)) else some (.inr (k : Int)):=by
  have j:=hd.1;have l:=hd.2.1;by_cases h : i≤k
  · obtain ⟨r,g,b⟩:=c d[k]! d[a]! (hd.2.2 _ q7) (hd.2.2 _ f);have t : decide ((i : Int)≤(k : Int)) = true:=Q2 q7;have w : w64 ((k : Int) - 1) = ((k - 1 : Nat) : Int):=by rw [Qb q7];omega
    simp only [Jd,t,Q1,gx (d:=d) (k:=k) q7,gx (d:=d) (k:=a) q7,qn,g,b,w];simp only [Q2 h,Bool.true_and,Bool.cond_eq_ite]
  · have t : decide ((i : Int)≤(k : Int)) = false:=Q4 q7;simp only [Jd,t,qz,qn];simp [h]
theorem qxm (b : Y5 q lt P) {n : Nat} {d : Array T} (hd : AllP n P d) {a j : Nat} (c : a < n) (m : j < n) (x : Int) (k : Nat) (hk : k≤1000002) :
    Up (x,(j : Int),d.toList) (a : Int) q (k : Int) = if (decide (k≤j) && (fun x=>!lt d[a]! x) d[k]!) = true then some (.inl ((k + 1 : Nat) : Int)) else some (.inr (k : Int)):=by
  have l:=hd.1;by_cases h : k≤j
  · obtain ⟨r,g,f⟩:=b d[a]! d[k]! (hd.2.2 _ c) (hd.2.2 _ q7);have t : decide ((k : Int)≤(j : Int)) = true:=Q2 q7;simp only [Up,t,Q1,gx (d:=d) (k:=k) q7,gx (d:=d) (k:=a) q7,qn,g,f,w1p k q7];simp only [Q2 h,Bool.true_and,Bool.cond_eq_ite]
  · have t : decide ((k : Int)≤(j : Int)) = false:=Q4 q7;simp only [Up,t,qz,qn];simp [h]
theorem qxn (c : Y5 q lt P) {n : Nat} {d : Array T} (hd : AllP n P d) {a i : Nat} (f : a < n) (hi : 1≤i) (x y : Int) (k : Nat) (hk : k < n) :
    Uq (i : Int) (x,y,d.toList) (a : Int) q (k : Int) = if (decide (i≤k) && (fun x=>lt d[a]! x) d[k]!) = true then some (.inl ((k - 1 : Nat) : Int)) else some (.inr (k : Int)):=by
  have j:=hd.1;have l:=hd.2.1;by_cases h : i≤k
  · obtain ⟨r,g,b⟩:=c d[a]! d[k]! (hd.2.2 _ f) (hd.2.2 _ q7);have t : decide ((i : Int)≤(k : Int)) = true:=Q2 q7;have w : w64 ((k : Int) - 1) = ((k - 1 : Nat) : Int):=by rw [Qb q7];omega
    simp only [Uq,t,Q1,gx (d:=d) (k:=k) q7,gx (d:=d) (k:=a) q7,qn,g,b,w];simp only [Q2 h,Bool.true_and,Bool.cond_eq_ite]
  · have t : decide ((i : Int)≤(k : Int)) = false:=Q4 q7;simp only [Uq,t,qz,qn];simp [h]
theorem qxh (o : Y5 q lt P) (a n : Nat) (r : a < n) : ∀ (m i j : Nat) (d : Array T),j + 1 - i = m→AllP n P d→1≤i→i≤n + 1→j < n→
    loop (q1i (a : Int) q) ((i : Int),(j : Int),d.toList) = some (((Sort.partLoop lt a i j d).1 : Int),(Sort.partLoop lt a i j d).2.toList)∧AllP n P (Sort.partLoop lt a i j d).2∧(Sort.partLoop lt a i j d).1 < n:=by
  intro m
  induction m using Nat.strongRecOn with
  | _ m ih=>
    intro i j d hm hd hi v p;have z:=hd.1;have hn:=hd.2.1;rw [Sort.partLoop_eq];have s1:=qhj (f:=Jc ((i : Int),(j : Int),d.toList) (a : Int) q) (fun x=>lt x d[a]!) d j (fun k hk=>qn1 o hd r p _ k hk) q7 _ i rfl q7;have g1:=Sort.scanUp_ge (fun x=>lt x d[a]!) d j i;have y:=(Sort.scanUp_spec (fun x=>lt x d[a]!) d j _ i rfl).2.1;generalize Sort.scanUp (fun x=>lt x d[a]!) d j i = c at s1 g1 y ⊢;have l:=qe4 (f:=Jd (c : Int) ((i : Int),(j : Int),d.toList) (a : Int) q) (fun x=>!lt x d[a]!) d c n q7 (fun k hk=>qn2 o hd r q7 _ _ k hk) j p;have u:=Sort.scanDown_le (fun x=>!lt x d[a]!) d c j;generalize Sort.scanDown (fun x=>!lt x d[a]!) d c j = g at l u ⊢;by_cases s : c > g
    · rw [Q0 s];have t : decide ((c : Int) > (g : Int)) = true:=Q2 q7;refine ⟨Ki ?_,hd,by show g < n;omega⟩;simp only [q1i,s1,l,qn,t,Q1]
    · rw [Q3 s];have t : decide ((c : Int) > (g : Int)) = false:=Q4 q7;have h:=ih ((g - 1) + 1 - (c + 1)) q7 (c + 1) (g - 1) _ rfl (hd.swp (a:=c) (b:=g) q7 q7) q7 q7 q7;refine ⟨?_,h.2⟩;rw [Kg (a':=(((c + 1 : Nat) : Int),((g - 1 : Nat) : Int),(Sort.swp d c g).toList)) ?_]
      · exact h.1
      · have w : w64 ((g : Int) - 1) = ((g - 1 : Nat) : Int):=by rw [Qb q7];omega
        simp only [q1i,s1,l,qn,t,qz,gx (d:=d) (k:=c) q7,gx (d:=d) (k:=g) q7,gxs (d:=d) (k:=g) q7,Int.toNat_natCast,gswp,w,w1p c q7]
theorem qxg (l : Y5 q lt P) (a n : Nat) (p : a < n) : ∀ (m i j : Nat) (d : Array T),j + 1 - i = m→AllP n P d→1≤i→i≤n + 1→j < n→
    loop (q1h (a : Int) q) ((i : Int),(j : Int),d.toList) = some (((Sort.partEqLoop lt a i j d).1 : Int),(Sort.partEqLoop lt a i j d).2.toList):=by
  intro m
  induction m using Nat.strongRecOn with
  | _ m ih=>
    intro i j d hm hd hi u o;have y:=hd.1;have hn:=hd.2.1;rw [Sort.partEqLoop_eq];have s1:=qhj (f:=Up ((i : Int),(j : Int),d.toList) (a : Int) q) (fun x=>!lt d[a]! x) d j (fun k hk=>qxm l hd p o _ k hk) q7 _ i rfl q7;have z:=Sort.scanUp_ge (fun x=>!lt d[a]! x) d j i;have v:=(Sort.scanUp_spec (fun x=>!lt d[a]! x) d j _ i rfl).2.1;generalize Sort.scanUp (fun x=>!lt d[a]! x) d j i = c at s1 z v ⊢;have h:=qe4 (f:=Uq (c : Int) ((i : Int),(j : Int),d.toList) (a : Int) q) (fun x=>lt d[a]! x) d c n q7 (fun k hk=>qxn l hd p q7 _ _ k hk) j o;have s:=Sort.scanDown_le (fun x=>lt d[a]! x) d c j;generalize Sort.scanDown (fun x=>lt d[a]! x) d c j = g at h s ⊢;by_cases r : c > g
    · rw [Q0 r];have t : decide ((c : Int) > (g : Int)) = true:=Q2 q7;refine Ki ?_;simp only [q1h,s1,h,qn,t,Q1]
    · rw [Q3 r];have t : decide ((c : Int) > (g : Int)) = false:=Q4 q7;rw [Kg (a':=(((c + 1 : Nat) : Int),((g - 1 : Nat) : Int),(Sort.swp d c g).toList)) ?_]
      · exact ih ((g - 1) + 1 - (c + 1)) q7 (c + 1) (g - 1) _ rfl (hd.swp (a:=c) (b:=g) q7 q7) q7 q7 q7
      · have w : w64 ((g : Int) - 1) = ((g - 1 : Nat) : Int):=by rw [Qb q7];omega
        simp only [q1h,s1,h,qn,t,qz,gx (d:=d) (k:=c) q7,gx (d:=d) (k:=g) q7,gxs (d:=d) (k:=g) q7,Int.toNat_natCast,gswp,w,w1p c q7]
theorem qxj (c : Y5 q lt P) {a b n p : Nat} (hb : b≤n) (f : a < b) (hp : p < n) {d : Array T} (hd : AllP n P d) :
    q1g q d.toList (a : Int) (b : Int) (p : Int) = some (((Sort.partitionEqual lt d a b p).1 : Int),(Sort.partitionEqual lt d a b p).2.toList):=by
  have g:=hd.1;have h:=hd.2.1;have w : w64 ((b : Int) - 1) = ((b - 1 : Nat) : Int):=by rw [Qb q7];omega
  have s:=qxg c a n q7 _ (a + 1) (b - 1) _ rfl (hd.swp (a:=a) (b:=p) q7 hp) q7 q7 q7;unfold q1g Sort.partitionEqual;simp only [gx (d:=d) (k:=p) q7,gx (d:=d) (k:=a) q7,gxs (d:=d) (k:=p) q7,qn,Int.toNat_natCast,gswp,w,w1p a q7,s]
theorem qxk (j : Y5 q lt P) {a b n p : Nat} (hb : b≤n) (r : a < b) (hp : p < n) {d : Array T} (hd : AllP n P d) :
    q1f q d.toList (a : Int) (b : Int) (p : Int) = some (((Sort.partition lt d a b p).1 : Int),(Sort.partition lt d a b p).2.1,(Sort.partition lt d a b p).2.2.toList):=by
  have z:=hd.1;have hn:=hd.2.1;have w : w64 ((b : Int) - 1) = ((b - 1 : Nat) : Int):=by rw [Qb q7];omega
  have h:=hd.swp (a:=a) (b:=p) q7 hp
  have e1 : q29 (b : Int) d.toList (a : Int) d[p]! (p : Int) d[a]! q = Jc ((0 : Int),((b - 1 : Nat) : Int),(Sort.swp d a p).toList) (a : Int) q:=by
    funext k;simp only [q29,Jc,w,Int.toNat_natCast,gswp]
  have y : ∀ c : Int,q2a c d.toList (a : Int) d[p]! (p : Int) d[a]! q = Jd c ((0 : Int),(0 : Int),(Sort.swp d a p).toList) (a : Int) q:=by
    intro c;funext k;simp only [q2a,Jd,Int.toNat_natCast,gswp]
  unfold q1f Sort.partition;simp only [gx (d:=d) (k:=p) q7,gx (d:=d) (k:=a) q7,gxs (d:=d) (k:=p) q7,qn,e1,y,Int.toNat_natCast,gswp,w,w1p a q7];generalize Sort.swp d a p = D at h ⊢;have ab:=h.1;have s1:=qhj (f:=Jc ((0 : Int),((b - 1 : Nat) : Int),D.toList) (a : Int) q) (fun x=>lt x D[a]!) D (b - 1) (fun k hk=>qn1 j h q7 q7 _ k hk) q7 _ (a + 1) rfl q7;have g1:=Sort.scanUp_ge (fun x=>lt x D[a]!) D (b - 1) (a + 1);generalize Sort.scanUp (fun x=>lt x D[a]!) D (b - 1) (a + 1) = c at s1 g1 ⊢;have l:=qe4 (f:=Jd (c : Int) ((0 : Int),(0 : Int),D.toList) (a : Int) q) (fun x=>!lt x D[a]!) D c n q7 (fun k hk=>qn2 j h q7 q7 _ _ k hk) (b - 1) q7;have u:=Sort.scanDown_le (fun x=>!lt x D[a]!) D c (b - 1);generalize Sort.scanDown (fun x=>!lt x D[a]!) D c (b - 1) = g at l u ⊢;simp only [s1,l,qn];by_cases o : c > g
  · have t : decide ((c : Int) > (g : Int)) = true:=Q2 q7;simp only [Q0 o,t,Q1,gx (d:=D) (k:=a) q7,gx (d:=D) (k:=g) q7,gxs (d:=D) (k:=a) q7,qn,Int.toNat_natCast,gswp]
  · have t : decide ((c : Int) > (g : Int)) = false:=Q4 q7;have w2 : w64 ((g : Int) - 1) = ((g - 1 : Nat) : Int):=by rw [Qb q7];omega
    obtain ⟨s3,m,s⟩:=qxh j a n q7 _ (c + 1) (g - 1) _ rfl (h.swp (a:=c) (b:=g) q7 q7) q7 q7 q7;simp only [Q3 o,t,qz,gx (d:=D) (k:=c) q7,gx (d:=D) (k:=g) q7,gxs (d:=D) (k:=g) q7,qn,Int.toNat_natCast,gswp,w2,w1p c q7,s3];generalize Sort.partLoop lt a (c + 1) (g - 1) (Sort.swp D c g) = R at m s ⊢;have v:=m.1;simp only [gx (d:=R.2) (k:=a) q7,gx (d:=R.2) (k:=R.1) q7,gxs (d:=R.2) (k:=a) q7,qn,gswp]
theorem q104 (l : Y5 q lt P) {b n : Nat} (hb : b≤n) {d : Array T} (hd : AllP n P d) (x y : Int) : ∀ (m i : Nat),b - i = m→1≤i→i≤b→
    loop (Un (b : Int) (x,y,d.toList) q) (i : Int) = some ((Sort.scanSorted lt d b i : Nat) : Int)∧i≤Sort.scanSorted lt d b i∧Sort.scanSorted lt d b i≤b:=by
  have o:=hd.1;have p:=hd.2.1;intro m
  induction m with
  | zero=>
    intro i j hi a;unfold Sort.scanSorted;rw [Q3 (by simp;omega)];have t : decide ((i : Int) < (b : Int)) = false:=Q4 q7;exact ⟨Ki (by simp only [Un,t,qz,qn]),Nat.le_refl _,a⟩
  | succ m ih=>
    intro i j hi a;unfold Sort.scanSorted;have t : decide ((i : Int) < (b : Int)) = true:=Q2 q7;have w : w64 ((i : Int) - 1) = ((i - 1 : Nat) : Int):=by rw [Qb q7];omega
    obtain ⟨r,h,g⟩:=l d[i]! d[i - 1]! (hd.2.2 _ q7) (hd.2.2 _ q7);by_cases c : lt d[i]! d[i - 1]! = true
    · rw [Q3 (by simp [c])];refine ⟨Ki ?_,Nat.le_refl _,a⟩;simp only [Un,t,Q1,w,gx (d:=d) (k:=i) q7,gx (d:=d) (k:=i - 1) q7,qn,h,g,c,Bool.not_true,qz]
    · have c : lt d[i]! d[i - 1]! = false:=by simpa using c
      rw [Q0 (by simp [c];omega)];have f:=ih (i + 1) q7 q7 q7;refine ⟨?_,q7,f.2.2⟩;rw [Kg (a':=((i + 1 : Nat) : Int)) ?_]
      · exact f.1
      · simp only [Un,t,Q1,w,gx (d:=d) (k:=i) q7,gx (d:=d) (k:=i - 1) q7,qn,h,g,c,Bool.not_false,w1p i q7]
theorem qof (g : Y5 q lt P) (n : Nat) : ∀ (j : Nat) (d : Array T),AllP n P d→j < n→loop (U3 q) ((j : Int),d.toList) = some (Sort.shiftDown lt j d).toList∧AllP n P (Sort.shiftDown lt j d)
  | 0,d,hd,hj=>by
    have t : decide (((0 : Nat) : Int) ≥ 1) = false:=Q4 q7
    exact ⟨Ki (by simp only [U3,t,qz];rfl),hd⟩
  | j + 1,d,hd,hj=>by
    have m:=hd.1
    have o:=hd.2.1
    have t : decide (((j + 1 : Nat) : Int) ≥ 1) = true:=Q2 q7
    obtain ⟨r,l,f⟩:=g d[j + 1]! d[j]! (hd.2.2 _ hj) (hd.2.2 _ q7)
    unfold Sort.shiftDown
    by_cases c : lt d[j + 1]! d[j]! = true
    · rw [Q3 (by simp [c])]
      have h:=qof g n j _ (hd.swp (a:=j + 1) (b:=j) hj q7) q7
      refine ⟨?_,h.2⟩
      rw [Kg (a':=((j : Int),(Sort.swp d (j + 1) j).toList)) ?_]
      · exact h.1
      · simp only [U3,t,Q1,gx (d:=d) (k:=j + 1) q7,w1m j q7,gx (d:=d) (k:=j) q7,gxs (d:=d) (k:=j) q7,qn,l,f,c,Bool.not_true,qz,Int.toNat_natCast,gswp]
    · have c : lt d[j + 1]! d[j]! = false:=by simpa using c
      rw [Q0 (by simp [c])]
      refine ⟨Ki ?_,hd⟩
      simp only [U3,t,Q1,gx (d:=d) (k:=j + 1) q7,w1m j q7,gx (d:=d) (k:=j) q7,qn,l,f,c,Bool.not_false]
theorem qoh (p : Y5 q lt P) {b n : Nat} (hb : b≤n) (c : Int) : ∀ (m j : Nat) (d : Array T),b - j = m→AllP n P d→1≤j→loop (Uo (b : Int) q c) ((j : Int),d.toList) = some (c,(Sort.shiftUp lt b j d).toList)∧AllP n P (Sort.shiftUp lt b j d):=by
  intro m
  induction m with
  | zero=>
    intro j d o hd s;unfold Sort.shiftUp;rw [Q3 q7];have t : decide ((j : Int) < (b : Int)) = false:=Q4 q7;exact ⟨Ki (by simp only [Uo,t,qz]),hd⟩
  | succ m ih=>
    intro j d o hd s;have u:=hd.1;have v:=hd.2.1;unfold Sort.shiftUp;rw [Q0 q7];have t : decide ((j : Int) < (b : Int)) = true:=Q2 q7;have w : w64 ((j : Int) - 1) = ((j - 1 : Nat) : Int):=by rw [Qb q7];omega
    obtain ⟨r,l,h⟩:=p d[j]! d[j - 1]! (hd.2.2 _ q7) (hd.2.2 _ q7);by_cases f : lt d[j]! d[j - 1]! = true
    · rw [Q3 (by simp [f])];have g:=ih (j + 1) _ q7 (hd.swp (a:=j) (b:=j - 1) q7 q7) q7;refine ⟨?_,g.2⟩;rw [Kg (a':=(((j + 1 : Nat) : Int),(Sort.swp d j (j - 1)).toList)) ?_]
      · exact g.1
      · simp only [Uo,t,Q1,w,gx (d:=d) (k:=j) q7,gx (d:=d) (k:=j - 1) q7,gxs (d:=d) (k:=j - 1) q7,qn,l,h,f,Bool.not_true,qz,Int.toNat_natCast,gswp,w1p j q7]
    · have f : lt d[j]! d[j - 1]! = false:=by simpa using f
      rw [Q0 (by simp [f])];refine ⟨Ki ?_,hd⟩;simp only [Uo,t,Q1,w,gx (d:=d) (k:=j) q7,gx (d:=d) (k:=j - 1) q7,qn,l,h,f,Bool.not_false]
theorem qn4 (j : Y5 q lt P) {a b n : Nat} (hb : b≤n) : ∀ (s i : Nat) (d : Array T),s≤5→AllP n P d→a < i→i≤b→
    ∃ m,loop (Zv (b : Int) q (a : Int)) ((i : Int),((5 - s : Nat) : Int),d.toList) = some m∧(match m with | .inl b441=>some (false,b441) | .inr x1=>some x1) = some ((Sort.partialIns lt a b s i d).2,(Sort.partialIns lt a b s i d).1.toList)
  | 0,i,d,hs,hd,hi,hib=>by
    have t : decide (((5 - 0 : Nat) : Int) < 5) = false:=Q4 q7
    refine ⟨.inl d.toList,Ki (by simp only [Zv,t,qz]),rfl⟩
  | s + 1,i,d,hs,hd,hi,hib=>by
    have ac:=hd.1
    have hn:=hd.2.1
    have t : decide (((5 - (s + 1) : Nat) : Int) < 5) = true:=Q2 q7
    rw [Sort.partialIns_succ]
    obtain ⟨s1,l1,w⟩:=q104 j hb hd (i : Int) ((5 - (s + 1) : Nat) : Int) _ i rfl q7 hib
    generalize Sort.scanSorted lt d b i = k at s1 l1 w ⊢
    by_cases hk : k = b
    · subst hk
      rw [Q0 rfl]
      refine ⟨.inr (true,d.toList),Ki ?_,rfl⟩
      simp only [Zv,t,Q1,s1,qn,beq_self_eq_true]
    · rw [Q3 hk]
      have v : ((k : Int) == (b : Int)) = false:=by simp;omega
      have e0 : w64 ((b : Int) - (a : Int)) = ((b - a : Nat) : Int):=wsub q7 q7
      by_cases o : b - a < 50
      · rw [Q0 o]
        have g : decide (((b - a : Nat) : Int) < 50) = true:=Q2 q7
        refine ⟨.inr (false,d.toList),Ki ?_,rfl⟩
        simp only [Zv,t,Q1,s1,qn,v,qz,e0,g]
      · rw [Q3 o]
        have g : decide (((b - a : Nat) : Int) < 50) = false:=Q4 q7
        have wk : w64 ((k : Int) - 1) = ((k - 1 : Nat) : Int):=by rw [Qb q7];omega
        have wa : w64 ((k : Int) - (a : Int)) = ((k - a : Nat) : Int):=wsub q7 q7
        have wb : w64 ((b : Int) - (k : Int)) = ((b - k : Nat) : Int):=wsub q7 q7
        have l:=hd.swp (a:=k) (b:=k - 1) q7 q7
        have down : (cond (decide (((k - a : Nat) : Int) ≥ 2)) ((loop (U3 q) (((k - 1 : Nat) : Int),(Sort.swp d k (k - 1)).toList)).bind fun x0=>some x0) (some (Sort.swp d k (k - 1)).toList)) = some (Sort.fixDown lt a k (Sort.swp d k (k - 1))).toList∧AllP n P (Sort.fixDown lt a k (Sort.swp d k (k - 1))):=by
          unfold Sort.fixDown;by_cases h : k - a ≥ 2
          · have f : decide (((k - a : Nat) : Int) ≥ 2) = true:=Q2 q7;obtain ⟨x,y⟩:=qof j n (k - 1) _ l q7;rw [Q0 h,f,Q1,x];exact ⟨rfl,y⟩
          · have f : decide (((k - a : Nat) : Int) ≥ 2) = false:=Q4 q7;rw [Q3 h,f,qz];exact ⟨rfl,l⟩
        obtain ⟨dn,c⟩:=down
        have p : AllP n P (Sort.fixUp lt b k (Sort.fixDown lt a k (Sort.swp d k (k - 1)))):=by
          unfold Sort.fixUp;split
          · exact (qoh j hb 0 _ (k + 1) _ rfl c q7).2
          · exact c
        obtain ⟨m,r,u⟩:=qn4 (a:=a) j hb s k _ q7 p q7 w
        refine ⟨m,?_,u⟩
        rw [Kg (a':=((k : Int),((5 - s : Nat) : Int),(Sort.fixUp lt b k (Sort.fixDown lt a k (Sort.swp d k (k - 1)))).toList)) ?_]
        · exact r
        · have z : w64 (((5 - (s + 1) : Nat) : Int) + 1) = ((5 - s : Nat) : Int):=by rw [Qb q7];omega
          simp only [Zv,t,Q1,s1,qn,v,qz,e0,g,wk,gx (d:=d) (k:=k) q7,gx (d:=d) (k:=k - 1) q7,gxs (d:=d) (k:=k - 1) q7,Int.toNat_natCast,gswp,wa,dn,wb,w1p k q7]
          unfold Sort.fixUp
          by_cases h : b - k ≥ 2
          · have f : decide (((b - k : Nat) : Int) ≥ 2) = true:=Q2 q7
            obtain ⟨x,y⟩:=qoh j hb (k : Int) _ (k + 1) _ rfl c q7
            rw [Q0 h,f,Q1,x]
            simp only [qn,z]
          · have f : decide (((b - k : Nat) : Int) ≥ 2) = false:=Q4 q7
            rw [Q3 h,f,qz]
            simp only [qn,z]
theorem qxi (f : Y5 q lt P) {a b n : Nat} (hb : b≤n) (h : a < b) {d : Array T} (hd : AllP n P d) :
    Jn q d.toList (a : Int) (b : Int) = some ((Sort.partialInsertionSort lt d a b).2,(Sort.partialInsertionSort lt d a b).1.toList):=by
  have j:=hd.2.1;obtain ⟨m,c,g⟩:=qn4 (a:=a) f hb 5 (a + 1) d q7 hd q7 q7;have c : loop (Zv (b : Int) q (a : Int)) (((a + 1 : Nat) : Int),0,d.toList) = some m:=c;unfold Jn Sort.partialInsertionSort;rw [w1p a q7,c];exact g
end
end Go.Sh
namespace Go.Sh
open Go Go.Am
theorem qlk {α β : Type} {f : α→Option (α ⊕ β)} {a : α} (h : f a = none) : loop f a = none:=by
  apply Option.ext;intro b;rw [q8a];constructor
  · rintro ⟨n,c⟩
    cases n with
    | zero=>simp [iter] at c
    | succ n=>simp [iter,h] at c
  · intro h;cases h
section
variable {T : Type} [Inhabited T] {P : T→Prop} {lt : T→T→Bool} {q : T→T→Option Int}
def Srt (lt : T→T→Bool) (a b : Nat) (d : Array T) (o : Option (List T)) : Prop:=∃ d' : Array T,o = some d'.toList∧Sort.PermIn a b d d'∧Sort.SortedIn lt a b d'
theorem qxl (hq : Y5 q lt P) (hS : Sort.SWO lt) {n N : Nat} (af : List T→Int→Int→Int→Option (List T))
    (am : ∀ (a b f : Nat) (d : Array T),AllP n P d→a≤b→b≤n→f≤1000→Sort.Below lt a b d→Srt lt a b d (af d.toList (a : Int) (b : Int) (f : Int))∨(N≤b - a∧af d.toList (a : Int) (b : Int) (f : Int) = none)) :
    ∀ (m a b f : Nat) (wb wp : Bool) (d : Array T),b - a = m→AllP n P d→a≤b→b≤n→f≤1000→Sort.Below lt a b d→
      Srt lt a b d (loop (Zk q af) ((a : Int),(b : Int),(f : Int),wb,wp,d.toList))∨(N + 1≤b - a∧loop (Zk q af) ((a : Int),(b : Int),(f : Int),wb,wp,d.toList) = none):=by
  intro m
  induction m using Nat.strongRecOn with
  | _ m ih=>
    intro a b f wb wp d hm hd o hb hl hB;have cz:=hd.1;have hn:=hd.2.1;have e0 : w64 ((b : Int) - (a : Int)) = ((b - a : Nat) : Int):=wsub o q7;by_cases cy : b - a≤12
    ·
      have t : decide (((b - a : Nat) : Int)≤12) = true:=Q2 q7;obtain ⟨x,y⟩:=Sort.insertionSort_holds (lt:=lt) hS d a b o q7;have s:=qu4 hq hb o hd;refine .inl ⟨_,Ki ?_,x,y⟩;simp only [Zk,e0,t,Q1,s,qn,Us hd (hd.perm o hb x)]
    have bm : decide (((b - a : Nat) : Int)≤12) = false:=Q4 q7;by_cases h0 : f = 0
    ·
      have t : ((f : Int) == 0) = true:=by simp [h0]
      obtain ⟨x,y⟩:=Sort.heapSort_holds (lt:=lt) hS d a b o q7;have s:=qtx hq hb (by omega : a < b) hd;refine .inl ⟨_,Ki ?_,x,y⟩;simp only [Zk,e0,bm,qz,t,Q1,s,qn,Us hd (hd.perm o hb x)]
    have t0 : ((f : Int) == 0) = false:=by simp [h0]
    have hA : ∃ (l1 : Nat) (d1 : Array T),(cond (!wb) ((q1b q d.toList (a : Int) (b : Int)).bind fun ba=>(K0 ba.length d.toList.length).bind fun cr=>some (w64 ((f : Int) - 1),ba)) (some ((f : Int),d.toList))) = some ((l1 : Int),d1.toList)∧l1≤1000∧AllP n P d1∧Sort.PermIn a b d d1:=by
      cases wb with
      | true=>exact ⟨f,d,rfl,hl,hd,Sort.permIn_refl _ _ _⟩
      | false=>
        have x:=Sort.breakPatterns_holds d a b o q7;have z:=hd.perm o hb x;have w : w64 ((f : Int) - 1) = ((f - 1 : Nat) : Int):=by rw [Qb q7];omega
        refine ⟨f - 1,_,?_,q7,z,x⟩;simp only [Bool.not_false,Q1,qq2 (q:=q) hb (by omega : a < b) hd,qn,Us hd z,w]
    obtain ⟨l1,d1,eA,an,z,p1⟩:=hA;have hC:=qr3 hq z (by omega : a < b) hb;obtain ⟨c1,c2⟩:=Sort.choosePivot_holds lt d1 a b q7;generalize (Sort.choosePivot lt d1 a b).1 = c at hC c1 c2;generalize qg4 (Sort.choosePivot lt d1 a b).2 = h at hC
    have hR : ∃ (p : Nat) (h2 : Int) (d2 : Array T),(cond (h == 2) ((q1j q d1.toList (a : Int) (b : Int)).bind fun bd=>(K0 bd.length d1.toList.length).bind fun co=>some (w64 ((w64 ((b : Int) - 1)) - (w64 ((c : Int) - (a : Int)))),(1 : Int),bd)) (some ((c : Int),h,d1.toList))) = some ((p : Int),h2,d2.toList)∧a≤p∧p < b∧AllP n P d2∧Sort.PermIn a b d1 d2:=by
      cases hh : (h == 2) with
      | false=>exact ⟨c,h,d1,rfl,c1,c2,z,Sort.permIn_refl _ _ _⟩
      | true=>
        have x:=Sort.reverseRange_holds d1 a b o (by rw [z.1];exact hb);have ac:=z.perm o hb x;have w1 : w64 ((b : Int) - 1) = ((b - 1 : Nat) : Int):=by rw [Qb q7];omega
        have w2 : w64 ((c : Int) - (a : Int)) = ((c - a : Nat) : Int):=wsub c1 q7;have w3 : w64 (((b - 1 : Nat) : Int) - ((c - a : Nat) : Int)) = ((b - 1 - (c - a) : Nat) : Int):=wsub q7 q7;refine ⟨b - 1 - (c - a),1,_,?_,q7,q7,ac,x⟩;simp only [Q1,qzi (q:=q) hb (by omega : a < b) z,qn,Us z ac,w1,w2,w3]
    obtain ⟨p,h2,d2,eR,hp1,hp2,ac,p2⟩:=hR;have bv : Sort.Below lt a b d2:=(hB.perm q7 p1).perm (by rw [z.1];exact hb) p2;have bp:=Sort.permIn_trans _ _ _ a b p1 p2
    have hP : ∀ cc : Bool,∃ ab : (List T) ⊕ (List T),(cond cc ((Jn q d2.toList (a : Int) (b : Int)).bind fun ag=>(K0 ag.2.length d2.toList.length).bind fun cx=>cond ag.1 (some (.inr ag.2)) (some (.inl ag.2))) (some (.inl d2.toList)) : Option ((List T) ⊕ (List T))) = some ab∧
        ((∃ l : Array T,ab = .inr l.toList∧Sort.PermIn a b d2 l∧Sort.SortedIn lt a b l)∨(∃ l : Array T,ab = .inl l.toList∧AllP n P l∧Sort.PermIn a b d2 l)):=by
      intro cc
      cases cc with
      | false=>exact ⟨_,rfl,.inr ⟨d2,rfl,ac,Sort.permIn_refl _ _ _⟩⟩
      | true=>
        obtain ⟨x,y⟩:=Sort.partialInsertionSort_holds (lt:=lt) hS d2 a b q7 (by rw [ac.1];exact hb) bv;have u:=ac.perm o hb x;have s:=qxi hq hb (by omega : a < b) ac;simp only [Q1,s,qn,Us ac u]
        cases hz : (Sort.partialInsertionSort lt d2 a b).2 with
        | true=>exact ⟨_,rfl,.inl ⟨_,rfl,x,y hz⟩⟩
        | false=>exact ⟨_,rfl,.inr ⟨_,rfl,u,x⟩⟩
    obtain ⟨ab,eP,br⟩:=hP (wb && wp && (h2 == 1))
    have cl : ∀ {γ : Type} (X : Bool→Option γ),((cond wb (some wp) (some false)).bind fun bt=>(cond bt (some (h2 == 1)) (some false)).bind X) = X (wb && wp && (h2 == 1)):=by
      intro γ X;cases wb <;> cases wp <;> rfl
    have head : Zk q af ((a : Int),(b : Int),(f : Int),wb,wp,d.toList) = (match (generalizing:=false) ab with | .inl b377=>(cond (decide ((a : Int) > 0)) ((idx b377 (w64 ((a : Int) - 1))).bind fun av=>(idx b377 (p : Int)).bind fun ao=>(q av ao).bind fun ar=>some (!(decide (ar < 0)))) (some false)).bind fun bq=>cond bq ((q1g q b377 (a : Int) (b : Int) (p : Int)).bind fun al=>(K0 al.2.length b377.length).bind fun cw=>some (.inl (al.1,(b : Int),(l1 : Int),wb,wp,al.2))) ((q1f q b377 (a : Int) (b : Int) (p : Int)).bind fun g=>(K0 g.2.2.length b377.length).bind fun cn=>cond (decide ((w64 (g.1 - (a : Int))) < (w64 ((b : Int) - g.1)))) ((af g.2.2 (a : Int) g.1 (l1 : Int)).bind fun az=>(K0 az.length g.2.2.length).bind fun cu=>some (.inl (w64 (g.1 + 1),(b : Int),(l1 : Int),decide ((w64 (g.1 - (a : Int))) ≥ (w64 (Int.tdiv ((b - a : Nat) : Int) 8))),g.2.1,az))) ((af g.2.2 (w64 (g.1 + 1)) (b : Int) (l1 : Int)).bind fun bc=>(K0 bc.length g.2.2.length).bind fun ct=>some (.inl ((a : Int),g.1,(l1 : Int),decide ((w64 ((b : Int) - g.1)) ≥ (w64 (Int.tdiv ((b - a : Nat) : Int) 8))),g.2.1,bc)))) | .inr x1=>some (.inr x1)):=by
      simp only [Zk,e0,bm,qz,t0,eA,qn,hC,eR,cl,eP]
      all_goals (clear eP br hP am ih;cases ab <;> rfl)
    rcases br with ⟨l,rfl,x,y⟩ | ⟨l,rfl,u,p3⟩
    · refine .inl ⟨l,Ki ?_,Sort.permIn_trans _ _ _ a b bp x,y⟩;rw [head]
    have ax:=u.1;have P3:=Sort.permIn_trans _ _ _ a b bp p3;have B3 : Sort.Below lt a b l:=bv.perm (by rw [ac.1];exact hb) p3
    have bh : (cond (decide ((a : Int) > 0)) ((idx l.toList (w64 ((a : Int) - 1))).bind fun av=>(idx l.toList (p : Int)).bind fun ao=>(q av ao).bind fun ar=>some (!(decide (ar < 0)))) (some false)) = some (decide (a > 0) && !lt l[a - 1]! l[p]!):=by
      by_cases ha : a > 0
      · have ta : decide ((a : Int) > 0) = true:=Q2 q7;have w : w64 ((a : Int) - 1) = ((a - 1 : Nat) : Int):=by rw [Qb q7];omega
        obtain ⟨r,h1,h2⟩:=hq l[a - 1]! l[p]! (u.2.2 _ q7) (u.2.2 _ q7);simp only [ta,Q1,w,gx (d:=l) (k:=a - 1) q7,gx (d:=l) (k:=p) q7,qn,h1,h2,Q2 ha,Bool.true_and]
      · have ta : decide ((a : Int) > 0) = false:=Q4 q7;simp only [ta,qz,Q4 ha,Bool.false_and]
    simp only [bh,qn] at head;by_cases hc : (decide (a > 0) && !lt l[a - 1]! l[p]!) = true
    ·
      rw [hc] at head;have s:=qxj hq hb (by omega : a < b) (by omega : p < n) u;simp only [Bool.and_eq_true,decide_eq_true_eq,Bool.not_eq_true'] at hc
      cases hx : Sort.partitionEqual lt l a b p with
      | mk j d4=>
        obtain ⟨g1,g2,bz,cj,ad⟩:=Sort.round_eq hS (Sort.partitionEqual_holds lt) hc.1 hp1 hp2 (by rw [ax];exact hb) B3 hc.2 hx
        have cd : ∀ i,a≤i→i < b→lt l[i]! l[p]! = false:=fun i hi bx=>by
          rcases B3 with h0 | hB
          · omega
          · exact hS.ntrans _ _ _ (hB i hi bx) hc.2
        obtain ⟨_,_,v,_,_⟩:=Sort.partitionEqual_holds lt hS l a b p hp1 hp2 (by rw [ax];exact hb) cd;rw [hx] at v s;have aa:=u.perm o hb v;simp only [Q1,s,qn,Us u aa] at head;rw [Kg head];rcases ih (b - j) q7 j b l1 wb wp d4 rfl aa g2 hb an cj with ⟨R,r0,r1,r2⟩ | ⟨r1,r2⟩
        · obtain ⟨q1,q2⟩:=ad _ r1 r2;exact .inl ⟨R,r0,Sort.permIn_trans _ _ _ a b P3 q1,q2⟩
        · exact .inr ⟨q7,r2⟩
    ·
      have hc : (decide (a > 0) && !lt l[a - 1]! l[p]!) = false:=by simpa using hc
      rw [hc] at head;have s:=qxk hq hb (by omega : a < b) (by omega : p < n) u
      cases hx : Sort.partition lt l a b p with
      | mk j r=>
      cases r with
      | mk ap d4=>
        obtain ⟨g1,g2,bz,bw,cb,bg,ay⟩:=Sort.round_part hS (Sort.partition_holds lt) hp1 hp2 (by rw [ax];exact hb) B3 hx;obtain ⟨_,_,v,_,_⟩:=Sort.partition_holds lt hS l a b p hp1 hp2 (by rw [ax];exact hb);rw [hx] at v s;have aa:=u.perm o hb v;have w1 : w64 ((j : Int) - (a : Int)) = ((j - a : Nat) : Int):=wsub g1 q7;have w2 : w64 ((b : Int) - (j : Int)) = ((b - j : Nat) : Int):=wsub q7 q7;simp only [qz,s,qn,Us u aa,w1,w2,w1p j q7] at head;by_cases df : j - a < b - j
        · have tl : decide (((j - a : Nat) : Int) < ((b - j : Nat) : Int)) = true:=Q2 q7;simp only [tl,Q1] at head;rcases am a j l1 d4 aa g1 q7 an bw with ⟨L,e,aq,bj⟩ | ⟨r1,r2⟩
          · have au:=aa.perm g1 q7 aq;obtain ⟨bk,ad⟩:=bg _ aq bj;simp only [e,qn,Us aa au] at head;rw [Kg head];rcases ih (b - (j + 1)) q7 (j + 1) b l1 _ _ L rfl au q7 hb an bk with ⟨R,r0,r1,r2⟩ | ⟨r1,r2⟩
            · obtain ⟨q1,q2⟩:=ad _ r1 r2;exact .inl ⟨R,r0,Sort.permIn_trans _ _ _ a b P3 q1,q2⟩
            · exact .inr ⟨q7,r2⟩
          · simp only [r2,Option.bind_none] at head;exact .inr ⟨q7,qlk head⟩
        · have tl : decide (((j - a : Nat) : Int) < ((b - j : Nat) : Int)) = false:=Q4 q7;simp only [tl,qz] at head;rcases am (j + 1) b l1 d4 aa q7 hb an cb with ⟨L,e,aq,bj⟩ | ⟨r1,r2⟩
          · have au:=aa.perm (by omega : j + 1≤b) hb aq;obtain ⟨bk,ad⟩:=ay _ aq bj;simp only [e,qn,Us aa au] at head;rw [Kg head];rcases ih (j - a) q7 a j l1 _ _ L rfl au g1 q7 an bk with ⟨R,r0,r1,r2⟩ | ⟨r1,r2⟩
            · obtain ⟨q1,q2⟩:=ad _ r1 r2;exact .inl ⟨R,r0,Sort.permIn_trans _ _ _ a b P3 q1,q2⟩
            · exact .inr ⟨q7,r2⟩
          · simp only [r2,Option.bind_none] at head;exact .inr ⟨q7,qlk head⟩
theorem qn5 (f : Y5 q lt P) (g : Sort.SWO lt) {n : Nat} : ∀ (N a b c : Nat) (d : Array T),AllP n P d→a≤b→b≤n→c≤1000→Sort.Below lt a b d→
    Srt lt a b d (Ze N q d.toList (a : Int) (b : Int) (c : Int))∨(N≤b - a∧Ze N q d.toList (a : Int) (b : Int) (c : Int) = none)
  | 0,a,b,c,d,_,_,_,_,_=>.inr ⟨q7,rfl⟩
  | N + 1,a,b,c,d,hd,hab,hb,hl,hB=>by
    have h:=qxl f g (N:=N) (Ze N q) (fun a b c d m j k l o=>qn5 f g N a b c d m j k l o) _ a b c true true d rfl hd hab hb hl hB
    have e : Ze (N + 1) q d.toList (a : Int) (b : Int) (c : Int) = loop (Zk q (Ze N q)) ((a : Int),(b : Int),(c : Int),true,true,d.toList):=by
      show U4 (Ze N q) q d.toList (a : Int) (b : Int) (c : Int) = _;unfold U4;cases loop (Zk q (Ze N q)) ((a : Int),(b : Int),(c : Int),true,true,d.toList) <;> rfl
    rw [e]
    exact h
theorem qht (t : Y5 q lt P) (w : Sort.SWO lt) (xs : List T) (n : xs.length≤1000000) (v : ∀ x∈xs,P x) :
    ∃ ys,q24 q xs = some ys∧ys.Perm xs∧ys.Pairwise (fun x y=>lt y x = false):=by
  have hd : AllP xs.length P xs.toArray:=by
    refine ⟨qb,n,fun i hi=>?_⟩;have : xs.toArray[i]! = xs[i]:=by simp [hi]
    rw [this];exact v _ (Ke hi)
  have hk : Sort.bitsLen xs.length≤20:=(Sort.bitsLen_le_iff _ 20).2 q7;have c : ∀ N,_:=fun N=>qn5 t w N 0 xs.length (Sort.bitsLen xs.length) xs.toArray hd q7 q7 q7 (.inl rfl);have z:=c (xs.length + 1);rcases z with ⟨d',e,_,_⟩ | ⟨h,_⟩
  · obtain ⟨r,o⟩:=qut (f:=fun N=>Ze N q xs 0 (xs.length : Int) ((Sort.bitsLen xs.length : Nat) : Int)) e;obtain ⟨N,g⟩:=qd8 o;have g : Ze N q xs 0 (xs.length : Int) ((Sort.bitsLen xs.length : Nat) : Int) = some r:=g;rcases c N with ⟨a,b,x,y⟩ | ⟨_,b⟩
    · have b : Ze N q xs 0 (xs.length : Int) ((Sort.bitsLen xs.length : Nat) : Int) = some a.toList:=b;rw [g] at b;obtain rfl : r = a.toList:=Zg b;have d : a.size = xs.length:=by rw [x.1];simp
      refine ⟨a.toList,?_,?_,?_⟩
      · unfold q24;rw [q2r,show ((xs.length : Int) % 18446744073709551616) = (xs.length : Int) by omega,qlf _ n];simp only [qn,o];unfold K0;rw [Q0 (by simp [d])];rfl
      · have:=x.2.2;have s : a.extract 0 xs.length = a:=by rw [← d];simp
        have p : xs.toArray.extract 0 xs.length = xs.toArray:=by simp
        rw [s,p] at this;exact this
      · rw [List.pairwise_iff_getElem];intro i j hi u k;have l : i < a.size:=by simpa using hi
        have m : j < a.size:=by simpa using u
        have:=y i j q7 k q7;rw [getElem!_pos a i l,getElem!_pos a j m] at this;simpa using this
    · have b : Ze N q xs 0 (xs.length : Int) ((Sort.bitsLen xs.length : Nat) : Int) = none:=b;rw [g] at b;cases b
  · omega
end
end Go.Sh
namespace Go.Sh
open Go Go.Am
theorem q115 : qbu = q44:=rfl
theorem q106 : q2d = q30:=by
  funext p0;simp only [q2d,q30,q115]
  all_goals exact Qm
theorem qo9 : U8 = q1a:=by
  funext p0;simp only [U8,q1a,q106]
  all_goals exact Qm
theorem q10g : qa9 = U1:=by
  funext p1 q1 a459;simp only [qa9,U1]
  all_goals exact Qm
theorem q10f : qa8 = q1e:=by
  funext p2 p1 q1 a278;simp only [qa8,q1e,q10g]
  all_goals exact Qm
theorem q10e : qa7 = q27:=by
  funext q1 p0 p1 p2;simp only [qa7,q27,q10f]
  all_goals exact Qm
theorem q114 : qbl = U5:=by
  funext p2 p3 q1 a197;simp only [qbl,U5]
  all_goals exact Qm
theorem qob : q74 = Ur:=by
  funext q1 p0 p1 p2 p3;simp only [q74,Ur,q114]
  all_goals exact Qm
theorem q10c : q9z = q1c:=by
  funext q1 p2 p1 a123;simp only [q9z,q1c,qob]
  all_goals exact Qm
theorem q10d : qa0 = q1d:=by
  funext p1 q1 a191;simp only [qa0,q1d,qob]
  all_goals exact Qm
theorem q10b : q9y = q26:=by
  funext q1 p0 p1 p2;simp only [q9y,q26,q10c,q10d]
  all_goals exact Qm
theorem q10i : Uv = q28:=by
  funext p0;simp only [Uv,q28,qo9]
  all_goals exact Qm
theorem q116 : Uw = q2b:=by
  funext p0;simp only [Uw,q2b]
  all_goals exact Qm
theorem q109 : q9o = Uk:=by
  funext p1 p2 r101 a153;simp only [q9o,Uk,q116]
  all_goals exact Qm
theorem q108 : q9n = q1b:=by
  funext q1 p0 p1 p2;simp only [q9n,q1b,q10i,q109]
  all_goals exact Qm
theorem q10j : q4n = Um:=by
  funext q1 p0 p1 p2 p3;simp only [q4n,Um]
  all_goals exact Qm
theorem qoa : q6m = Ul:=by
  funext q1 p0 p1 p2 p3 p4;simp only [q6m,Ul,q10j]
  all_goals exact Qm
theorem q10h : q4k = U2:=by
  funext q1 p0 p1 p2;simp only [q4k,U2,qoa]
  all_goals exact Qm
theorem q10a : q9r = q25:=by
  funext p0 p1 p2 p3;simp only [q9r,q25,qoa,q10h]
  all_goals exact Qm
theorem q113 : qbi = q1k:=by
  funext a119;simp only [qbi,q1k]
  all_goals exact Qm
theorem q112 : qbh = q1j:=by
  funext q1 p0 p1 p2;simp only [qbh,q1j,q113]
  all_goals exact Qm
theorem q10m : qag = Un:=by
  funext p2 a438 q1 a681;simp only [qag,Un]
  all_goals exact Qm
theorem q10n : qah = U3:=by
  funext q1 a838;simp only [qah,U3]
  all_goals exact Qm
theorem q10o : qai = Uo:=by
  funext p2 q1 b684 a928;simp only [qai,Uo]
  all_goals exact Qm
theorem q10l : q6s = Zv:=by
  funext p2 q1 p1 a438;have a : @q6s.match_1.{1} = @Zv.match_1.{1} qo:=by funext motive m f g;cases m <;> rfl
  unfold q6s Zv;rw [a];simp only [q10m,q10n,q10o]
theorem q10k : q6r = Jn:=by
  funext q1 p0 p1 p2;have a : @q6r.match_1.{1} = @Jn.match_1.{1} qo:=by funext motive m f g;cases m <;> rfl
  unfold q6r Jn;rw [a];simp only [q10l]
theorem q10s : qbb = Up:=by
  funext a318 p1 q1 a378;simp only [qbb,Up]
  all_goals exact Qm
theorem q10t : qbc = Uq:=by
  funext b381 a318 p1 q1 a463;simp only [qbc,Uq]
  all_goals exact Qm
theorem q10r : qba = q1h:=by
  funext p1 q1 a318;simp only [qba,q1h,q10s,q10t]
  all_goals exact Qm
theorem q10q : qb9 = q1g:=by
  funext q1 p0 p1 p2 p3;simp only [qb9,q1g,q10r]
  all_goals exact Qm
theorem q10u : qaw = q29:=by
  funext p2 p0 p1 v101 p3 v103 q1 a163;simp only [qaw,q29]
  all_goals exact Qm
theorem q10v : qax = q2a:=by
  funext b166 p0 p1 v101 p3 v103 q1 a249;simp only [qax,q2a]
  all_goals exact Qm
theorem q10x : qaz = Jc:=by
  funext a514 p1 q1 a572;simp only [qaz,Jc]
  all_goals exact Qm
theorem q10y : qb0 = Jd:=by
  funext b575 a514 p1 q1 a658;simp only [qb0,Jd]
  all_goals exact Qm
theorem q10w : qay = q1i:=by
  funext p1 q1 a514;simp only [qay,q1i,q10x,q10y]
  all_goals exact Qm
theorem q10p : qav = q1f:=by
  funext q1 p0 p1 p2 p3;simp only [qav,q1f,q10u,q10v,q10w]
  all_goals exact Qm
theorem q110 : q70 = Zk:=by
  funext q1 rec a309;have a : @q70.match_1.{1} = @Zk.match_1.{1} qo:=by funext motive m f g;cases m <;> rfl
  unfold q70 Zk;rw [a];simp only [q10e,q10b,q108,q10a,q112,q10k,q10q,q10p]
theorem q111 : q71 = U4:=by
  funext rec q1 p0 p1 p2 p3;simp only [q71,U4,q110]
  all_goals exact Qm
theorem q10z : ∀ N q,q6z N q = Ze N q:=by
  intro N q
  induction N with
  | zero=>rfl
  | succ N ih=>
    funext a b c d;show q71 (q6z N q) q a b c d = U4 (Ze N q) q a b c d;rw [ih,q111]
theorem q107 : q6j = q24:=by
  funext q1 p0;simp only [q6j,q24,qo9,q10z]
  all_goals exact Qm
end Go.Sh
namespace Go.Sh
open Go Go.Am
instance : Inhabited qo:=⟨⟨0,0,0⟩⟩
theorem q12n (q : qo→qo→Option Int) (xs : List qo) : q6j q xs = q24 q xs:=by rw [q107]
def evs (s : List qh) (l : Int) : List qo:=s.flatMap fun t=>[{at_:=t.Lo,list_:=l,by_:=1},{at_:=t.Hi,list_:=l,by_:=-1}]
theorem q7y (s : List qh) (l : Int) : (evs s l).length = 2 * s.length:=by
  induction s with
  | nil=>rfl
  | cons t s ih=>simp only [evs,List.flatMap_cons,List.length_append,List.length_cons,List.length_nil] at ih ⊢;omega
theorem qdd {s : List qh} {l : Int} {e : qo} (h : e∈evs s l) : e.list_ = l∧(e.by_ = 1∨e.by_ = -1)∧∃ t∈s,e.at_ = t.Lo∨e.at_ = t.Hi:=by
  simp only [evs,List.mem_flatMap] at h;obtain ⟨t,a,h⟩:=h;simp only [List.mem_cons,List.not_mem_nil,or_false] at h;rcases h with rfl | rfl
  · exact ⟨rfl,.inl rfl,t,a,.inl rfl⟩
  · exact ⟨rfl,.inr rfl,t,a,.inr rfl⟩
theorem qjz (s : List qh) (l : Int) (y : List qo) (hs : s.length≤1000) (base : List qo) (hb : base.length≤10000) :
    loop (q4p s (l,y)) (0,base) = some (base ++ evs s l):=by
  have:=Ku (f:=q4p s (l,y)) (σ:=List qo) (fun k c=>((k : Int),c)) s.length (fun k c=>c = base ++ evs (s.take k) l) (fun t=>t = base ++ evs s l) ?_ ?_ (k0:=0) (c0:=base) q7 (by simp [evs])
  · obtain ⟨b,g,rfl⟩:=this;exact g
  · rintro k c hk rfl;have a : decide ((k : Int) < (s.length : Int)) = true:=Q2 q7;refine .inl ⟨base ++ evs (s.take (k + 1)) l,?_,rfl⟩;have d : (evs (s.take k) l).length≤2000:=by rw [q7y,List.length_take];omega
    simp only [q4p,a,Q1,Qu hk,qn];rw [Y9 (by rw [List.length_append];simp only [List.length_cons,List.length_nil];omega),qn,Qb q7,List.take_succ_eq_append_getElem hk,List.append_assoc];have : evs (s.take k ++ [s[k]]) l = evs (s.take k) l ++ [{at_:=s[k].Lo,list_:=l,by_:=1},{at_:=s[k].Hi,list_:=l,by_:=-1}]:=by simp only [evs,List.flatMap_append,List.flatMap_cons,List.flatMap_nil,List.append_nil]
    rw [this];rfl
  · rintro c rfl;have a : decide ((s.length : Int) < (s.length : Int)) = false:=Q4 q7;exact ⟨_,by simp only [q4p,a,qz];rfl,by rw [List.take_length]⟩
def ltE (a b : qo) : Bool:=decide (a.at_ < b.at_)
def inE (e : qo) : Prop:=-1000000≤e.at_∧e.at_≤1000000
theorem swoE : Sort.SWO ltE where
  irrefl:=by intro x;simp [ltE]
  trans:=by intro x y z;simp only [ltE,decide_eq_true_eq];omega
  ntrans:=by intro x y z;simp only [ltE,decide_eq_false_iff_not];omega
theorem cmpE : Y5 (fun a b=>qbo a b) ltE inE:=by
  rintro x y ⟨c,f⟩ ⟨d,g⟩;refine ⟨x.at_ - y.at_,?_,?_⟩
  · show some (w64 (x.at_ - y.at_)) = _;rw [Qb q7]
  · unfold ltE;exact decide_eq_decide.2 q7
theorem q12m (p q : List qh) (hp : p.length≤500) (u : q.length≤500) (s : ∀ t∈p,vld t) (k : ∀ t∈q,vld t) :
    ∃ ys,qbp [p,q] = some ([p,q],ys)∧ys.Perm (evs p 0 ++ evs q 1)∧ys.Pairwise (fun x y=>x.at_≤y.at_):=by
  have n : ∀ x∈evs p 0 ++ evs q 1,inE x:=by
    intro x m;rcases List.mem_append.1 m with h | h
    · obtain ⟨_,_,t,g,h⟩:=qdd h;obtain ⟨a,b,c⟩:=s t g;unfold inE;rcases h with h | h <;> omega
    · obtain ⟨_,_,t,g,h⟩:=qdd h;obtain ⟨a,b,c⟩:=k t g;unfold inE;rcases h with h | h <;> omega
  have v:=q7y p 0;have w:=q7y q 1;obtain ⟨ys,r,j,l⟩:=qht cmpE swoE (evs p 0 ++ evs q 1) (by rw [List.length_append];omega) n;refine ⟨ys,?_,j,l.imp (fun {x y} h=>by simp only [ltE,decide_eq_false_iff_not] at h;omega)⟩
  have d : loop (q1t [p,q]) (0,[]) = some (evs p 0 ++ evs q 1):=by
    have s0 : q1t [p,q] (0,[]) = some (.inl (1,evs p 0)):=by
      have t : decide ((0 : Int) < (([p,q] : List (List qh)).length : Int)) = true:=rfl;simp only [q1t,t,Q1];have : idx [p,q] 0 = some p:=rfl;rw [this];simp only [qn,qjz p 0 [] q7 [] qb,List.nil_append];rfl
    have s1 : q1t [p,q] (1,evs p 0) = some (.inl (2,evs p 0 ++ evs q 1)):=by
      have t : decide ((1 : Int) < (([p,q] : List (List qh)).length : Int)) = true:=rfl;simp only [q1t,t,Q1];have : idx [p,q] 1 = some q:=rfl;rw [this];simp only [qn,qjz q 1 (evs p 0) q7 (evs p 0) q7];rfl
    have o : q1t [p,q] (2,evs p 0 ++ evs q 1) = some (.inr (evs p 0 ++ evs q 1)):=by
      have t : decide ((2 : Int) < (([p,q] : List (List qh)).length : Int)) = false:=rfl;simp only [q1t,t,qz]
    rw [Kg s0,Kg s1,Ki o]
  unfold qbp;rw [d];simp only [qn,q12n,r];have le : K0 ys.length (evs p 0 ++ evs q 1).length = some ():=by unfold K0;rw [Q0 j.length_eq]
  have f : K0 ys.length ys.length = some ():=by unfold K0;rw [Q0 rfl]
  simp only [le,qn,qe8,f]
def cnt (l : Int) (c : Int→Bool) : List qo→Int
  | []=>0
  | e::es=>(if e.list_ = l∧c e.at_ = true then e.by_ else 0) + cnt l c es
theorem q2t (l : Int) (c : Int→Bool) (a b : List qo) : cnt l c (a ++ b) = cnt l c a + cnt l c b:=by
  induction a with
  | nil=>simp [cnt]
  | cons e a ih=>simp only [List.cons_append,cnt,ih];omega
theorem qja {l : Int} {c : Int→Bool} {a b : List qo} (h : a.Perm b) : cnt l c a = cnt l c b:=by
  induction h with
  | nil=>rfl
  | cons x _ ih=>simp only [cnt,ih]
  | swap x y l=>simp only [cnt];omega
  | trans _ _ ih1 ih2=>rw [ih1,ih2]
theorem qj7 {l : Int} {c b : Int→Bool} : ∀ {a : List qo},(∀ e∈a,c e.at_ = b e.at_)→cnt l c a = cnt l b a
  | [],_=>rfl
  | e::a,h=>by simp only [cnt,h e qb,qj7 (fun e d=>h e (List.mem_cons_of_mem _ d))]
theorem qj9 {l : Int} {c : Int→Bool} : ∀ {a : List qo},(∀ e∈a,c e.at_ = false)→cnt l c a = 0
  | [],_=>rfl
  | e::a,h=>by
    simp only [cnt,qj9 (fun e b=>h e (List.mem_cons_of_mem _ b)),h e qb]
    simp
theorem q7p {s : List qh} {l l' : Int} {c : Int→Bool} (h : l≠l') : cnt l c (evs s l') = 0:=by
  induction s with
  | nil=>rfl
  | cons t s ih=>
    have : evs (t::s) l' = [{at_:=t.Lo,list_:=l',by_:=1},{at_:=t.Hi,list_:=l',by_:=-1}] ++ evs s l':=rfl;rw [this,q2t,ih];have a : ¬ l' = l:=fun e=>h e.symm;simp [cnt,a]
theorem qj8 {s : List qh} {l : Int} (v : ∀ t∈s,vld t) (x : Int) : 0≤cnt l (fun a=>decide (a≤x)) (evs s l)∧(0 < cnt l (fun a=>decide (a≤x)) (evs s l)↔has s x):=by
  induction s with
  | nil=>exact ⟨Int.le_refl 0,by simp [evs,cnt,has]⟩
  | cons t s ih=>
    obtain ⟨f,c⟩:=ih (fun t d=>v t (List.mem_cons_of_mem _ d));have b:=v t qb;have : evs (t::s) l = [{at_:=t.Lo,list_:=l,by_:=1},{at_:=t.Hi,list_:=l,by_:=-1}] ++ evs s l:=rfl;rw [this,q2t,J2,← c];obtain ⟨j,h,g⟩:=b;simp only [cnt,true_and,decide_eq_true_eq];split <;> split <;> omega
theorem qjb {s : List qh} {l : Int} : cnt l (fun _=>true) (evs s l) = 0:=by
  induction s with
  | nil=>rfl
  | cons t s ih=>
    have : evs (t::s) l = [{at_:=t.Lo,list_:=l,by_:=1},{at_:=t.Hi,list_:=l,by_:=-1}] ++ evs s l:=rfl;rw [this,q2t,ih];simp [cnt]
theorem qf8 {l : Int} {c : Int→Bool} : ∀ {a : List qo},(∀ e∈a,e.by_ = 1∨e.by_ = -1)→-(a.length : Int)≤cnt l c a∧cnt l c a≤(a.length : Int)
  | [],_=>by simp [cnt]
  | e::a,h=>by
    obtain ⟨d,f⟩:=qf8 (l:=l) (c:=c) (fun e b=>h e (List.mem_cons_of_mem _ b))
    have:=h e qb
    simp only [cnt,List.length_cons]
    split <;> omega
end Go.Sh
namespace Go.Sh
open Go Go.Am
theorem qr5 (at_ a : Int) (inn : Bool) (out : List qh) (h : out.length≤10000) :
    qbq at_ inn a out = some (if inn = true∧a≠at_ then addS out a at_ else out):=by
  unfold qbq
  cases inn with
  | false=>rfl
  | true=>
    by_cases b : a = at_
    · simp [b]
    · have hb : (a == at_) = false:=by simpa using b
      simp only [Bool.not_true,qz,qn,hb];rw [Q0 ⟨trivial,b⟩];rcases qe9 out with rfl | ⟨d,t,rfl⟩
      · rfl
      · have l : (d ++ [t]).length = d.length + 1:=by simp
        have j : decide (((d ++ [t]).length : Int) > 0) = true:=Q2 q7;have g : w64 (((d ++ [t]).length : Int) - 1) = (d.length : Int):=by rw [Qb q7];omega
        have k : idx (d ++ [t]) (d.length : Int) = some t:=by
          rw [Qu q7];simp
        simp only [j,Q1,g,k,qn];by_cases c : t.Hi = a
        · subst c;simp only [beq_self_eq_true,Q1,qc9,Int.toNat_natCast,qoe]
        · have f : (t.Hi == a) = false:=by simpa using c
          simp only [f,qz,qca c];rw [Y9 (by simp;omega)];rfl
open Classical in
structure qpp (f : Bool→Bool→Bool) (p q : List qh) (ys : List qo) (k : Nat) (c : List Int × Int × Bool × List qh) : Prop where
  opn : c.1 = [cnt 0 (fun _=>true) (ys.take k),cnt 1 (fun _=>true) (ys.take k)]
  inn : c.2.2.1 = f (decide (0 < cnt 0 (fun _=>true) (ys.take k))) (decide (0 < cnt 1 (fun _=>true) (ys.take k)))
  lst : ∀ (h : k - 1 < ys.length),0 < k→c.2.1 = ys[k - 1].at_
  can : Can c.2.2.2
  his : ∀ t∈c.2.2.2,t.Hi≤c.2.1
  zro : k = 0→c.2.2.2 = []
  pts : ∀ x,has c.2.2.2 x↔0 < k∧x < c.2.1∧f (decide (has p x)) (decide (has q x)) = true
  len : c.2.2.2.length≤k
theorem qpq (c : List qh) (a b : Int) : (addS c a b).length≤c.length + 1:=by
  rcases qe9 c with rfl | ⟨d,t,rfl⟩
  · simp [qid]
  · by_cases h : t.Hi = a
    · subst h;rw [qc9];simp
    · rw [qca h];simp
theorem qj6 {p q : List qh} {ys : List qo} (hp : ∀ t∈p,vld t) (f : ∀ t∈q,vld t) (b : ys.Perm (evs p 0 ++ evs q 1)) (_ : ys.Pairwise (fun x y=>x.at_≤y.at_)) (k : Nat) (x : Int)
    (g : ∀ i (h : i < ys.length),i < k→ys[i].at_≤x) (d : ∀ i (h : i < ys.length),k≤i→x < ys[i].at_) :
    (0 < cnt 0 (fun _=>true) (ys.take k)↔has p x)∧(0 < cnt 1 (fun _=>true) (ys.take k)↔has q x):=by
  have key : ∀ l,cnt l (fun _=>true) (ys.take k) = cnt l (fun a=>decide (a≤x)) (evs p 0) + cnt l (fun a=>decide (a≤x)) (evs q 1):=by
    intro l;rw [← q2t,← qja b]
    conv=>rhs;rw [← List.take_append_drop k ys]
    rw [q2t]
    have m : cnt l (fun a=>decide (a≤x)) (ys.drop k) = 0:=by
      refine qj9 fun e c=>?_;obtain ⟨i,hi,rfl⟩:=List.mem_iff_getElem.1 c;rw [List.getElem_drop];rw [List.length_drop] at hi;have:=d (k + i) q7 q7;exact Q4 q7
    have n : cnt l (fun a=>decide (a≤x)) (ys.take k) = cnt l (fun _=>true) (ys.take k):=by
      refine qj7 fun e c=>?_;obtain ⟨i,hi,rfl⟩:=List.mem_iff_getElem.1 c;rw [List.getElem_take];rw [List.length_take] at hi;exact Q2 (g i q7 q7)
    rw [m,n];omega
  rw [key 0,key 1,q7p (l:=0) (l':=1) qy,q7p (l:=1) (l':=0) qy];have e1:=qj8 (l:=0) hp x;have j:=qj8 (l:=1) f x;rw [Int.add_zero,Int.zero_add];exact ⟨e1.2,j.2⟩
open Classical in
theorem qu8 (f : Bool→Bool→Bool) (hf : f false false = false) (p2 : Bool→Bool→Option Bool) (hp2 : ∀ a b,p2 a b = some (f a b)) (p q : List qh)
    (hp : p.length≤500) (hq : q.length≤500) (vp : ∀ t∈p,vld t) (vq : ∀ t∈q,vld t) :
    ∃ out,q76 p q p2 = some out∧Can out∧∀ x,has out x↔f (decide (has p x)) (decide (has q x)) = true:=by
  obtain ⟨ys,e1,g,hs⟩:=q12m p q hp hq vp vq;have bd : ys.length≤2000:=by rw [g.length_eq,List.length_append,q7y,q7y];omega
  have w : ∀ i j (hi : i < ys.length) (hj : j < ys.length),i≤j→ys[i].at_≤ys[j].at_:=by
    intro i j hi hj bl;rcases Nat.lt_or_ge i j with h | h
    · exact List.pairwise_iff_getElem.1 hs i j hi hj h
    · obtain rfl : i = j:=by omega
      exact Int.le_refl _
  have y : ∀ e∈ys,(e.list_ = 0∨e.list_ = 1)∧(e.by_ = 1∨e.by_ = -1):=by
    intro e he;rcases List.mem_append.1 (g.mem_iff.1 he) with h | h
    · obtain ⟨a,b,_⟩:=qdd h;exact ⟨.inl a,b⟩
    · obtain ⟨a,b,_⟩:=qdd h;exact ⟨.inr a,b⟩
  have:=Ku (f:=q4q ([p,q],ys) p2) (σ:=List Int × Int × Bool × List qh) (fun k c=>((k : Int),c)) ys.length (qpp f p q ys) (fun out=>Can out∧∀ x,has out x↔f (decide (has p x)) (decide (has q x)) = true) ?_ ?_ (k0:=0) (c0:=([0,0],0,false,[])) q7 ?_
  · obtain ⟨out,r,m⟩:=this;refine ⟨out,?_,m⟩;unfold q76;have r : loop (q4q ([p,q],ys) p2) (0,[0,0],0,false,[]) = some out:=r;rw [e1];simp only [qn,r];rfl
  · rintro k ⟨opn,d,inn,out⟩ hk ⟨s1,s2,s3,s4,s5,s6,s7,s8⟩;simp only at s1 s2 s3 s4 s5 s6 s7 s8;have ae : decide ((k : Int) < (ys.length : Int)) = true:=Q2 q7;have bc:=qr5 ys[k].at_ d inn out q7;have hm:=y ys[k] (Ke hk);have ba : ys.take (k + 1) = ys.take k ++ [ys[k]]:=List.take_succ_eq_append_getElem hk;have aj : ∀ e∈ys.take k,e.by_ = 1∨e.by_ = -1:=fun e he=>(y e (List.mem_of_mem_take he)).2;have b0:=qf8 (l:=0) (c:=fun _=>true) aj;have b1:=qf8 (l:=1) (c:=fun _=>true) aj;have aq : (ys.take k).length = k:=by rw [List.length_take];omega
    rw [aq] at b0 b1
    have ad : ∃ v,idxA 2 opn ys[k].list_ = some v∧opn.set ys[k].list_.toNat (w64 (v + ys[k].by_)) = [cnt 0 (fun _=>true) (ys.take (k + 1)),cnt 1 (fun _=>true) (ys.take (k + 1))]:=by
      subst s1;rw [ba,q2t,q2t];rcases hm.1 with h | h
      · refine ⟨cnt 0 (fun _=>true) (ys.take k),by rw [h];rfl,?_⟩;rw [h,Qb q7];simp [cnt,h]
      · refine ⟨cnt 1 (fun _=>true) (ys.take k),by rw [h];rfl,?_⟩;rw [h,Qb q7];simp [cnt,h]
    obtain ⟨v,o1,o2⟩:=ad;refine .inl ⟨([cnt 0 (fun _=>true) (ys.take (k + 1)),cnt 1 (fun _=>true) (ys.take (k + 1))],ys[k].at_,f (decide (0 < cnt 0 (fun _=>true) (ys.take (k + 1)))) (decide (0 < cnt 1 (fun _=>true) (ys.take (k + 1)))),if inn = true∧d≠ys[k].at_ then addS out d ys[k].at_ else out),?_,?_⟩
    · have x0 : ∀ a b : Int,idxA 2 [a,b] 0 = some a:=fun a b=>rfl;have x1 : ∀ a b : Int,idxA 2 [a,b] 1 = some b:=fun a b=>rfl;simp only [q4q,ae,Q1,Qu hk,qn,bc,o1,o2,x0,x1,hp2];rw [Qb q7];rfl
    · have ac : ∀ x,(0 < k→d≤x)→∀ i (h : i < ys.length),i < k→ys[i].at_≤x:=by
        intro x o i hi an;have:=s3 q7 q7;have:=w i (k - 1) hi q7 q7;have:=o q7;omega
      have ab : ∀ x,x < ys[k].at_→∀ i (h : i < ys.length),k≤i→x < ys[i].at_:=by
        intro x o i hi an;have:=w k i hk hi an;omega
      have hF : ∀ x,(0 < k→d≤x)→x < ys[k].at_→f (decide (has p x)) (decide (has q x)) = inn:=by
        intro x o ap;obtain ⟨c1,c2⟩:=qj6 vp vq g hs k x (ac x o) (ab x ap);rw [s2,decide_eq_decide.2 c1,decide_eq_decide.2 c2]
      have n : 0 < k→d≤ys[k].at_:=by
        intro u;rw [s3 q7 u];exact w (k - 1) k q7 hk q7
      have z : k = 0→inn = false:=by
        intro u;subst u;rw [s2];exact hf
      by_cases s : inn = true∧d≠ys[k].at_
      · have ai : 0 < k:=by
          rcases Nat.eq_zero_or_pos k with h | h
          · rw [z h] at s;cases s.1
          · exact h
        have hl:=n ai;have az : d < ys[k].at_:=by have:=s.2;omega
        obtain ⟨d1,d2,d3,d4⟩:=qie s4 s5 az;constructor
        · rfl
        · rfl
        · intro h _;rfl
        · simp only [Q0 s];exact d1
        · simp only [Q0 s];exact d3
        · omega
        · intro x;simp only [Q0 s];rw [d2,s7];constructor
          · rintro (⟨u,r,m⟩ | ⟨r,m⟩)
            · exact ⟨q7,q7,m⟩
            · exact ⟨q7,m,by rw [hF x (fun _=>r) m];exact s.1⟩
          · rintro ⟨u,r,m⟩;by_cases o : x < d
            · exact .inl ⟨ai,o,m⟩
            · exact .inr ⟨q7,r⟩
        · simp only [Q0 s];have:=qpq out d ys[k].at_;omega
      · constructor
        · rfl
        · rfl
        · intro h _;rfl
        · simp only [Q3 s];exact s4
        · simp only [Q3 s];intro t ht;rcases Nat.eq_zero_or_pos k with h | h
          · rw [s6 h] at ht;cases ht
          · have:=s5 t ht;have:=n h;omega
        · omega
        · intro x;simp only [Q3 s];rw [s7];constructor
          · rintro ⟨u,r,m⟩;exact ⟨q7,by have:=n u;omega,m⟩
          · rintro ⟨u,r,m⟩;by_cases o : 0 < k∧x < d
            · exact ⟨o.1,o.2,m⟩
            · have ak : 0 < k→d≤x:=fun h=>by
                refine Int.not_lt.1 fun h'=>o ⟨h,h'⟩
              have:=hF x ak r;rw [this] at m;refine absurd ⟨m,?_⟩ s;intro e;rcases Nat.eq_zero_or_pos k with h | h
              · rw [z h] at m;cases m
              · have:=ak h;omega
        · simp only [Q3 s];omega
  · rintro ⟨opn,d,inn,out⟩ ⟨s1,s2,s3,s4,s5,s6,s7,s8⟩;simp only at s1 s2 s3 s4 s5 s6 s7 s8;have ae : decide ((ys.length : Int) < (ys.length : Int)) = false:=Q4 q7;refine ⟨out,by simp only [q4q,ae,qz],s4,fun x=>?_⟩;rw [s7];constructor
    · rintro ⟨_,_,h⟩;exact h
    · intro h;by_cases o : 0 < ys.length∧x < d
      · exact ⟨o.1,o.2,h⟩
      · obtain ⟨c1, c2⟩ := qj6 vp vq g hs ys.length x (fun i hi _ => by
            have:=s3 q7 q7;have:=w i (ys.length - 1) hi q7 q7;have : d≤x:=Int.not_lt.1 fun h'=>o ⟨q7,h'⟩
            omega) (fun i hi bi=>q7)
        have aw : ∀ l,cnt l (fun _=>true) (ys.take ys.length) = 0:=by
          intro l;rw [List.take_length,qja g,q2t];by_cases u : l = 0
          · subst u;rw [qjb,q7p qy];rfl
          · rw [q7p u];by_cases r : l = 1
            · subst r;rw [qjb];rfl
            · rw [q7p r];rfl
        rw [aw] at c1 c2;have n1 : ¬ has p x:=fun h=>absurd (c1.2 h) qy;have n2 : ¬ has q x:=fun h=>absurd (c2.2 h) qy;rw [Q4 n1,Q4 n2,hf] at h;cases h
  · constructor
    · simp [cnt]
    · simp [cnt,hf]
    · intro h u;omega
    · exact ⟨fun t ht=>(by cases ht),.nil⟩
    · intro t ht;cases ht
    · intro _;rfl
    · intro x;simp [has]
    · simp
end Go.Sh
namespace Go.Sh
open Go Go.Am
theorem qr2 {s : List qh} (h : q17 s = 0) : s.length≤400∧Good s:=by
  unfold q17 at h;split at h
  · cases h
  · split at h
    · rename_i b a;exact ⟨q7,a⟩
    · cases h
def dst (x : Int) (t : qh) : Int:=max (max (t.Lo - x) (x - t.Hi + 1)) 0
end Go.Sh
namespace Go.Sh
open Go Go.Am
noncomputable def U6 (kind : Int) (p q : List qh) : List qh:=(qds kind p q).getD []
theorem ql1 (kind : Int) (p q : List qh) (hp : p.length≤100000) (b : q.length≤100000) : qds kind p q = some (U6 kind p q)∧qer kind p q (U6 kind p q):=by
  obtain ⟨out,a,c⟩:=qua kind p q hp b;unfold U6;rw [a];exact ⟨rfl,c⟩
theorem qu0 (s : List qh) (b : qh→Option Bool) (c : qh→Bool) (h : ∀ t,b t = some (c t)) (p : s.length≤1000000) :
    ∃ r,q9h s b = some r∧decide (r ≥ 0) = s.any c:=by
  have:=Ku (f:=q3e s b) (σ:=Unit) (fun k _=>(k : Int)) s.length (fun k _=>∀ i (h : i < s.length),i < k→c s[i] = false)
    (fun m=>∃ r : Int,(match m with | .inl b22=>some (-1) | .inr x1=>some x1) = some r∧decide (r ≥ 0) = s.any c) ?_ ?_ (k0:=0) (c0:=()) q7 (fun i _ hi=>q7)
  · obtain ⟨m,g,r,j,n⟩:=this;have g : loop (q3e s b) 0 = some m:=g;exact ⟨r,by unfold q9h;rw [g];exact j,n⟩
  · rintro k _ hk hi;have hb : decide ((k : Int) < (s.length : Int)) = true:=Q2 q7
    cases d : c s[k] with
    | true=>
      refine .inr ⟨.inr (k : Int),?_,(k : Int),rfl,?_⟩
      · simp only [q3e,hb,Q1,Qu hk,qn,h,d]
      · have : s.any c = true:=List.any_eq_true.2 ⟨s[k],Ke hk,d⟩;rw [this];exact Q2 q7
    | false=>
      refine .inl ⟨(),?_,?_⟩
      · simp only [q3e,hb,Q1,Qu hk,qn,h,d,qz];rw [Qb q7];rfl
      · intro i a o;by_cases e : i = k
        · subst e;exact d
        · exact hi i a q7
  · rintro _ hi;have hb : decide ((s.length : Int) < (s.length : Int)) = false:=Q4 q7;refine ⟨.inl (),by simp only [q3e,hb,qz],-1,rfl,?_⟩
    have : s.any c = false:=by
      rw [List.any_eq_false];intro t l;obtain ⟨i,a,rfl⟩:=List.mem_iff_getElem.1 l;simp [hi i a a]
    rw [this];rfl
theorem qji (s : List qh) (a : qh→Option Bool) (c : qh→Bool) (h : ∀ t,a t = some (c t)) (b : s.length≤1000000) : q6f s a = some (s.any c):=by
  obtain ⟨r,f,d⟩:=qu0 s a c h b;unfold q6f;rw [f,qn,d]
open Classical in
theorem q5a (s : List qh) (x : Int) (c : s.length≤1000000) : q1s s x = some (decide (has s x)):=by
  unfold q1s
  rw [qji s _ (fun t=>decide (t.Lo≤x∧x < t.Hi)) (fun t=>by
    show (cond (decide (t.Lo≤x)) (some (decide (x < t.Hi))) (some false)).bind (fun c1=>some c1) = _;by_cases a : t.Lo≤x
    · simp [a]
    · simp [a]) c,qn]
  congr 1;by_cases h : has s x
  · rw [Q2 h,List.any_eq_true];obtain ⟨t,b,h⟩:=h;exact ⟨t,b,Q2 h⟩
  · rw [Q4 h,List.any_eq_false];intro t b a;exact h ⟨t,b,of_decide_eq_true a⟩
open Classical in
noncomputable def qda (s : List qh) : List qh × Int:=if 400 < s.length then ([],4) else if ∀ t∈s,vld t then (U6 2 s [],0) else ([],8)
theorem qv6 (s : List qh) (k : s.length≤400) (c : ∀ t∈s,vld t) (p2 : Bool→Bool→Option Bool) (hp2 : ∀ a b,p2 a b = some a) : q76 s [] p2 = some (U6 2 s []):=by
  classical
  obtain ⟨out,f,d,h⟩:=qu8 (fun a _=>a) rfl p2 hp2 s [] q7 qb c (fun t g=>by cases g);obtain ⟨_,j⟩:=ql1 2 s [] q7 qb;rw [f];congr 1;refine qiv d j.can fun x=>?_;rw [h,j.pts];simp [q2c,q1l]
theorem qv5 (s : List qh) : q2l s = some (qda s):=by
  classical
  unfold q2l qda;by_cases f : 400 < s.length
  · have e : decide ((s.length : Int) > 400) = true:=Q2 q7;rw [e,Q0 f];rfl
  · have e : decide ((s.length : Int) > 400) = false:=Q4 q7;rw [e,Q3 f,qz,qji s _ (fun t=>!decide (vld t)) (fun t=>by show (q3f t).bind _ = _;rw [qpd];rfl) q7,qn];by_cases c : ∀ t∈s,vld t
    · have : (s.any fun t=>!decide (vld t)) = false:=by
        rw [List.any_eq_false];intro t d;simp [c t d]
      rw [this,qz,Q0 c,qv6 s q7 c (fun g j=>qbn g j) (fun a b=>rfl)];rfl
    · have : (s.any fun t=>!decide (vld t)) = true:=by
        rw [List.any_eq_true];obtain ⟨t,c⟩:=Classical.not_forall.1 c;obtain ⟨d,h⟩:=Classical.not_imp.1 c;exact ⟨t,d,by simp [h]⟩
      rw [this,Q1,Q3 c]
def lenL : List qh→Int
  | []=>0
  | t::s=>(t.Hi - t.Lo) + lenL s
theorem qlc (a b : List qh) : lenL (a ++ b) = lenL a + lenL b:=by
  induction a with
  | nil=>simp [lenL]
  | cons t a ih=>simp only [List.cons_append,lenL,ih];omega
theorem qld : ∀ {s : List qh},(∀ t∈s,vld t)→0≤lenL s∧lenL s≤2000000 * (s.length : Int)
  | [],_=>by simp [lenL]
  | t::s,h=>by
    obtain ⟨d,b⟩:=qld (fun t a=>h t (List.mem_cons_of_mem _ a))
    obtain ⟨g,f,c⟩:=h t qb
    simp only [lenL,List.length_cons]
    omega
noncomputable def qg8 (s : List qh) : Int × Int:=if q17 s = 0 then (lenL s,0) else (0,q17 s)
theorem quj (s : List qh) (n : s.length≤400) (d : ∀ t∈s,vld t) : loop (qbm s) (0,0) = some (lenL s)∧loop (q8t s) (0,0) = some (lenL s):=by
  have a : ∀ k,0≤lenL (s.take k)∧lenL (s.take k)≤800000000:=by
    intro k;have:=qld (s:=s.take k) (fun t m=>d t (List.mem_of_mem_take m));have : (s.take k).length≤400:=by rw [List.length_take];omega
    omega
  constructor
  · have:=Ku (f:=qbm s) (σ:=Int) (fun k c=>(c,(k : Int))) s.length (fun k c=>c = lenL (s.take k)) (fun r=>r = lenL s) ?_ ?_ (k0:=0) (c0:=0) q7 (by simp [lenL])
    · obtain ⟨b,g,rfl⟩:=this;exact g
    · rintro k c hk rfl;have hb : decide ((k : Int) < (s.length : Int)) = true:=Q2 q7;obtain ⟨l,j,h⟩:=d _ (Ke hk);have:=a k;refine .inl ⟨lenL (s.take (k + 1)),?_,rfl⟩;simp only [qbm,hb,Q1,Qu hk,qn];rw [Qb (x:=s[k].Hi - s[k].Lo) q7,Qb (x:=lenL (s.take k) + _) q7,Qb q7,List.take_succ_eq_append_getElem hk,qlc];simp only [lenL,Int.add_zero];rfl
    · rintro c rfl;have hb : decide ((s.length : Int) < (s.length : Int)) = false:=Q4 q7;exact ⟨_,by simp only [qbm,hb,qz];rfl,by rw [List.take_length]⟩
  · have:=Ku (f:=q8t s) (σ:=Int) (fun k c=>(c,(k : Int))) s.length (fun k c=>c = lenL (s.take k)) (fun r=>r = lenL s) ?_ ?_ (k0:=0) (c0:=0) q7 (by simp [lenL])
    · obtain ⟨b,g,rfl⟩:=this;exact g
    · rintro k c hk rfl;have hb : decide ((k : Int) < (s.length : Int)) = true:=Q2 q7;obtain ⟨l,j,h⟩:=d _ (Ke hk);have:=a k;refine .inl ⟨lenL (s.take (k + 1)),?_,rfl⟩;simp only [q8t,hb,Q1,Qu hk,qn];rw [Qb (x:=lenL (s.take k) + s[k].Hi) q7,Qb (x:=lenL (s.take k) + s[k].Hi - _) q7,Qb q7,List.take_succ_eq_append_getElem hk,qlc];have : lenL (s.take k) + s[k].Hi - s[k].Lo = lenL (s.take k) + lenL [s[k]]:=by simp only [lenL];omega
      rw [this];rfl
    · rintro c rfl;have hb : decide ((s.length : Int) < (s.length : Int)) = false:=Q4 q7;exact ⟨_,by simp only [q8t,hb,qz];rfl,by rw [List.take_length]⟩
theorem q14b (s : List qh) : qoq s = some (qg8 s)∧qng s = some (qg8 s):=by
  unfold qoq qng qg8;simp only [qj2,qyy,qn];by_cases h : q17 s = 0
  · obtain ⟨c,d⟩:=qr2 h;obtain ⟨a,b⟩:=quj s c d.1;have e : (q17 s != 0) = false:=by simpa using h
    simp only [e,qz,a,b,qn];simp only [h,if_true];exact ⟨trivial,trivial⟩
  · have e : (q17 s != 0) = true:=by simpa using h
    simp only [e,Q1,Q3 h];exact ⟨trivial,trivial⟩
end Go.Sh
namespace Go.Sh
open Go Go.Am
section
variable {α β : Type} [DecidableEq α]
theorem qdh {z : β} {k : α} {v : β} : ∀ {R : List (α × β)},(R.map (·.1)).Nodup→(k,v)∈R→K7 z k R = v
  | [],_,h=>by cases h
  | (a,w)::r,hn,h=>by
    simp only [List.map_cons,List.nodup_cons] at hn
    simp only [K7]
    rcases List.mem_cons.1 h with h | h
    · cases h;rw [Q0 rfl]
    · have : k≠a:=fun e=>hn.1 (e ▸ List.mem_map_of_mem (f:=(·.1)) h)
      rw [Q3 this];exact qdh hn.2 h
theorem qdi {z : β} {k : α} : ∀ {R : List (α × β)},k ∉ R.map (·.1)→K7 z k R = z
  | [],_=>rfl
  | (a,w)::r,h=>by
    simp only [List.map_cons,List.mem_cons,not_or] at h
    simp only [K7,Q3 h.1];exact qdi h.2
theorem qgd {k : α} {v : β} : ∀ {R : List (α × β)},(R.map (·.1)).Nodup→∀ a w,((a,w)∈Ka k v R↔(a = k∧w = v)∨(a≠k∧(a,w)∈R))
  | [],_,a,w=>by simp [Ka]
  | (b,u)::r,hn,a,w=>by
    simp only [List.map_cons,List.nodup_cons] at hn
    simp only [Ka]
    by_cases e : k = b
    · subst e
      rw [Q0 rfl,List.mem_cons,Prod.mk.injEq,List.mem_cons,Prod.mk.injEq]
      constructor
      · rintro (h | h)
        · exact .inl h
        · exact .inr ⟨fun e=>hn.1 (e ▸ List.mem_map_of_mem (f:=(·.1)) h),.inr h⟩
      · rintro (h | ⟨c,h | h⟩)
        · exact .inl h
        · exact absurd h.1 c
        · exact .inr h
    · rw [Q3 e,List.mem_cons,qgd hn.2 a w,List.mem_cons,Prod.mk.injEq]
      constructor
      · rintro (⟨rfl,rfl⟩ | h | ⟨c,d⟩)
        · exact .inr ⟨fun h=>e h.symm,.inl ⟨rfl,rfl⟩⟩
        · exact .inl h
        · exact .inr ⟨c,.inr d⟩
      · rintro (h | ⟨c,h | h⟩)
        · exact .inr (.inl h)
        · exact .inl h
        · exact .inr (.inr ⟨c,h⟩)
theorem q8g {k : α} {v : β} : ∀ {R : List (α × β)} (a : α),a∈(Ka k v R).map (·.1)↔a = k∨a∈R.map (·.1)
  | [],a=>by simp [Ka]
  | (b,u)::r,a=>by
    simp only [Ka]
    by_cases e : k = b
    · subst e;simp
    · simp only [e,if_false,List.map_cons,List.mem_cons,q8g a];constructor <;> (rintro (h | h | h) <;> simp [h])
theorem qgm {k : α} {v : β} : ∀ {R : List (α × β)},(R.map (·.1)).Nodup→((Ka k v R).map (·.1)).Nodup
  | [],_=>by simp [Ka]
  | (b,u)::r,hn=>by
    simp only [List.map_cons,List.nodup_cons] at hn
    simp only [Ka]
    by_cases e : k = b
    · subst e;simp only [if_true,List.map_cons,List.nodup_cons];exact hn
    · simp only [e,if_false,List.map_cons,List.nodup_cons]
      refine ⟨fun h=>?_,qgm hn.2⟩
      rcases (q8g b).1 h with h | h
      · exact e h.symm
      · exact hn.1 h
theorem qm5 {k : α} {v : β} : ∀ {R : List (α × β)},(Ka k v R).length≤R.length + 1
  | []=>by simp [Ka]
  | (b,u)::r=>by
    simp only [Ka]
    have:=qm5 (k:=k) (v:=v) (R:=r)
    split <;> simp <;> omega
end
def hk (s : qr) : Option (Int × qh):=if s.A.Y = s.B.Y then some (s.A.Y,{Lo:=min s.A.X s.B.X,Hi:=max s.A.X s.B.X}) else none
def vk (s : qr) : Option (Int × qh):=if s.A.Y = s.B.Y then none else some (s.A.X,{Lo:=min s.A.Y s.B.Y,Hi:=max s.A.Y s.B.Y})
def onL (L : List (Int × qh)) (k x : Int) : Prop:=∃ p∈L,p.1 = k∧p.2.Lo≤x∧x < p.2.Hi
def Y7 (L : List (Int × qh)) (k : Int) : List qh:=(L.filter fun p=>decide (p.1 = k)).map (·.2)
theorem q49 {L : List (Int × qh)} {k : Int} {t : qh} : t∈Y7 L k↔(k,t)∈L:=by
  simp only [Y7,List.mem_map,List.mem_filter,decide_eq_true_eq];constructor
  · rintro ⟨⟨a,b⟩,⟨c,rfl⟩,rfl⟩;exact c
  · intro h;exact ⟨(k,t),⟨h,rfl⟩,rfl⟩
theorem q2m {L : List (Int × qh)} {k : Int} : (Y7 L k).length≤L.length:=by
  simp only [Y7,List.length_map];exact List.length_filter_le _ _
theorem qkw {L : List (Int × qh)} {k x : Int} : has (Y7 L k) x↔onL L k x:=by
  constructor
  · rintro ⟨t,b,h⟩;exact ⟨(k,t),q49.1 b,rfl,h⟩
  · rintro ⟨⟨a,t⟩,b,rfl,h⟩;exact ⟨t,q49.2 b,h⟩
theorem qbr {L : List (Int × qh)} {k : Int} {t : qh} (a : Int) : Y7 (L ++ [(k,t)]) a = Y7 L a ++ (if a = k then [t] else []):=by
  simp only [Y7,List.filter_append,List.map_append,List.append_cancel_left_eq];by_cases e : k = a
  · subst e;simp
  · have : ¬ a = k:=fun h=>e h.symm;simp [e,this]
structure Grp (L : List (Int × qh)) (R : List (Int × List qh)) : Prop where
  nd : (R.map (·.1)).Nodup
  val : ∀ k v,(k,v)∈R→v = Y7 L k
  all : ∀ k t,(k,t)∈L→k∈R.map (·.1)
  own : ∀ k,k∈R.map (·.1)→∃ t,(k,t)∈L
theorem Grp.get {L : List (Int × qh)} {R : List (Int × List qh)} (h : Grp L R) (k : Int) : K7 [] k R = Y7 L k:=by
  by_cases hk : k∈R.map (·.1)
  · obtain ⟨⟨a,v⟩,b,rfl⟩:=List.mem_map.1 hk;rw [qdh h.nd b];exact h.val _ _ b
  · rw [qdi hk];symm;refine List.eq_nil_iff_forall_not_mem.2 fun t c=>?_;exact hk (h.all k t (q49.1 c))
theorem Grp.put {L : List (Int × qh)} {R : List (Int × List qh)} (h : Grp L R) (k : Int) (t : qh) : Grp (L ++ [(k,t)]) (Ka k (Y7 L k ++ [t]) R):=by
  refine ⟨qgm h.nd,fun a v f=>?_,fun a u d=>?_,fun a c=>?_⟩
  · rw [qbr];rcases (qgd h.nd a v).1 f with ⟨rfl,rfl⟩ | ⟨b,g⟩
    · rw [Q0 rfl]
    · rw [Q3 b,List.append_nil];exact h.val a v g
  · rw [q8g];rcases List.mem_append.1 d with b | b
    · exact .inr (h.all a u b)
    · simp only [List.mem_singleton,Prod.mk.injEq] at b;exact .inl b.1
  · rcases (q8g a).1 c with rfl | c
    · exact ⟨t,qb⟩
    · obtain ⟨u,d⟩:=h.own a c;exact ⟨u,by simp [d]⟩
theorem Grp.nil : Grp [] []:=⟨.nil,fun _ _ h=>(by cases h),fun _ _ h=>(by cases h),fun _ h=>(by cases h)⟩
theorem Grp.len {L : List (Int × qh)} {R : List (Int × List qh)} (h : Grp L R) : R.length≤L.length:=by
  have : (R.map (·.1)).length≤(L.map (·.1)).length:=by
    refine List.Nodup.length_le_of_subset h.nd fun k hk=>?_;obtain ⟨t,a⟩:=h.own k hk;exact List.mem_map_of_mem (f:=(·.1)) a
  simpa using this
structure Rep (R : List (Int × List qh)) (F : Int→Int→Prop) : Prop where
  nd : (R.map (·.1)).Nodup
  good : ∀ k v,(k,v)∈R→Good v
  len : ∀ k v,(k,v)∈R→v.length≤800
  pts : ∀ k v,(k,v)∈R→∀ x,has v x↔F k x
  all : ∀ k x,F k x→k∈R.map (·.1)
  cnt : R.length≤400
  key : ∀ k∈R.map (·.1),-1000000≤k∧k≤1000000
theorem Rep.get {R : List (Int × List qh)} {F : Int→Int→Prop} (h : Rep R F) (k x : Int) : has (K7 [] k R) x↔F k x:=by
  by_cases hk : k∈R.map (·.1)
  · obtain ⟨⟨a,v⟩,c,rfl⟩:=List.mem_map.1 hk;rw [qdh h.nd c];exact h.pts _ _ c x
  · rw [qdi hk];exact ⟨fun b=>absurd b (q1l x),fun b=>absurd (h.all k x b) hk⟩
theorem Rep.getlen {R : List (Int × List qh)} {F : Int→Int→Prop} (h : Rep R F) (k : Int) : (K7 [] k R).length≤800:=by
  by_cases hk : k∈R.map (·.1)
  · obtain ⟨⟨a,v⟩,b,rfl⟩:=List.mem_map.1 hk;rw [qdh h.nd b];exact h.len _ _ b
  · rw [qdi hk];simp
theorem qfa {L : List (Int × qh)} (d : L.length≤400) (b : ∀ k t,(k,t)∈L→vld t) : ∀ {R : List (Int × List qh)},(∀ k v,(k,v)∈R→v = Y7 L k)→U0 R = some (R.map fun e=>(e.1,U6 2 (Y7 L e.1) []))
  | [],_=>rfl
  | (k,v)::r,h=>by
    have e:=h k v qb
    have j:=qfa d b (R:=r) fun a w c=>h a w (by simp [c])
    have l:=q2m (L:=L) (k:=k)
    have g : qda v = (U6 2 (Y7 L k) [],0):=by
      subst e;unfold qda;rw [Q3 q7,Q0 fun t f=>b k t (q49.1 f)]
    simp only [U0,qv5,g,qn,j,List.map_cons]
theorem qnx {L : List (Int × qh)} {R : List (Int × List qh)} (h : Grp L R) (p : L.length≤400) (m : ∀ k t,(k,t)∈L→vld t) (hb : ∀ k t,(k,t)∈L→-1000000≤k∧k≤1000000) : Rep (R.map fun e=>(e.1,U6 2 (Y7 L e.1) [])) (onL L):=by
  have J : ∀ k,qer 2 (Y7 L k) [] (U6 2 (Y7 L k) []):=fun k=>(ql1 2 _ _ (by have:=q2m (L:=L) (k:=k);omega) qb).2
  have c : ∀ k v,(k,v)∈(R.map fun e=>(e.1,U6 2 (Y7 L e.1) []))→v = U6 2 (Y7 L k) []:=by
    intro k v f;obtain ⟨e,q,n⟩:=List.mem_map.1 f;cases n;rfl
  have b : (R.map fun e=>(e.1,U6 2 (Y7 L e.1) [])).map (·.1) = R.map (·.1):=by simp
  refine ⟨by rw [b];exact h.nd,fun k v f=>?_,fun k v f=>?_,fun k v f x=>?_,fun k x d=>?_,?_,fun k hk=>?_⟩
  · rw [c k v f];refine ⟨fun t g=>⟨(J k).can.1 t g,?_⟩,(J k).can.2⟩;obtain ⟨e1,o⟩:=(J k).ends t g
    have j : ∀ x,x∈ends (Y7 L k)∨x∈ends []→-1000000≤x∧x≤1000000:=by
      rintro x (d | d)
      · obtain ⟨u,l,d⟩:=q8c.1 d;have:=m k u (q49.1 l);unfold vld at this;rcases d with rfl | rfl <;> omega
      · cases d
    exact ⟨(j _ e1).1,(j _ o).2⟩
  · rw [c k v f];have:=(J k).len;have:=q2m (L:=L) (k:=k);simp only [List.length_nil,Nat.add_zero] at *;omega
  · rw [c k v f,(J k).pts,qkw];simp [q2c,q1l]
  · rw [b];obtain ⟨⟨a,t⟩,hp,rfl,_⟩:=d;exact h.all _ _ hp
  · have:=h.len;simp;omega
  · rw [b] at hk;obtain ⟨t,g⟩:=h.own k hk;exact hb k t g
theorem qrc {r : Y8} {s : qr} {L M : List (Int × qh)} (c : Grp L r.rows_) (b : Grp M r.columns_) (g : L.length≤1000) (f : M.length≤1000) : ∃ a,q18 r s = some a∧Grp (L ++ (hk s).toList) a.rows_∧Grp (M ++ (vk s).toList) a.columns_:=by
  unfold q18 hk vk;by_cases e : s.A.Y = s.B.Y
  · have d : (s.A.Y == s.B.Y) = true:=by simpa using e
    rw [d,Q1,c.get,Y9 (by have:=q2m (L:=L) (k:=s.A.Y);simp;omega),Q0 e,Q0 e];refine ⟨_,rfl,c.put _ _,by simpa using b⟩
  · have d : (s.A.Y == s.B.Y) = false:=by simpa using e
    rw [d,qz,b.get,Y9 (by have:=q2m (L:=M) (k:=s.A.X);simp;omega),Q3 e,Q3 e];refine ⟨_,rfl,by simpa using c,b.put _ _⟩
theorem qjf : ∀ (l : List qr) {r : Y8} {L M : List (Int × qh)},Grp L r.rows_→Grp M r.columns_→L.length + l.length≤1000→M.length + l.length≤1000→∃ a,q1y l r = some a∧Grp (L ++ l.filterMap hk) a.rows_∧Grp (M ++ l.filterMap vk) a.columns_
  | [],r,L,M,h1,h2,_,_=>⟨r,rfl,by simpa using h1,by simpa using h2⟩
  | s::l,r,L,M,h1,h2,hl,hm=>by
    simp only [List.length_cons] at hl hm
    obtain ⟨n,e1,f,d⟩:=qrc (s:=s) h1 h2 q7 q7
    have m : (hk s).toList.length≤1:=by cases hk s <;> simp
    have k : (vk s).toList.length≤1:=by cases vk s <;> simp
    obtain ⟨b,g,j,c⟩:=qjf l f d (by simp;omega) (by simp;omega)
    refine ⟨b,by simp only [q1y,e1,qn,g],?_,?_⟩
    · have : L ++ (s::l).filterMap hk = L ++ (hk s).toList ++ l.filterMap hk:=by cases h : hk s <;> simp [h]
      rw [this];exact j
    · have : M ++ (s::l).filterMap vk = M ++ (vk s).toList ++ l.filterMap vk:=by cases h : vk s <;> simp [h]
      rw [this];exact c
structure SegV (s : qr) : Prop where
  a : -1000000≤s.A.X∧s.A.X≤1000000∧-1000000≤s.A.Y∧s.A.Y≤1000000
  b : -1000000≤s.B.X∧s.B.X≤1000000∧-1000000≤s.B.Y∧s.B.Y≤1000000
  or : (s.A.X = s.B.X∧s.A.Y≠s.B.Y)∨(s.A.X≠s.B.X∧s.A.Y = s.B.Y)
def q2i (l : List qr) : List (Int × qh):=l.filterMap hk
def q1z (l : List qr) : List (Int × qh):=l.filterMap vk
theorem q5l {l : List qr} {k : Int} {t : qh} : (k,t)∈q2i l↔∃ s∈l,s.A.Y = s.B.Y∧k = s.A.Y∧t = {Lo:=min s.A.X s.B.X,Hi:=max s.A.X s.B.X}:=by
  simp only [q2i,List.mem_filterMap,hk];constructor
  · rintro ⟨s,hs,h⟩;split at h
    · cases h;exact ⟨s,hs,by assumption,rfl,rfl⟩
    · cases h
  · rintro ⟨s,hs,a,rfl,rfl⟩;exact ⟨s,hs,by rw [Q0 a]⟩
theorem q5k {l : List qr} {k : Int} {t : qh} : (k,t)∈q1z l↔∃ s∈l,s.A.Y≠s.B.Y∧k = s.A.X∧t = {Lo:=min s.A.Y s.B.Y,Hi:=max s.A.Y s.B.Y}:=by
  simp only [q1z,List.mem_filterMap,vk];constructor
  · rintro ⟨s,hs,h⟩;split at h
    · cases h
    · cases h;exact ⟨s,hs,by assumption,rfl,rfl⟩
  · rintro ⟨s,hs,a,rfl,rfl⟩;exact ⟨s,hs,by rw [Q3 a]⟩
theorem qzz (l : List qr) : (q2i l).length≤l.length:=List.length_filterMap_le _ _
theorem qrf (l : List qr) : (q1z l).length≤l.length:=List.length_filterMap_le _ _
theorem qhh {l : List qr} (h : ∀ s∈l,SegV s) : ∀ k t,(k,t)∈q2i l→vld t:=by
  intro k t a;obtain ⟨s,hs,j,_,rfl⟩:=q5l.1 a;obtain ⟨⟨f,g,m,b⟩,⟨b1,b2,d,c⟩,o⟩:=h s hs;unfold vld;simp only;omega
theorem qo6 {l : List qr} (h : ∀ s∈l,SegV s) : ∀ k t,(k,t)∈q2i l→-1000000≤k∧k≤1000000:=by
  intro k t b;obtain ⟨s,hs,c,rfl,rfl⟩:=q5l.1 b;exact ⟨(h s hs).a.2.2.1,(h s hs).a.2.2.2⟩
theorem qjg {l : List qr} (h : ∀ s∈l,SegV s) : ∀ k t,(k,t)∈q1z l→-1000000≤k∧k≤1000000:=by
  intro k t b;obtain ⟨s,hs,c,rfl,rfl⟩:=q5k.1 b;exact ⟨(h s hs).a.1,(h s hs).a.2.1⟩
theorem qfc {l : List qr} (h : ∀ s∈l,SegV s) : ∀ k t,(k,t)∈q1z l→vld t:=by
  intro k t a;obtain ⟨s,hs,j,_,rfl⟩:=q5k.1 a;obtain ⟨⟨f,g,m,b⟩,⟨b1,b2,d,c⟩,o⟩:=h s hs;unfold vld;simp only;omega
theorem qck {l : List qr} (d : l.length≤400) (a : ∀ s∈l,SegV s) : ∃ r,q7b l = some r∧Rep r.rows_ (onL (q2i l))∧Rep r.columns_ (onL (q1z l)):=by
  obtain ⟨r,e,c,b⟩:=qjf l (r:={rows_:=[],columns_:=[]}) .nil .nil (by simp;omega) (by simp;omega);simp only [List.nil_append] at c b;have f:=qzz l;have n2:=qrf l;refine ⟨{rows_:=_,columns_:=_},?_,qnx c (by show (q2i l).length≤400;omega) (qhh a) (qo6 a),qnx b (by show (q1z l).length≤400;omega) (qfc a) (qjg a)⟩;unfold q7b;rw [Q2 (show l.length≤1000000 by omega),Q1,e,qn,qfa (L:=q2i l) q7 (qhh a) c.val,qn,qfa (L:=q1z l) q7 (qfc a) b.val];rfl
end Go.Sh
