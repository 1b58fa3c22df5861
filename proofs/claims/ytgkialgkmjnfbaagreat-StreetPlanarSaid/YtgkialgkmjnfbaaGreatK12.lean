/- Pg4 Pg5 Pg6 Pj1 Pj2 Pl4 Pj3 St1 -/
import Derived.Test.YtgkialgkmjnfbaaGreatK11
namespace Go.Sh
open Go Go.Am
section
variable {T : Type} [Inhabited T] {P : T→Prop} {lt : T→T→Bool} {q : T→T→Option Int}
theorem qhj {f : Int→Option (Int ⊕ Int)} (p : T→Bool) (d : Array T) (j : Nat)
    (b : ∀ k : Nat,k≤1000002→f (k : Int) = if (decide (k≤j) && p d[k]!) = true then some (.inl ((k + 1 : Nat) : Int)) else some (.inr (k : Int))) (g : j≤1000000) :
    ∀ (m i : Nat),j + 1 - i = m→i≤1000002→loop f (i : Int) = some ((Sort.scanUp p d j i : Nat) : Int):=by
  intro m
  induction m with
  | zero=>
    intro i c hi;unfold Sort.scanUp;have a : ¬ (decide (i≤j) && p d[i]!) = true:=by simp;omega
    rw [Q3 a];exact Kh (by rw [b i hi,Q3 a])
  | succ m ih=>
    intro i c hi;unfold Sort.scanUp;by_cases a : (decide (i≤j) && p d[i]!) = true
    · rw [Q0 a,Kf (by rw [b i hi,Q0 a])];exact ih (i + 1) q7 q7
    · rw [Q3 a];exact Kh (by rw [b i hi,Q3 a])
theorem qe6 {f : Int→Option (Int ⊕ Int)} (p : T→Bool) (d : Array T) (i n : Nat) (hi : 1≤i)
    (b : ∀ k : Nat,k < n→f (k : Int) = if (decide (i≤k) && p d[k]!) = true then some (.inl ((k - 1 : Nat) : Int)) else some (.inr (k : Int))) :
    ∀ (j : Nat),j < n→loop f (j : Int) = some ((Sort.scanDown p d i j : Nat) : Int)
  | 0,hj=>by
    have a : ¬ (decide (i≤0) && p d[0]!) = true:=by simp;omega
    exact Kh (by rw [b 0 hj,Q3 a];rfl)
  | j + 1,hj=>by
    unfold Sort.scanDown
    by_cases a : (decide (i≤j + 1) && p d[j + 1]!) = true
    · rw [Q0 a,Kf (by rw [b (j + 1) hj,Q0 a])]
      exact qe6 p d i n hi b j q7
    · rw [Q3 a]
      exact Kh (by rw [b (j + 1) hj,Q3 a])
theorem qn9 (b : Y6 q lt P) {n : Nat} {d : Array T} (hd : AllP n P d) {a j : Nat} (c : a < n) (m : j < n) (x : Int) (k : Nat) (hk : k≤1000002) :
    Jd (x,(j : Int),d.toList) (a : Int) q (k : Int) = if (decide (k≤j) && (fun x=>lt x d[a]!) d[k]!) = true then some (.inl ((k + 1 : Nat) : Int)) else some (.inr (k : Int)):=by
  have l:=hd.1;by_cases h : k≤j
  · obtain ⟨r,g,f⟩:=b d[k]! d[a]! (hd.2.2 _ q7) (hd.2.2 _ c);have t : decide ((k : Int)≤(j : Int)) = true:=Q2 q7;simp only [Jd,t,Q1,gx (d:=d) (k:=k) q7,gx (d:=d) (k:=a) q7,qn,g,f,w1p k q7];simp only [Q2 h,Bool.true_and,Bool.cond_eq_ite]
  · have t : decide ((k : Int)≤(j : Int)) = false:=Q4 q7;simp only [Jd,t,qx,qn];simp [h]
theorem qna (c : Y6 q lt P) {n : Nat} {d : Array T} (hd : AllP n P d) {a i : Nat} (f : a < n) (hi : 1≤i) (x y : Int) (k : Nat) (hk : k < n) :
    Je (i : Int) (x,y,d.toList) (a : Int) q (k : Int) = if (decide (i≤k) && (fun x=>!lt x d[a]!) d[k]!) = true then some (.inl ((k - 1 : Nat) : Int)) else some (.inr (k : Int)):=by
  have j:=hd.1;have l:=hd.2.1;by_cases h : i≤k
  · obtain ⟨r,g,b⟩:=c d[k]! d[a]! (hd.2.2 _ q7) (hd.2.2 _ f);have t : decide ((i : Int)≤(k : Int)) = true:=Q2 q7;have w : w64 ((k : Int) - 1) = ((k - 1 : Nat) : Int):=by rw [Q9 q7];omega
    simp only [Je,t,Q1,gx (d:=d) (k:=k) q7,gx (d:=d) (k:=a) q7,qn,g,b,w];simp only [Q2 h,Bool.true_and,Bool.cond_eq_ite]
  · have t : decide ((i : Int)≤(k : Int)) = false:=Q4 q7;simp only [Je,t,qx,qn];simp [h]
theorem qxy (b : Y6 q lt P) {n : Nat} {d : Array T} (hd : AllP n P d) {a j : Nat} (c : a < n) (m : j < n) (x : Int) (k : Nat) (hk : k≤1000002) :
    Ul (x,(j : Int),d.toList) (a : Int) q (k : Int) = if (decide (k≤j) && (fun x=>!lt d[a]! x) d[k]!) = true then some (.inl ((k + 1 : Nat) : Int)) else some (.inr (k : Int)):=by
  have l:=hd.1;by_cases h : k≤j
  · obtain ⟨r,g,f⟩:=b d[a]! d[k]! (hd.2.2 _ c) (hd.2.2 _ q7);have t : decide ((k : Int)≤(j : Int)) = true:=Q2 q7;simp only [Ul,t,Q1,gx (d:=d) (k:=k) q7,gx (d:=d) (k:=a) q7,qn,g,f,w1p k q7];simp only [Q2 h,Bool.true_and,Bool.cond_eq_ite]
  · have t : decide ((k : Int)≤(j : Int)) = false:=Q4 q7;simp only [Ul,t,qx,qn];simp [h]
theorem qxz (c : Y6 q lt P) {n : Nat} {d : Array T} (hd : AllP n P d) {a i : Nat} (f : a < n) (hi : 1≤i) (x y : Int) (k : Nat) (hk : k < n) :
    Um (i : Int) (x,y,d.toList) (a : Int) q (k : Int) = if (decide (i≤k) && (fun x=>lt d[a]! x) d[k]!) = true then some (.inl ((k - 1 : Nat) : Int)) else some (.inr (k : Int)):=by
  have j:=hd.1;have l:=hd.2.1;by_cases h : i≤k
  · obtain ⟨r,g,b⟩:=c d[a]! d[k]! (hd.2.2 _ f) (hd.2.2 _ q7);have t : decide ((i : Int)≤(k : Int)) = true:=Q2 q7;have w : w64 ((k : Int) - 1) = ((k - 1 : Nat) : Int):=by rw [Q9 q7];omega
    simp only [Um,t,Q1,gx (d:=d) (k:=k) q7,gx (d:=d) (k:=a) q7,qn,g,b,w];simp only [Q2 h,Bool.true_and,Bool.cond_eq_ite]
  · have t : decide ((i : Int)≤(k : Int)) = false:=Q4 q7;simp only [Um,t,qx,qn];simp [h]
theorem qxt (o : Y6 q lt P) (a n : Nat) (r : a < n) : ∀ (m i j : Nat) (d : Array T),j + 1 - i = m→AllP n P d→1≤i→i≤n + 1→j < n→
    loop (q1h (a : Int) q) ((i : Int),(j : Int),d.toList) = some (((Sort.partLoop lt a i j d).1 : Int),(Sort.partLoop lt a i j d).2.toList)∧AllP n P (Sort.partLoop lt a i j d).2∧(Sort.partLoop lt a i j d).1 < n:=by
  intro m
  induction m using Nat.strongRecOn with
  | _ m ih=>
    intro i j d hm hd hi v p;have z:=hd.1;have hn:=hd.2.1;rw [Sort.partLoop_eq];have s1:=qhj (f:=Jd ((i : Int),(j : Int),d.toList) (a : Int) q) (fun x=>lt x d[a]!) d j (fun k hk=>qn9 o hd r p _ k hk) q7 _ i rfl q7;have g1:=Sort.scanUp_ge (fun x=>lt x d[a]!) d j i;have y:=(Sort.scanUp_spec (fun x=>lt x d[a]!) d j _ i rfl).2.1;generalize Sort.scanUp (fun x=>lt x d[a]!) d j i = c at s1 g1 y ⊢;have l:=qe6 (f:=Je (c : Int) ((i : Int),(j : Int),d.toList) (a : Int) q) (fun x=>!lt x d[a]!) d c n q7 (fun k hk=>qna o hd r q7 _ _ k hk) j p;have u:=Sort.scanDown_le (fun x=>!lt x d[a]!) d c j;generalize Sort.scanDown (fun x=>!lt x d[a]!) d c j = g at l u ⊢;by_cases s : c > g
    · rw [Q0 s];have t : decide ((c : Int) > (g : Int)) = true:=Q2 q7;refine ⟨Kh ?_,hd,by show g < n;omega⟩;simp only [q1h,s1,l,qn,t,Q1]
    · rw [Q3 s];have t : decide ((c : Int) > (g : Int)) = false:=Q4 q7;have h:=ih ((g - 1) + 1 - (c + 1)) q7 (c + 1) (g - 1) _ rfl (hd.swp (a:=c) (b:=g) q7 q7) q7 q7 q7;refine ⟨?_,h.2⟩;rw [Kf (a':=(((c + 1 : Nat) : Int),((g - 1 : Nat) : Int),(Sort.swp d c g).toList)) ?_]
      · exact h.1
      · have w : w64 ((g : Int) - 1) = ((g - 1 : Nat) : Int):=by rw [Q9 q7];omega
        simp only [q1h,s1,l,qn,t,qx,gx (d:=d) (k:=c) q7,gx (d:=d) (k:=g) q7,gxs (d:=d) (k:=g) q7,Int.toNat_natCast,gswp,w,w1p c q7]
theorem qxs (l : Y6 q lt P) (a n : Nat) (p : a < n) : ∀ (m i j : Nat) (d : Array T),j + 1 - i = m→AllP n P d→1≤i→i≤n + 1→j < n→
    loop (q1g (a : Int) q) ((i : Int),(j : Int),d.toList) = some (((Sort.partEqLoop lt a i j d).1 : Int),(Sort.partEqLoop lt a i j d).2.toList):=by
  intro m
  induction m using Nat.strongRecOn with
  | _ m ih=>
    intro i j d hm hd hi u o;have y:=hd.1;have hn:=hd.2.1;rw [Sort.partEqLoop_eq];have s1:=qhj (f:=Ul ((i : Int),(j : Int),d.toList) (a : Int) q) (fun x=>!lt d[a]! x) d j (fun k hk=>qxy l hd p o _ k hk) q7 _ i rfl q7;have z:=Sort.scanUp_ge (fun x=>!lt d[a]! x) d j i;have v:=(Sort.scanUp_spec (fun x=>!lt d[a]! x) d j _ i rfl).2.1;generalize Sort.scanUp (fun x=>!lt d[a]! x) d j i = c at s1 z v ⊢;have h:=qe6 (f:=Um (c : Int) ((i : Int),(j : Int),d.toList) (a : Int) q) (fun x=>lt d[a]! x) d c n q7 (fun k hk=>qxz l hd p q7 _ _ k hk) j o;have s:=Sort.scanDown_le (fun x=>lt d[a]! x) d c j;generalize Sort.scanDown (fun x=>lt d[a]! x) d c j = g at h s ⊢;by_cases r : c > g
    · rw [Q0 r];have t : decide ((c : Int) > (g : Int)) = true:=Q2 q7;refine Kh ?_;simp only [q1g,s1,h,qn,t,Q1]
    · rw [Q3 r];have t : decide ((c : Int) > (g : Int)) = false:=Q4 q7;rw [Kf (a':=(((c + 1 : Nat) : Int),((g - 1 : Nat) : Int),(Sort.swp d c g).toList)) ?_]
      · exact ih ((g - 1) + 1 - (c + 1)) q7 (c + 1) (g - 1) _ rfl (hd.swp (a:=c) (b:=g) q7 q7) q7 q7 q7
      · have w : w64 ((g : Int) - 1) = ((g - 1 : Nat) : Int):=by rw [Q9 q7];omega
        simp only [q1g,s1,h,qn,t,qx,gx (d:=d) (k:=c) q7,gx (d:=d) (k:=g) q7,gxs (d:=d) (k:=g) q7,Int.toNat_natCast,gswp,w,w1p c q7]
theorem qxv (c : Y6 q lt P) {a b n p : Nat} (hb : b≤n) (f : a < b) (hp : p < n) {d : Array T} (hd : AllP n P d) :
    q1f q d.toList (a : Int) (b : Int) (p : Int) = some (((Sort.partitionEqual lt d a b p).1 : Int),(Sort.partitionEqual lt d a b p).2.toList):=by
  have g:=hd.1;have h:=hd.2.1;have w : w64 ((b : Int) - 1) = ((b - 1 : Nat) : Int):=by rw [Q9 q7];omega
  have s:=qxs c a n q7 _ (a + 1) (b - 1) _ rfl (hd.swp (a:=a) (b:=p) q7 hp) q7 q7 q7;unfold q1f Sort.partitionEqual;simp only [gx (d:=d) (k:=p) q7,gx (d:=d) (k:=a) q7,gxs (d:=d) (k:=p) q7,qn,Int.toNat_natCast,gswp,w,w1p a q7,s]
theorem qxw (j : Y6 q lt P) {a b n p : Nat} (hb : b≤n) (r : a < b) (hp : p < n) {d : Array T} (hd : AllP n P d) :
    q1e q d.toList (a : Int) (b : Int) (p : Int) = some (((Sort.partition lt d a b p).1 : Int),(Sort.partition lt d a b p).2.1,(Sort.partition lt d a b p).2.2.toList):=by
  have z:=hd.1;have hn:=hd.2.1;have w : w64 ((b : Int) - 1) = ((b - 1 : Nat) : Int):=by rw [Q9 q7];omega
  have h:=hd.swp (a:=a) (b:=p) q7 hp
  have e1 : q28 (b : Int) d.toList (a : Int) d[p]! (p : Int) d[a]! q = Jd ((0 : Int),((b - 1 : Nat) : Int),(Sort.swp d a p).toList) (a : Int) q:=by
    funext k;simp only [q28,Jd,w,Int.toNat_natCast,gswp]
  have y : ∀ c : Int,q29 c d.toList (a : Int) d[p]! (p : Int) d[a]! q = Je c ((0 : Int),(0 : Int),(Sort.swp d a p).toList) (a : Int) q:=by
    intro c;funext k;simp only [q29,Je,Int.toNat_natCast,gswp]
  unfold q1e Sort.partition;simp only [gx (d:=d) (k:=p) q7,gx (d:=d) (k:=a) q7,gxs (d:=d) (k:=p) q7,qn,e1,y,Int.toNat_natCast,gswp,w,w1p a q7];generalize Sort.swp d a p = D at h ⊢;have ab:=h.1;have s1:=qhj (f:=Jd ((0 : Int),((b - 1 : Nat) : Int),D.toList) (a : Int) q) (fun x=>lt x D[a]!) D (b - 1) (fun k hk=>qn9 j h q7 q7 _ k hk) q7 _ (a + 1) rfl q7;have g1:=Sort.scanUp_ge (fun x=>lt x D[a]!) D (b - 1) (a + 1);generalize Sort.scanUp (fun x=>lt x D[a]!) D (b - 1) (a + 1) = c at s1 g1 ⊢;have l:=qe6 (f:=Je (c : Int) ((0 : Int),(0 : Int),D.toList) (a : Int) q) (fun x=>!lt x D[a]!) D c n q7 (fun k hk=>qna j h q7 q7 _ _ k hk) (b - 1) q7;have u:=Sort.scanDown_le (fun x=>!lt x D[a]!) D c (b - 1);generalize Sort.scanDown (fun x=>!lt x D[a]!) D c (b - 1) = g at l u ⊢;simp only [s1,l,qn];by_cases o : c > g
  · have t : decide ((c : Int) > (g : Int)) = true:=Q2 q7;simp only [Q0 o,t,Q1,gx (d:=D) (k:=a) q7,gx (d:=D) (k:=g) q7,gxs (d:=D) (k:=a) q7,qn,Int.toNat_natCast,gswp]
  · have t : decide ((c : Int) > (g : Int)) = false:=Q4 q7;have w2 : w64 ((g : Int) - 1) = ((g - 1 : Nat) : Int):=by rw [Q9 q7];omega
    obtain ⟨s3,m,s⟩:=qxt j a n q7 _ (c + 1) (g - 1) _ rfl (h.swp (a:=c) (b:=g) q7 q7) q7 q7 q7;simp only [Q3 o,t,qx,gx (d:=D) (k:=c) q7,gx (d:=D) (k:=g) q7,gxs (d:=D) (k:=g) q7,qn,Int.toNat_natCast,gswp,w2,w1p c q7,s3];generalize Sort.partLoop lt a (c + 1) (g - 1) (Sort.swp D c g) = R at m s ⊢;have v:=m.1;simp only [gx (d:=R.2) (k:=a) q7,gx (d:=R.2) (k:=R.1) q7,gxs (d:=R.2) (k:=a) q7,qn,gswp]
theorem q10i (l : Y6 q lt P) {b n : Nat} (hb : b≤n) {d : Array T} (hd : AllP n P d) (x y : Int) : ∀ (m i : Nat),b - i = m→1≤i→i≤b→
    loop (Uj (b : Int) (x,y,d.toList) q) (i : Int) = some ((Sort.scanSorted lt d b i : Nat) : Int)∧i≤Sort.scanSorted lt d b i∧Sort.scanSorted lt d b i≤b:=by
  have o:=hd.1;have p:=hd.2.1;intro m
  induction m with
  | zero=>
    intro i j hi a;unfold Sort.scanSorted;rw [Q3 (by simp;omega)];have t : decide ((i : Int) < (b : Int)) = false:=Q4 q7;exact ⟨Kh (by simp only [Uj,t,qx,qn]),Nat.le_refl _,a⟩
  | succ m ih=>
    intro i j hi a;unfold Sort.scanSorted;have t : decide ((i : Int) < (b : Int)) = true:=Q2 q7;have w : w64 ((i : Int) - 1) = ((i - 1 : Nat) : Int):=by rw [Q9 q7];omega
    obtain ⟨r,h,g⟩:=l d[i]! d[i - 1]! (hd.2.2 _ q7) (hd.2.2 _ q7);by_cases c : lt d[i]! d[i - 1]! = true
    · rw [Q3 (by simp [c])];refine ⟨Kh ?_,Nat.le_refl _,a⟩;simp only [Uj,t,Q1,w,gx (d:=d) (k:=i) q7,gx (d:=d) (k:=i - 1) q7,qn,h,g,c,Bool.not_true,qx]
    · have c : lt d[i]! d[i - 1]! = false:=by simpa using c
      rw [Q0 (by simp [c];omega)];have f:=ih (i + 1) q7 q7 q7;refine ⟨?_,q7,f.2.2⟩;rw [Kf (a':=((i + 1 : Nat) : Int)) ?_]
      · exact f.1
      · simp only [Uj,t,Q1,w,gx (d:=d) (k:=i) q7,gx (d:=d) (k:=i - 1) q7,qn,h,g,c,Bool.not_false,w1p i q7]
theorem qon (g : Y6 q lt P) (n : Nat) : ∀ (j : Nat) (d : Array T),AllP n P d→j < n→loop (U1 q) ((j : Int),d.toList) = some (Sort.shiftDown lt j d).toList∧AllP n P (Sort.shiftDown lt j d)
  | 0,d,hd,hj=>by
    have t : decide (((0 : Nat) : Int) ≥ 1) = false:=Q4 q7
    exact ⟨Kh (by simp only [U1,t,qx];rfl),hd⟩
  | j + 1,d,hd,hj=>by
    have m:=hd.1
    have o:=hd.2.1
    have t : decide (((j + 1 : Nat) : Int) ≥ 1) = true:=Q2 q7
    obtain ⟨r,l,f⟩:=g d[j + 1]! d[j]! (hd.2.2 _ hj) (hd.2.2 _ q7)
    unfold Sort.shiftDown
    by_cases c : lt d[j + 1]! d[j]! = true
    · rw [Q3 (by simp [c])]
      have h:=qon g n j _ (hd.swp (a:=j + 1) (b:=j) hj q7) q7
      refine ⟨?_,h.2⟩
      rw [Kf (a':=((j : Int),(Sort.swp d (j + 1) j).toList)) ?_]
      · exact h.1
      · simp only [U1,t,Q1,gx (d:=d) (k:=j + 1) q7,w1m j q7,gx (d:=d) (k:=j) q7,gxs (d:=d) (k:=j) q7,qn,l,f,c,Bool.not_true,qx,Int.toNat_natCast,gswp]
    · have c : lt d[j + 1]! d[j]! = false:=by simpa using c
      rw [Q0 (by simp [c])]
      refine ⟨Kh ?_,hd⟩
      simp only [U1,t,Q1,gx (d:=d) (k:=j + 1) q7,w1m j q7,gx (d:=d) (k:=j) q7,qn,l,f,c,Bool.not_false]
theorem qop (p : Y6 q lt P) {b n : Nat} (hb : b≤n) (c : Int) : ∀ (m j : Nat) (d : Array T),b - j = m→AllP n P d→1≤j→loop (Uk (b : Int) q c) ((j : Int),d.toList) = some (c,(Sort.shiftUp lt b j d).toList)∧AllP n P (Sort.shiftUp lt b j d):=by
  intro m
  induction m with
  | zero=>
    intro j d o hd s;unfold Sort.shiftUp;rw [Q3 q7];have t : decide ((j : Int) < (b : Int)) = false:=Q4 q7;exact ⟨Kh (by simp only [Uk,t,qx]),hd⟩
  | succ m ih=>
    intro j d o hd s;have u:=hd.1;have v:=hd.2.1;unfold Sort.shiftUp;rw [Q0 q7];have t : decide ((j : Int) < (b : Int)) = true:=Q2 q7;have w : w64 ((j : Int) - 1) = ((j - 1 : Nat) : Int):=by rw [Q9 q7];omega
    obtain ⟨r,l,h⟩:=p d[j]! d[j - 1]! (hd.2.2 _ q7) (hd.2.2 _ q7);by_cases f : lt d[j]! d[j - 1]! = true
    · rw [Q3 (by simp [f])];have g:=ih (j + 1) _ q7 (hd.swp (a:=j) (b:=j - 1) q7 q7) q7;refine ⟨?_,g.2⟩;rw [Kf (a':=(((j + 1 : Nat) : Int),(Sort.swp d j (j - 1)).toList)) ?_]
      · exact g.1
      · simp only [Uk,t,Q1,w,gx (d:=d) (k:=j) q7,gx (d:=d) (k:=j - 1) q7,gxs (d:=d) (k:=j - 1) q7,qn,l,h,f,Bool.not_true,qx,Int.toNat_natCast,gswp,w1p j q7]
    · have f : lt d[j]! d[j - 1]! = false:=by simpa using f
      rw [Q0 (by simp [f])];refine ⟨Kh ?_,hd⟩;simp only [Uk,t,Q1,w,gx (d:=d) (k:=j) q7,gx (d:=d) (k:=j - 1) q7,qn,l,h,f,Bool.not_false]
theorem qnc (j : Y6 q lt P) {a b n : Nat} (hb : b≤n) : ∀ (s i : Nat) (d : Array T),s≤5→AllP n P d→a < i→i≤b→
    ∃ m,loop (Zw (b : Int) q (a : Int)) ((i : Int),((5 - s : Nat) : Int),d.toList) = some m∧(match m with | .inl b441=>some (false,b441) | .inr x1=>some x1) = some ((Sort.partialIns lt a b s i d).2,(Sort.partialIns lt a b s i d).1.toList)
  | 0,i,d,hs,hd,hi,hib=>by
    have t : decide (((5 - 0 : Nat) : Int) < 5) = false:=Q4 q7
    refine ⟨.inl d.toList,Kh (by simp only [Zw,t,qx]),rfl⟩
  | s + 1,i,d,hs,hd,hi,hib=>by
    have ab:=hd.1
    have hn:=hd.2.1
    have t : decide (((5 - (s + 1) : Nat) : Int) < 5) = true:=Q2 q7
    rw [Sort.partialIns_succ]
    obtain ⟨s1,l1,w⟩:=q10i j hb hd (i : Int) ((5 - (s + 1) : Nat) : Int) _ i rfl q7 hib
    generalize Sort.scanSorted lt d b i = k at s1 l1 w ⊢
    by_cases hk : k = b
    · subst hk
      rw [Q0 rfl]
      refine ⟨.inr (true,d.toList),Kh ?_,rfl⟩
      simp only [Zw,t,Q1,s1,qn,beq_self_eq_true]
    · rw [Q3 hk]
      have v : ((k : Int) == (b : Int)) = false:=by simp;omega
      have e0 : w64 ((b : Int) - (a : Int)) = ((b - a : Nat) : Int):=wsub q7 q7
      by_cases o : b - a < 50
      · rw [Q0 o]
        have g : decide (((b - a : Nat) : Int) < 50) = true:=Q2 q7
        refine ⟨.inr (false,d.toList),Kh ?_,rfl⟩
        simp only [Zw,t,Q1,s1,qn,v,qx,e0,g]
      · rw [Q3 o]
        have g : decide (((b - a : Nat) : Int) < 50) = false:=Q4 q7
        have wk : w64 ((k : Int) - 1) = ((k - 1 : Nat) : Int):=by rw [Q9 q7];omega
        have wa : w64 ((k : Int) - (a : Int)) = ((k - a : Nat) : Int):=wsub q7 q7
        have wb : w64 ((b : Int) - (k : Int)) = ((b - k : Nat) : Int):=wsub q7 q7
        have l:=hd.swp (a:=k) (b:=k - 1) q7 q7
        have down : (cond (decide (((k - a : Nat) : Int) ≥ 2)) ((loop (U1 q) (((k - 1 : Nat) : Int),(Sort.swp d k (k - 1)).toList)).bind fun x0=>some x0) (some (Sort.swp d k (k - 1)).toList)) = some (Sort.fixDown lt a k (Sort.swp d k (k - 1))).toList∧AllP n P (Sort.fixDown lt a k (Sort.swp d k (k - 1))):=by
          unfold Sort.fixDown;by_cases h : k - a ≥ 2
          · have f : decide (((k - a : Nat) : Int) ≥ 2) = true:=Q2 q7;obtain ⟨x,y⟩:=qon j n (k - 1) _ l q7;rw [Q0 h,f,Q1,x];exact ⟨rfl,y⟩
          · have f : decide (((k - a : Nat) : Int) ≥ 2) = false:=Q4 q7;rw [Q3 h,f,qx];exact ⟨rfl,l⟩
        obtain ⟨dn,c⟩:=down
        have p : AllP n P (Sort.fixUp lt b k (Sort.fixDown lt a k (Sort.swp d k (k - 1)))):=by
          unfold Sort.fixUp;split
          · exact (qop j hb 0 _ (k + 1) _ rfl c q7).2
          · exact c
        obtain ⟨m,r,u⟩:=qnc (a:=a) j hb s k _ q7 p q7 w
        refine ⟨m,?_,u⟩
        rw [Kf (a':=((k : Int),((5 - s : Nat) : Int),(Sort.fixUp lt b k (Sort.fixDown lt a k (Sort.swp d k (k - 1)))).toList)) ?_]
        · exact r
        · have z : w64 (((5 - (s + 1) : Nat) : Int) + 1) = ((5 - s : Nat) : Int):=by rw [Q9 q7];omega
          simp only [Zw,t,Q1,s1,qn,v,qx,e0,g,wk,gx (d:=d) (k:=k) q7,gx (d:=d) (k:=k - 1) q7,gxs (d:=d) (k:=k - 1) q7,Int.toNat_natCast,gswp,wa,dn,wb,w1p k q7]
          unfold Sort.fixUp
          by_cases h : b - k ≥ 2
          · have f : decide (((b - k : Nat) : Int) ≥ 2) = true:=Q2 q7
            obtain ⟨x,y⟩:=qop j hb (k : Int) _ (k + 1) _ rfl c q7
            rw [Q0 h,f,Q1,x]
            simp only [qn,z]
          · have f : decide (((b - k : Nat) : Int) ≥ 2) = false:=Q4 q7
            rw [Q3 h,f,qx]
            simp only [qn,z]
theorem qxu (f : Y6 q lt P) {a b n : Nat} (hb : b≤n) (h : a < b) {d : Array T} (hd : AllP n P d) :
    Jm q d.toList (a : Int) (b : Int) = some ((Sort.partialInsertionSort lt d a b).2,(Sort.partialInsertionSort lt d a b).1.toList):=by
  have j:=hd.2.1;obtain ⟨m,c,g⟩:=qnc (a:=a) f hb 5 (a + 1) d q7 hd q7 q7;have c : loop (Zw (b : Int) q (a : Int)) (((a + 1 : Nat) : Int),0,d.toList) = some m:=c;unfold Jm Sort.partialInsertionSort;rw [w1p a q7,c];exact g
end
end Go.Sh
namespace Go.Sh
open Go Go.Am
theorem qls {α β : Type} {f : α→Option (α ⊕ β)} {a : α} (h : f a = none) : loop f a = none:=by
  apply Option.ext;intro b;rw [q8d];constructor
  · rintro ⟨n,c⟩
    cases n with
    | zero=>simp [iter] at c
    | succ n=>simp [iter,h] at c
  · intro h;cases h
section
variable {T : Type} [Inhabited T] {P : T→Prop} {lt : T→T→Bool} {q : T→T→Option Int}
def Srt (lt : T→T→Bool) (a b : Nat) (d : Array T) (o : Option (List T)) : Prop:=∃ d' : Array T,o = some d'.toList∧Sort.PermIn a b d d'∧Sort.SortedIn lt a b d'
theorem qxx (hq : Y6 q lt P) (hS : Sort.SWO lt) {n N : Nat} (af : List T→Int→Int→Int→Option (List T))
    (am : ∀ (a b f : Nat) (d : Array T),AllP n P d→a≤b→b≤n→f≤1000→Sort.Below lt a b d→Srt lt a b d (af d.toList (a : Int) (b : Int) (f : Int))∨(N≤b - a∧af d.toList (a : Int) (b : Int) (f : Int) = none)) :
    ∀ (m a b f : Nat) (wb wp : Bool) (d : Array T),b - a = m→AllP n P d→a≤b→b≤n→f≤1000→Sort.Below lt a b d→
      Srt lt a b d (loop (Zo q af) ((a : Int),(b : Int),(f : Int),wb,wp,d.toList))∨(N + 1≤b - a∧loop (Zo q af) ((a : Int),(b : Int),(f : Int),wb,wp,d.toList) = none):=by
  intro m
  induction m using Nat.strongRecOn with
  | _ m ih=>
    intro a b f wb wp d hm hd o hb hl hB;have cz:=hd.1;have hn:=hd.2.1;have e0 : w64 ((b : Int) - (a : Int)) = ((b - a : Nat) : Int):=wsub o q7;by_cases cy : b - a≤12
    ·
      have t : decide (((b - a : Nat) : Int)≤12) = true:=Q2 q7;obtain ⟨x,y⟩:=Sort.insertionSort_holds (lt:=lt) hS d a b o q7;have s:=quf hq hb o hd;refine .inl ⟨_,Kh ?_,x,y⟩;simp only [Zo,e0,t,Q1,s,qn,Uo hd (hd.perm o hb x)]
    have bm : decide (((b - a : Nat) : Int)≤12) = false:=Q4 q7;by_cases h0 : f = 0
    ·
      have t : ((f : Int) == 0) = true:=by simp [h0]
      obtain ⟨x,y⟩:=Sort.heapSort_holds (lt:=lt) hS d a b o q7;have s:=qu8 hq hb (by omega : a < b) hd;refine .inl ⟨_,Kh ?_,x,y⟩;simp only [Zo,e0,bm,qx,t,Q1,s,qn,Uo hd (hd.perm o hb x)]
    have t0 : ((f : Int) == 0) = false:=by simp [h0]
    have hA : ∃ (l1 : Nat) (d1 : Array T),(cond (!wb) ((q1a q d.toList (a : Int) (b : Int)).bind fun ba=>(Qz ba.length d.toList.length).bind fun cr=>some (w64 ((f : Int) - 1),ba)) (some ((f : Int),d.toList))) = some ((l1 : Int),d1.toList)∧l1≤1000∧AllP n P d1∧Sort.PermIn a b d d1:=by
      cases wb with
      | true=>exact ⟨f,d,rfl,hl,hd,Sort.permIn_refl _ _ _⟩
      | false=>
        have x:=Sort.breakPatterns_holds d a b o q7;have z:=hd.perm o hb x;have w : w64 ((f : Int) - 1) = ((f - 1 : Nat) : Int):=by rw [Q9 q7];omega
        refine ⟨f - 1,_,?_,q7,z,x⟩;simp only [Bool.not_false,Q1,qqg (q:=q) hb (by omega : a < b) hd,qn,Uo hd z,w]
    obtain ⟨l1,d1,eA,an,z,p1⟩:=hA;have hC:=qrh hq z (by omega : a < b) hb;obtain ⟨c1,c2⟩:=Sort.choosePivot_holds lt d1 a b q7;generalize (Sort.choosePivot lt d1 a b).1 = c at hC c1 c2;generalize qg2 (Sort.choosePivot lt d1 a b).2 = h at hC
    have hR : ∃ (p : Nat) (h2 : Int) (d2 : Array T),(cond (h == 2) ((q1i q d1.toList (a : Int) (b : Int)).bind fun bd=>(Qz bd.length d1.toList.length).bind fun co=>some (w64 ((w64 ((b : Int) - 1)) - (w64 ((c : Int) - (a : Int)))),(1 : Int),bd)) (some ((c : Int),h,d1.toList))) = some ((p : Int),h2,d2.toList)∧a≤p∧p < b∧AllP n P d2∧Sort.PermIn a b d1 d2:=by
      cases hh : (h == 2) with
      | false=>exact ⟨c,h,d1,rfl,c1,c2,z,Sort.permIn_refl _ _ _⟩
      | true=>
        have x:=Sort.reverseRange_holds d1 a b o (by rw [z.1];exact hb);have ac:=z.perm o hb x;have w1 : w64 ((b : Int) - 1) = ((b - 1 : Nat) : Int):=by rw [Q9 q7];omega
        have w2 : w64 ((c : Int) - (a : Int)) = ((c - a : Nat) : Int):=wsub c1 q7;have w3 : w64 (((b - 1 : Nat) : Int) - ((c - a : Nat) : Int)) = ((b - 1 - (c - a) : Nat) : Int):=wsub q7 q7;refine ⟨b - 1 - (c - a),1,_,?_,q7,q7,ac,x⟩;simp only [Q1,qzx (q:=q) hb (by omega : a < b) z,qn,Uo z ac,w1,w2,w3]
    obtain ⟨p,h2,d2,eR,hp1,hp2,ac,p2⟩:=hR;have bv : Sort.Below lt a b d2:=(hB.perm q7 p1).perm (by rw [z.1];exact hb) p2;have bp:=Sort.permIn_trans _ _ _ a b p1 p2
    have hP : ∀ cc : Bool,∃ ab : (List T) ⊕ (List T),(cond cc ((Jm q d2.toList (a : Int) (b : Int)).bind fun ag=>(Qz ag.2.length d2.toList.length).bind fun cx=>cond ag.1 (some (.inr ag.2)) (some (.inl ag.2))) (some (.inl d2.toList)) : Option ((List T) ⊕ (List T))) = some ab∧
        ((∃ l : Array T,ab = .inr l.toList∧Sort.PermIn a b d2 l∧Sort.SortedIn lt a b l)∨(∃ l : Array T,ab = .inl l.toList∧AllP n P l∧Sort.PermIn a b d2 l)):=by
      intro cc
      cases cc with
      | false=>exact ⟨_,rfl,.inr ⟨d2,rfl,ac,Sort.permIn_refl _ _ _⟩⟩
      | true=>
        obtain ⟨x,y⟩:=Sort.partialInsertionSort_holds (lt:=lt) hS d2 a b q7 (by rw [ac.1];exact hb) bv;have u:=ac.perm o hb x;have s:=qxu hq hb (by omega : a < b) ac;simp only [Q1,s,qn,Uo ac u]
        cases hz : (Sort.partialInsertionSort lt d2 a b).2 with
        | true=>exact ⟨_,rfl,.inl ⟨_,rfl,x,y hz⟩⟩
        | false=>exact ⟨_,rfl,.inr ⟨_,rfl,u,x⟩⟩
    obtain ⟨ab,eP,br⟩:=hP (wb && wp && (h2 == 1))
    have cl : ∀ {γ : Type} (X : Bool→Option γ),((cond wb (some wp) (some false)).bind fun bt=>(cond bt (some (h2 == 1)) (some false)).bind X) = X (wb && wp && (h2 == 1)):=by
      intro γ X;cases wb <;> cases wp <;> rfl
    have head : Zo q af ((a : Int),(b : Int),(f : Int),wb,wp,d.toList) = (match (generalizing:=false) ab with | .inl b377=>(cond (decide ((a : Int) > 0)) ((idx b377 (w64 ((a : Int) - 1))).bind fun av=>(idx b377 (p : Int)).bind fun ao=>(q av ao).bind fun ar=>some (!(decide (ar < 0)))) (some false)).bind fun bq=>cond bq ((q1f q b377 (a : Int) (b : Int) (p : Int)).bind fun al=>(Qz al.2.length b377.length).bind fun cw=>some (.inl (al.1,(b : Int),(l1 : Int),wb,wp,al.2))) ((q1e q b377 (a : Int) (b : Int) (p : Int)).bind fun g=>(Qz g.2.2.length b377.length).bind fun cn=>cond (decide ((w64 (g.1 - (a : Int))) < (w64 ((b : Int) - g.1)))) ((af g.2.2 (a : Int) g.1 (l1 : Int)).bind fun az=>(Qz az.length g.2.2.length).bind fun cu=>some (.inl (w64 (g.1 + 1),(b : Int),(l1 : Int),decide ((w64 (g.1 - (a : Int))) ≥ (w64 (Int.tdiv ((b - a : Nat) : Int) 8))),g.2.1,az))) ((af g.2.2 (w64 (g.1 + 1)) (b : Int) (l1 : Int)).bind fun bc=>(Qz bc.length g.2.2.length).bind fun ct=>some (.inl ((a : Int),g.1,(l1 : Int),decide ((w64 ((b : Int) - g.1)) ≥ (w64 (Int.tdiv ((b - a : Nat) : Int) 8))),g.2.1,bc)))) | .inr x1=>some (.inr x1)):=by
      simp only [Zo,e0,bm,qx,t0,eA,qn,hC,eR,cl,eP]
      all_goals (clear eP br hP am ih;cases ab <;> rfl)
    rcases br with ⟨l,rfl,x,y⟩ | ⟨l,rfl,u,p3⟩
    · refine .inl ⟨l,Kh ?_,Sort.permIn_trans _ _ _ a b bp x,y⟩;rw [head]
    have ax:=u.1;have P3:=Sort.permIn_trans _ _ _ a b bp p3;have B3 : Sort.Below lt a b l:=bv.perm (by rw [ac.1];exact hb) p3
    have bh : (cond (decide ((a : Int) > 0)) ((idx l.toList (w64 ((a : Int) - 1))).bind fun av=>(idx l.toList (p : Int)).bind fun ao=>(q av ao).bind fun ar=>some (!(decide (ar < 0)))) (some false)) = some (decide (a > 0) && !lt l[a - 1]! l[p]!):=by
      by_cases ha : a > 0
      · have ta : decide ((a : Int) > 0) = true:=Q2 q7;have w : w64 ((a : Int) - 1) = ((a - 1 : Nat) : Int):=by rw [Q9 q7];omega
        obtain ⟨r,h1,h2⟩:=hq l[a - 1]! l[p]! (u.2.2 _ q7) (u.2.2 _ q7);simp only [ta,Q1,w,gx (d:=l) (k:=a - 1) q7,gx (d:=l) (k:=p) q7,qn,h1,h2,Q2 ha,Bool.true_and]
      · have ta : decide ((a : Int) > 0) = false:=Q4 q7;simp only [ta,qx,Q4 ha,Bool.false_and]
    simp only [bh,qn] at head;by_cases hc : (decide (a > 0) && !lt l[a - 1]! l[p]!) = true
    ·
      rw [hc] at head;have s:=qxv hq hb (by omega : a < b) (by omega : p < n) u;simp only [Bool.and_eq_true,decide_eq_true_eq,Bool.not_eq_true'] at hc
      cases hx : Sort.partitionEqual lt l a b p with
      | mk j d4=>
        obtain ⟨g1,g2,bz,cj,ad⟩:=Sort.round_eq hS (Sort.partitionEqual_holds lt) hc.1 hp1 hp2 (by rw [ax];exact hb) B3 hc.2 hx
        have cd : ∀ i,a≤i→i < b→lt l[i]! l[p]! = false:=fun i hi bx=>by
          rcases B3 with h0 | hB
          · omega
          · exact hS.ntrans _ _ _ (hB i hi bx) hc.2
        obtain ⟨_,_,v,_,_⟩:=Sort.partitionEqual_holds lt hS l a b p hp1 hp2 (by rw [ax];exact hb) cd;rw [hx] at v s;have aa:=u.perm o hb v;simp only [Q1,s,qn,Uo u aa] at head;rw [Kf head];rcases ih (b - j) q7 j b l1 wb wp d4 rfl aa g2 hb an cj with ⟨R,r0,r1,r2⟩ | ⟨r1,r2⟩
        · obtain ⟨q1,q2⟩:=ad _ r1 r2;exact .inl ⟨R,r0,Sort.permIn_trans _ _ _ a b P3 q1,q2⟩
        · exact .inr ⟨q7,r2⟩
    ·
      have hc : (decide (a > 0) && !lt l[a - 1]! l[p]!) = false:=by simpa using hc
      rw [hc] at head;have s:=qxw hq hb (by omega : a < b) (by omega : p < n) u
      cases hx : Sort.partition lt l a b p with
      | mk j r=>
      cases r with
      | mk ap d4=>
        obtain ⟨g1,g2,bz,bw,cb,bg,ay⟩:=Sort.round_part hS (Sort.partition_holds lt) hp1 hp2 (by rw [ax];exact hb) B3 hx;obtain ⟨_,_,v,_,_⟩:=Sort.partition_holds lt hS l a b p hp1 hp2 (by rw [ax];exact hb);rw [hx] at v s;have aa:=u.perm o hb v;have w1 : w64 ((j : Int) - (a : Int)) = ((j - a : Nat) : Int):=wsub g1 q7;have w2 : w64 ((b : Int) - (j : Int)) = ((b - j : Nat) : Int):=wsub q7 q7;simp only [qx,s,qn,Uo u aa,w1,w2,w1p j q7] at head;by_cases df : j - a < b - j
        · have tl : decide (((j - a : Nat) : Int) < ((b - j : Nat) : Int)) = true:=Q2 q7;simp only [tl,Q1] at head;rcases am a j l1 d4 aa g1 q7 an bw with ⟨L,e,aq,bj⟩ | ⟨r1,r2⟩
          · have au:=aa.perm g1 q7 aq;obtain ⟨bk,ad⟩:=bg _ aq bj;simp only [e,qn,Uo aa au] at head;rw [Kf head];rcases ih (b - (j + 1)) q7 (j + 1) b l1 _ _ L rfl au q7 hb an bk with ⟨R,r0,r1,r2⟩ | ⟨r1,r2⟩
            · obtain ⟨q1,q2⟩:=ad _ r1 r2;exact .inl ⟨R,r0,Sort.permIn_trans _ _ _ a b P3 q1,q2⟩
            · exact .inr ⟨q7,r2⟩
          · simp only [r2,Option.bind_none] at head;exact .inr ⟨q7,qls head⟩
        · have tl : decide (((j - a : Nat) : Int) < ((b - j : Nat) : Int)) = false:=Q4 q7;simp only [tl,qx] at head;rcases am (j + 1) b l1 d4 aa q7 hb an cb with ⟨L,e,aq,bj⟩ | ⟨r1,r2⟩
          · have au:=aa.perm (by omega : j + 1≤b) hb aq;obtain ⟨bk,ad⟩:=ay _ aq bj;simp only [e,qn,Uo aa au] at head;rw [Kf head];rcases ih (j - a) q7 a j l1 _ _ L rfl au g1 q7 an bk with ⟨R,r0,r1,r2⟩ | ⟨r1,r2⟩
            · obtain ⟨q1,q2⟩:=ad _ r1 r2;exact .inl ⟨R,r0,Sort.permIn_trans _ _ _ a b P3 q1,q2⟩
            · exact .inr ⟨q7,r2⟩
          · simp only [r2,Option.bind_none] at head;exact .inr ⟨q7,qls head⟩
theorem qnd (f : Y6 q lt P) (g : Sort.SWO lt) {n : Nat} : ∀ (N a b c : Nat) (d : Array T),AllP n P d→a≤b→b≤n→c≤1000→Sort.Below lt a b d→
    Srt lt a b d (Zf N q d.toList (a : Int) (b : Int) (c : Int))∨(N≤b - a∧Zf N q d.toList (a : Int) (b : Int) (c : Int) = none)
  | 0,a,b,c,d,_,_,_,_,_=>.inr ⟨q7,rfl⟩
  | N + 1,a,b,c,d,hd,hab,hb,hl,hB=>by
    have h:=qxx f g (N:=N) (Zf N q) (fun a b c d m j k l o=>qnd f g N a b c d m j k l o) _ a b c true true d rfl hd hab hb hl hB
    have e : Zf (N + 1) q d.toList (a : Int) (b : Int) (c : Int) = loop (Zo q (Zf N q)) ((a : Int),(b : Int),(c : Int),true,true,d.toList):=by
      show U2 (Zf N q) q d.toList (a : Int) (b : Int) (c : Int) = _;unfold U2;cases loop (Zo q (Zf N q)) ((a : Int),(b : Int),(c : Int),true,true,d.toList) <;> rfl
    rw [e]
    exact h
theorem qhv (t : Y6 q lt P) (w : Sort.SWO lt) (xs : List T) (n : xs.length≤1000000) (v : ∀ x∈xs,P x) :
    ∃ ys,q23 q xs = some ys∧ys.Perm xs∧ys.Pairwise (fun x y=>lt y x = false):=by
  have hd : AllP xs.length P xs.toArray:=by
    refine ⟨qb,n,fun i hi=>?_⟩;have : xs.toArray[i]! = xs[i]:=by simp [hi]
    rw [this];exact v _ (Kb hi)
  have hk : Sort.bitsLen xs.length≤20:=(Sort.bitsLen_le_iff _ 20).2 q7;have c : ∀ N,_:=fun N=>qnd t w N 0 xs.length (Sort.bitsLen xs.length) xs.toArray hd q7 q7 q7 (.inl rfl);have z:=c (xs.length + 1);rcases z with ⟨d',e,_,_⟩ | ⟨h,_⟩
  · obtain ⟨r,o⟩:=qv3 (f:=fun N=>Zf N q xs 0 (xs.length : Int) ((Sort.bitsLen xs.length : Nat) : Int)) e;obtain ⟨N,g⟩:=qda o;have g : Zf N q xs 0 (xs.length : Int) ((Sort.bitsLen xs.length : Nat) : Int) = some r:=g;rcases c N with ⟨a,b,x,y⟩ | ⟨_,b⟩
    · have b : Zf N q xs 0 (xs.length : Int) ((Sort.bitsLen xs.length : Nat) : Int) = some a.toList:=b;rw [g] at b;obtain rfl : r = a.toList:=Zk b;have d : a.size = xs.length:=by rw [x.1];simp
      refine ⟨a.toList,?_,?_,?_⟩
      · unfold q23;rw [q2p,show ((xs.length : Int) % 18446744073709551616) = (xs.length : Int) by omega,qlm _ n];simp only [qn,o];unfold Qz;rw [Q0 (by simp [d])];rfl
      · have:=x.2.2;have s : a.extract 0 xs.length = a:=by rw [← d];simp
        have p : xs.toArray.extract 0 xs.length = xs.toArray:=by simp
        rw [s,p] at this;exact this
      · rw [List.pairwise_iff_getElem];intro i j hi u k;have l : i < a.size:=by simpa using hi
        have m : j < a.size:=by simpa using u
        have:=y i j q7 k q7;rw [getElem!_pos a i l,getElem!_pos a j m] at this;simpa using this
    · have b : Zf N q xs 0 (xs.length : Int) ((Sort.bitsLen xs.length : Nat) : Int) = none:=b;rw [g] at b;cases b
  · omega
end
end Go.Sh
namespace Go.Sh
open Go Go.Am
theorem q11j : qbx = q42:=rfl
theorem q10k : q2c = q2y:=by
  funext p0;simp only [q2c,q2y,q11j]
  all_goals exact Qk
theorem qoi : U6 = q19:=by
  funext p0;simp only [U6,q19,q10k]
  all_goals exact Qk
theorem q10u : qac = Jz:=by
  funext p1 q1 a459;simp only [qac,Jz]
  all_goals exact Qk
theorem q10t : qab = q1d:=by
  funext p2 p1 q1 a278;simp only [qab,q1d,q10u]
  all_goals exact Qk
theorem q10s : qaa = q26:=by
  funext q1 p0 p1 p2;simp only [qaa,q26,q10t]
  all_goals exact Qk
theorem q11i : qbo = U3:=by
  funext p2 p3 q1 a197;simp only [qbo,U3]
  all_goals exact Qk
theorem qok : q78 = Un:=by
  funext q1 p0 p1 p2 p3;simp only [q78,Un,q11i]
  all_goals exact Qk
theorem q10q : qa2 = q1b:=by
  funext q1 p2 p1 a123;simp only [qa2,q1b,qok]
  all_goals exact Qk
theorem q10r : qa3 = q1c:=by
  funext p1 q1 a191;simp only [qa3,q1c,qok]
  all_goals exact Qk
theorem q10p : qa1 = q25:=by
  funext q1 p0 p1 p2;simp only [qa1,q25,q10q,q10r]
  all_goals exact Qk
theorem q10w : Ut = q27:=by
  funext p0;simp only [Ut,q27,qoi]
  all_goals exact Qk
theorem q11k : Uu = q2a:=by
  funext p0;simp only [Uu,q2a]
  all_goals exact Qk
theorem q10n : q9r = Ug:=by
  funext p1 p2 r101 a153;simp only [q9r,Ug,q11k]
  all_goals exact Qk
theorem q10m : q9q = q1a:=by
  funext q1 p0 p1 p2;simp only [q9q,q1a,q10w,q10n]
  all_goals exact Qk
theorem q10x : q4p = Ui:=by
  funext q1 p0 p1 p2 p3;simp only [q4p,Ui]
  all_goals exact Qk
theorem qoj : q6q = Uh:=by
  funext q1 p0 p1 p2 p3 p4;simp only [q6q,Uh,q10x]
  all_goals exact Qk
theorem q10v : q4m = U0:=by
  funext q1 p0 p1 p2;simp only [q4m,U0,qoj]
  all_goals exact Qk
theorem q10o : q9u = q24:=by
  funext p0 p1 p2 p3;simp only [q9u,q24,qoj,q10v]
  all_goals exact Qk
theorem q11h : qbl = q1j:=by
  funext a119;simp only [qbl,q1j]
  all_goals exact Qk
theorem q11g : qbk = q1i:=by
  funext q1 p0 p1 p2;simp only [qbk,q1i,q11h]
  all_goals exact Qk
theorem q110 : qaj = Uj:=by
  funext p2 a438 q1 a681;simp only [qaj,Uj]
  all_goals exact Qk
theorem q111 : qak = U1:=by
  funext q1 a838;simp only [qak,U1]
  all_goals exact Qk
theorem q112 : qal = Uk:=by
  funext p2 q1 b684 a928;simp only [qal,Uk]
  all_goals exact Qk
theorem q10z : q6w = Zw:=by
  funext p2 q1 p1 a438;have a : @q6w.match_1.{1} = @Zw.match_1.{1} qo:=by funext motive m f g;cases m <;> rfl
  unfold q6w Zw;rw [a];simp only [q110,q111,q112]
theorem q10y : q6v = Jm:=by
  funext q1 p0 p1 p2;have a : @q6v.match_1.{1} = @Jm.match_1.{1} qo:=by funext motive m f g;cases m <;> rfl
  unfold q6v Jm;rw [a];simp only [q10z]
theorem q116 : qbe = Ul:=by
  funext a318 p1 q1 a378;simp only [qbe,Ul]
  all_goals exact Qk
theorem q117 : qbf = Um:=by
  funext b381 a318 p1 q1 a463;simp only [qbf,Um]
  all_goals exact Qk
theorem q115 : qbd = q1g:=by
  funext p1 q1 a318;simp only [qbd,q1g,q116,q117]
  all_goals exact Qk
theorem q114 : qbc = q1f:=by
  funext q1 p0 p1 p2 p3;simp only [qbc,q1f,q115]
  all_goals exact Qk
theorem q118 : qaz = q28:=by
  funext p2 p0 p1 v101 p3 v103 q1 a163;simp only [qaz,q28]
  all_goals exact Qk
theorem q119 : qb0 = q29:=by
  funext b166 p0 p1 v101 p3 v103 q1 a249;simp only [qb0,q29]
  all_goals exact Qk
theorem q11b : qb2 = Jd:=by
  funext a514 p1 q1 a572;simp only [qb2,Jd]
  all_goals exact Qk
theorem q11c : qb3 = Je:=by
  funext b575 a514 p1 q1 a658;simp only [qb3,Je]
  all_goals exact Qk
theorem q11a : qb1 = q1h:=by
  funext p1 q1 a514;simp only [qb1,q1h,q11b,q11c]
  all_goals exact Qk
theorem q113 : qay = q1e:=by
  funext q1 p0 p1 p2 p3;simp only [qay,q1e,q118,q119,q11a]
  all_goals exact Qk
theorem q11e : q74 = Zo:=by
  funext q1 rec a309;have a : @q74.match_1.{1} = @Zo.match_1.{1} qo:=by funext motive m f g;cases m <;> rfl
  unfold q74 Zo;rw [a];simp only [q10s,q10p,q10m,q10o,q11g,q10y,q114,q113]
theorem q11f : q75 = U2:=by
  funext rec q1 p0 p1 p2 p3;simp only [q75,U2,q11e]
  all_goals exact Qk
theorem q11d : ∀ N q,q73 N q = Zf N q:=by
  intro N q
  induction N with
  | zero=>rfl
  | succ N ih=>
    funext a b c d;show q75 (q73 N q) q a b c d = U2 (Zf N q) q a b c d;rw [ih,q11f]
theorem q10l : q6n = q23:=by
  funext q1 p0;simp only [q6n,q23,qoi,q11d]
  all_goals exact Qk
end Go.Sh
namespace Go.Sh
open Go Go.Am
instance : Inhabited qo:=⟨⟨0,0,0⟩⟩
theorem q12x (q : qo→qo→Option Int) (xs : List qo) : q6n q xs = q23 q xs:=by rw [q10l]
def evs (s : List qi) (l : Int) : List qo:=s.flatMap fun t=>[{at_:=t.Lo,list_:=l,by_:=1},{at_:=t.Hi,list_:=l,by_:=-1}]
theorem q80 (s : List qi) (l : Int) : (evs s l).length = 2 * s.length:=by
  induction s with
  | nil=>rfl
  | cons t s ih=>simp only [evs,List.flatMap_cons,List.length_append,List.length_cons,List.length_nil] at ih ⊢;omega
theorem qdf {s : List qi} {l : Int} {e : qo} (h : e∈evs s l) : e.list_ = l∧(e.by_ = 1∨e.by_ = -1)∧∃ t∈s,e.at_ = t.Lo∨e.at_ = t.Hi:=by
  simp only [evs,List.mem_flatMap] at h;obtain ⟨t,a,h⟩:=h;simp only [List.mem_cons,List.not_mem_nil,or_false] at h;rcases h with rfl | rfl
  · exact ⟨rfl,.inl rfl,t,a,.inl rfl⟩
  · exact ⟨rfl,.inr rfl,t,a,.inr rfl⟩
theorem qk5 (s : List qi) (l : Int) (y : List qo) (hs : s.length≤1000) (base : List qo) (hb : base.length≤10000) :
    loop (q4r s (l,y)) (0,base) = some (base ++ evs s l):=by
  have:=Kp (f:=q4r s (l,y)) (σ:=List qo) (fun k c=>((k : Int),c)) s.length (fun k c=>c = base ++ evs (s.take k) l) (fun t=>t = base ++ evs s l) ?_ ?_ (k0:=0) (c0:=base) q7 (by simp [evs])
  · obtain ⟨b,g,rfl⟩:=this;exact g
  · rintro k c hk rfl;have a : decide ((k : Int) < (s.length : Int)) = true:=Q2 q7;refine .inl ⟨base ++ evs (s.take (k + 1)) l,?_,rfl⟩;have d : (evs (s.take k) l).length≤2000:=by rw [q80,List.length_take];omega
    simp only [q4r,a,Q1,Qu hk,qn];rw [Yh (by rw [List.length_append];simp only [List.length_cons,List.length_nil];omega),qn,Q9 q7,List.take_succ_eq_append_getElem hk,List.append_assoc];have : evs (s.take k ++ [s[k]]) l = evs (s.take k) l ++ [{at_:=s[k].Lo,list_:=l,by_:=1},{at_:=s[k].Hi,list_:=l,by_:=-1}]:=by simp only [evs,List.flatMap_append,List.flatMap_cons,List.flatMap_nil,List.append_nil]
    rw [this];rfl
  · rintro c rfl;have a : decide ((s.length : Int) < (s.length : Int)) = false:=Q4 q7;exact ⟨_,by simp only [q4r,a,qx];rfl,by rw [List.take_length]⟩
def ltE (a b : qo) : Bool:=decide (a.at_ < b.at_)
def inE (e : qo) : Prop:=-1000000≤e.at_∧e.at_≤1000000
theorem swoE : Sort.SWO ltE where
  irrefl:=by intro x;simp [ltE]
  trans:=by intro x y z;simp only [ltE,decide_eq_true_eq];omega
  ntrans:=by intro x y z;simp only [ltE,decide_eq_false_iff_not];omega
theorem cmpE : Y6 (fun x0 x1=>qbr x0 x1) ltE inE:=by
  rintro x y ⟨a,c⟩ ⟨b,d⟩;refine ⟨x.at_ - y.at_,?_,?_⟩
  · show some (w64 (x.at_ - y.at_)) = _;rw [Q9 q7]
  · unfold ltE;exact decide_eq_decide.2 q7
theorem q12w (p q : List qi) (hp : p.length≤500) (u : q.length≤500) (s : ∀ t∈p,vld t) (k : ∀ t∈q,vld t) :
    ∃ ys,qbs [p,q] = some ([p,q],ys)∧ys.Perm (evs p 0 ++ evs q 1)∧ys.Pairwise (fun x y=>x.at_≤y.at_):=by
  have n : ∀ x∈evs p 0 ++ evs q 1,inE x:=by
    intro x m;rcases List.mem_append.1 m with h | h
    · obtain ⟨_,_,t,g,h⟩:=qdf h;obtain ⟨a,b,c⟩:=s t g;unfold inE;rcases h with h | h <;> omega
    · obtain ⟨_,_,t,g,h⟩:=qdf h;obtain ⟨a,b,c⟩:=k t g;unfold inE;rcases h with h | h <;> omega
  have v:=q80 p 0;have w:=q80 q 1;obtain ⟨ys,r,j,l⟩:=qhv cmpE swoE (evs p 0 ++ evs q 1) (by rw [List.length_append];omega) n;refine ⟨ys,?_,j,l.imp (fun {x y} h=>by simp only [ltE,decide_eq_false_iff_not] at h;omega)⟩
  have d : loop (q1t [p,q]) (0,[]) = some (evs p 0 ++ evs q 1):=by
    have s0 : q1t [p,q] (0,[]) = some (.inl (1,evs p 0)):=by
      have t : decide ((0 : Int) < (([p,q] : List (List qi)).length : Int)) = true:=rfl;simp only [q1t,t,Q1];have : idx [p,q] 0 = some p:=rfl;rw [this];simp only [qn,qk5 p 0 [] q7 [] qb,List.nil_append];rfl
    have s1 : q1t [p,q] (1,evs p 0) = some (.inl (2,evs p 0 ++ evs q 1)):=by
      have t : decide ((1 : Int) < (([p,q] : List (List qi)).length : Int)) = true:=rfl;simp only [q1t,t,Q1];have : idx [p,q] 1 = some q:=rfl;rw [this];simp only [qn,qk5 q 1 (evs p 0) q7 (evs p 0) q7];rfl
    have o : q1t [p,q] (2,evs p 0 ++ evs q 1) = some (.inr (evs p 0 ++ evs q 1)):=by
      have t : decide ((2 : Int) < (([p,q] : List (List qi)).length : Int)) = false:=rfl;simp only [q1t,t,qx]
    rw [Kf s0,Kf s1,Kh o]
  unfold qbs;rw [d];simp only [qn,q12x,r];have le : Qz ys.length (evs p 0 ++ evs q 1).length = some ():=by unfold Qz;rw [Q0 j.length_eq]
  have f : Qz ys.length ys.length = some ():=by unfold Qz;rw [Q0 rfl]
  simp only [le,qn,qe9,f]
def cnt (l : Int) (c : Int→Bool) : List qo→Int
  | []=>0
  | e::es=>(if e.list_ = l∧c e.at_ = true then e.by_ else 0) + cnt l c es
theorem q2r (l : Int) (c : Int→Bool) (a b : List qo) : cnt l c (a ++ b) = cnt l c a + cnt l c b:=by
  induction a with
  | nil=>simp [cnt]
  | cons e a ih=>simp only [List.cons_append,cnt,ih];omega
theorem qjd {l : Int} {c : Int→Bool} {a b : List qo} (h : a.Perm b) : cnt l c a = cnt l c b:=by
  induction h with
  | nil=>rfl
  | cons x _ ih=>simp only [cnt,ih]
  | swap x y l=>simp only [cnt];omega
  | trans _ _ ih1 ih2=>rw [ih1,ih2]
theorem qja {l : Int} {c b : Int→Bool} : ∀ {a : List qo},(∀ e∈a,c e.at_ = b e.at_)→cnt l c a = cnt l b a
  | [],_=>rfl
  | e::a,h=>by simp only [cnt,h e qb,qja (fun e d=>h e (List.mem_cons_of_mem _ d))]
theorem qjc {l : Int} {c : Int→Bool} : ∀ {a : List qo},(∀ e∈a,c e.at_ = false)→cnt l c a = 0
  | [],_=>rfl
  | e::a,h=>by
    simp only [cnt,qjc (fun e b=>h e (List.mem_cons_of_mem _ b)),h e qb]
    simp
theorem q7q {s : List qi} {l l' : Int} {c : Int→Bool} (h : l≠l') : cnt l c (evs s l') = 0:=by
  induction s with
  | nil=>rfl
  | cons t s ih=>
    have : evs (t::s) l' = [{at_:=t.Lo,list_:=l',by_:=1},{at_:=t.Hi,list_:=l',by_:=-1}] ++ evs s l':=rfl;rw [this,q2r,ih];have a : ¬ l' = l:=fun e=>h e.symm;simp [cnt,a]
theorem qjb {s : List qi} {l : Int} (v : ∀ t∈s,vld t) (x : Int) : 0≤cnt l (fun a=>decide (a≤x)) (evs s l)∧(0 < cnt l (fun a=>decide (a≤x)) (evs s l)↔has s x):=by
  induction s with
  | nil=>exact ⟨Int.le_refl 0,by simp [evs,cnt,has]⟩
  | cons t s ih=>
    obtain ⟨f,c⟩:=ih (fun t d=>v t (List.mem_cons_of_mem _ d));have b:=v t qb;have : evs (t::s) l = [{at_:=t.Lo,list_:=l,by_:=1},{at_:=t.Hi,list_:=l,by_:=-1}] ++ evs s l:=rfl;rw [this,q2r,J6,← c];obtain ⟨j,h,g⟩:=b;simp only [cnt,true_and,decide_eq_true_eq];split <;> split <;> omega
theorem qje {s : List qi} {l : Int} : cnt l (fun _=>true) (evs s l) = 0:=by
  induction s with
  | nil=>rfl
  | cons t s ih=>
    have : evs (t::s) l = [{at_:=t.Lo,list_:=l,by_:=1},{at_:=t.Hi,list_:=l,by_:=-1}] ++ evs s l:=rfl;rw [this,q2r,ih];simp [cnt]
theorem qfa {l : Int} {c : Int→Bool} : ∀ {a : List qo},(∀ e∈a,e.by_ = 1∨e.by_ = -1)→-(a.length : Int)≤cnt l c a∧cnt l c a≤(a.length : Int)
  | [],_=>by simp [cnt]
  | e::a,h=>by
    obtain ⟨d,f⟩:=qfa (l:=l) (c:=c) (fun e b=>h e (List.mem_cons_of_mem _ b))
    have:=h e qb
    simp only [cnt,List.length_cons]
    split <;> omega
end Go.Sh
namespace Go.Sh
open Go Go.Am
theorem qrj (at_ a : Int) (inn : Bool) (out : List qi) (h : out.length≤10000) :
    qbt at_ inn a out = some (if inn = true∧a≠at_ then addS out a at_ else out):=by
  unfold qbt
  cases inn with
  | false=>rfl
  | true=>
    by_cases b : a = at_
    · simp [b]
    · have hb : (a == at_) = false:=by simpa using b
      simp only [Bool.not_true,qx,qn,hb];rw [Q0 ⟨trivial,b⟩];rcases qea out with rfl | ⟨d,t,rfl⟩
      · rfl
      · have l : (d ++ [t]).length = d.length + 1:=by simp
        have j : decide (((d ++ [t]).length : Int) > 0) = true:=Q2 q7;have g : w64 (((d ++ [t]).length : Int) - 1) = (d.length : Int):=by rw [Q9 q7];omega
        have k : idx (d ++ [t]) (d.length : Int) = some t:=by
          rw [Qu q7];simp
        simp only [j,Q1,g,k,qn];by_cases c : t.Hi = a
        · subst c;simp only [beq_self_eq_true,Q1,qcb,Int.toNat_natCast,qom]
        · have f : (t.Hi == a) = false:=by simpa using c
          simp only [f,qx,qcc c];rw [Yh (by simp;omega)];rfl
open Classical in
structure qq1 (f : Bool→Bool→Bool) (p q : List qi) (ys : List qo) (k : Nat) (c : List Int × Int × Bool × List qi) : Prop where
  opn : c.1 = [cnt 0 (fun _=>true) (ys.take k),cnt 1 (fun _=>true) (ys.take k)]
  inn : c.2.2.1 = f (decide (0 < cnt 0 (fun _=>true) (ys.take k))) (decide (0 < cnt 1 (fun _=>true) (ys.take k)))
  lst : ∀ (h : k - 1 < ys.length),0 < k→c.2.1 = ys[k - 1].at_
  can : Can c.2.2.2
  his : ∀ t∈c.2.2.2,t.Hi≤c.2.1
  zro : k = 0→c.2.2.2 = []
  pts : ∀ x,has c.2.2.2 x↔0 < k∧x < c.2.1∧f (decide (has p x)) (decide (has q x)) = true
  len : c.2.2.2.length≤k
theorem qq2 (c : List qi) (a b : Int) : (addS c a b).length≤c.length + 1:=by
  rcases qea c with rfl | ⟨d,t,rfl⟩
  · simp [qig]
  · by_cases h : t.Hi = a
    · subst h;rw [qcb];simp
    · rw [qcc h];simp
theorem qj9 {p q : List qi} {ys : List qo} (hp : ∀ t∈p,vld t) (f : ∀ t∈q,vld t) (b : ys.Perm (evs p 0 ++ evs q 1)) (_ : ys.Pairwise (fun x y=>x.at_≤y.at_)) (k : Nat) (x : Int)
    (g : ∀ i (h : i < ys.length),i < k→ys[i].at_≤x) (d : ∀ i (h : i < ys.length),k≤i→x < ys[i].at_) :
    (0 < cnt 0 (fun _=>true) (ys.take k)↔has p x)∧(0 < cnt 1 (fun _=>true) (ys.take k)↔has q x):=by
  have key : ∀ l,cnt l (fun _=>true) (ys.take k) = cnt l (fun a=>decide (a≤x)) (evs p 0) + cnt l (fun a=>decide (a≤x)) (evs q 1):=by
    intro l;rw [← q2r,← qjd b]
    conv=>rhs;rw [← List.take_append_drop k ys]
    rw [q2r]
    have m : cnt l (fun a=>decide (a≤x)) (ys.drop k) = 0:=by
      refine qjc fun e c=>?_;obtain ⟨i,hi,rfl⟩:=List.mem_iff_getElem.1 c;rw [List.getElem_drop];rw [List.length_drop] at hi;have:=d (k + i) q7 q7;exact Q4 q7
    have n : cnt l (fun a=>decide (a≤x)) (ys.take k) = cnt l (fun _=>true) (ys.take k):=by
      refine qja fun e c=>?_;obtain ⟨i,hi,rfl⟩:=List.mem_iff_getElem.1 c;rw [List.getElem_take];rw [List.length_take] at hi;exact Q2 (g i q7 q7)
    rw [m,n];omega
  rw [key 0,key 1,q7q (l:=0) (l':=1) qy,q7q (l:=1) (l':=0) qy];have e1:=qjb (l:=0) hp x;have j:=qjb (l:=1) f x;rw [Int.add_zero,Int.zero_add];exact ⟨e1.2,j.2⟩
open Classical in
theorem quj (f : Bool→Bool→Bool) (hf : f false false = false) (p2 : Bool→Bool→Option Bool) (hp2 : ∀ a b,p2 a b = some (f a b)) (p q : List qi)
    (hp : p.length≤500) (hq : q.length≤500) (vp : ∀ t∈p,vld t) (vq : ∀ t∈q,vld t) :
    ∃ out,q7a p q p2 = some out∧Can out∧∀ x,has out x↔f (decide (has p x)) (decide (has q x)) = true:=by
  obtain ⟨ys,e1,g,hs⟩:=q12w p q hp hq vp vq;have bd : ys.length≤2000:=by rw [g.length_eq,List.length_append,q80,q80];omega
  have w : ∀ i j (hi : i < ys.length) (hj : j < ys.length),i≤j→ys[i].at_≤ys[j].at_:=by
    intro i j hi hj bk;rcases Nat.lt_or_ge i j with h | h
    · exact List.pairwise_iff_getElem.1 hs i j hi hj h
    · obtain rfl : i = j:=by omega
      exact Int.le_refl _
  have y : ∀ e∈ys,(e.list_ = 0∨e.list_ = 1)∧(e.by_ = 1∨e.by_ = -1):=by
    intro e he;rcases List.mem_append.1 (g.mem_iff.1 he) with h | h
    · obtain ⟨a,b,_⟩:=qdf h;exact ⟨.inl a,b⟩
    · obtain ⟨a,b,_⟩:=qdf h;exact ⟨.inr a,b⟩
  have:=Kp (f:=q4s ([p,q],ys) p2) (σ:=List Int × Int × Bool × List qi) (fun k c=>((k : Int),c)) ys.length (qq1 f p q ys) (fun out=>Can out∧∀ x,has out x↔f (decide (has p x)) (decide (has q x)) = true) ?_ ?_ (k0:=0) (c0:=([0,0],0,false,[])) q7 ?_
  · obtain ⟨out,r,m⟩:=this;refine ⟨out,?_,m⟩;unfold q7a;have r : loop (q4s ([p,q],ys) p2) (0,[0,0],0,false,[]) = some out:=r;rw [e1];simp only [qn,r];rfl
  · rintro k ⟨opn,d,inn,out⟩ hk ⟨s1,s2,s3,s4,s5,s6,s7,s8⟩;simp only at s1 s2 s3 s4 s5 s6 s7 s8;have ae : decide ((k : Int) < (ys.length : Int)) = true:=Q2 q7;have bc:=qrj ys[k].at_ d inn out q7;have hm:=y ys[k] (Kb hk);have ba : ys.take (k + 1) = ys.take k ++ [ys[k]]:=List.take_succ_eq_append_getElem hk;have aj : ∀ e∈ys.take k,e.by_ = 1∨e.by_ = -1:=fun e he=>(y e (List.mem_of_mem_take he)).2;have b0:=qfa (l:=0) (c:=fun _=>true) aj;have b1:=qfa (l:=1) (c:=fun _=>true) aj;have aq : (ys.take k).length = k:=by rw [List.length_take];omega
    rw [aq] at b0 b1
    have ad : ∃ v,idxA 2 opn ys[k].list_ = some v∧opn.set ys[k].list_.toNat (w64 (v + ys[k].by_)) = [cnt 0 (fun _=>true) (ys.take (k + 1)),cnt 1 (fun _=>true) (ys.take (k + 1))]:=by
      subst s1;rw [ba,q2r,q2r];rcases hm.1 with h | h
      · refine ⟨cnt 0 (fun _=>true) (ys.take k),by rw [h];rfl,?_⟩;rw [h,Q9 q7];simp [cnt,h]
      · refine ⟨cnt 1 (fun _=>true) (ys.take k),by rw [h];rfl,?_⟩;rw [h,Q9 q7];simp [cnt,h]
    obtain ⟨v,o1,o2⟩:=ad;refine .inl ⟨([cnt 0 (fun _=>true) (ys.take (k + 1)),cnt 1 (fun _=>true) (ys.take (k + 1))],ys[k].at_,f (decide (0 < cnt 0 (fun _=>true) (ys.take (k + 1)))) (decide (0 < cnt 1 (fun _=>true) (ys.take (k + 1)))),if inn = true∧d≠ys[k].at_ then addS out d ys[k].at_ else out),?_,?_⟩
    · have x0 : ∀ a b : Int,idxA 2 [a,b] 0 = some a:=fun a b=>rfl;have x1 : ∀ a b : Int,idxA 2 [a,b] 1 = some b:=fun a b=>rfl;simp only [q4s,ae,Q1,Qu hk,qn,bc,o1,o2,x0,x1,hp2];rw [Q9 q7];rfl
    · have ac : ∀ x,(0 < k→d≤x)→∀ i (h : i < ys.length),i < k→ys[i].at_≤x:=by
        intro x o i hi an;have:=s3 q7 q7;have:=w i (k - 1) hi q7 q7;have:=o q7;omega
      have ab : ∀ x,x < ys[k].at_→∀ i (h : i < ys.length),k≤i→x < ys[i].at_:=by
        intro x o i hi an;have:=w k i hk hi an;omega
      have hF : ∀ x,(0 < k→d≤x)→x < ys[k].at_→f (decide (has p x)) (decide (has q x)) = inn:=by
        intro x o ap;obtain ⟨c1,c2⟩:=qj9 vp vq g hs k x (ac x o) (ab x ap);rw [s2,decide_eq_decide.2 c1,decide_eq_decide.2 c2]
      have n : 0 < k→d≤ys[k].at_:=by
        intro u;rw [s3 q7 u];exact w (k - 1) k q7 hk q7
      have z : k = 0→inn = false:=by
        intro u;subst u;rw [s2];exact hf
      by_cases s : inn = true∧d≠ys[k].at_
      · have ai : 0 < k:=by
          rcases Nat.eq_zero_or_pos k with h | h
          · rw [z h] at s;cases s.1
          · exact h
        have hl:=n ai;have az : d < ys[k].at_:=by have:=s.2;omega
        obtain ⟨d1,d2,d3,d4⟩:=qih s4 s5 az;constructor
        · rfl
        · rfl
        · intro h _;rfl
        · simp only [Q0 s];exact d1
        · simp only [Q0 s];exact d3
        · omega
        · intro x;simp only [Q0 s];rw [d2,s7];constructor
          · rintro (⟨u,r,m⟩ | ⟨r,m⟩)
            · exact ⟨q7,q7,m⟩
            · exact ⟨q7,m,by rw [hF x (fun _=>r) m];exact s.1⟩
          · rintro ⟨u,r,m⟩;by_cases o : x < d
            · exact .inl ⟨ai,o,m⟩
            · exact .inr ⟨q7,r⟩
        · simp only [Q0 s];have:=qq2 out d ys[k].at_;omega
      · constructor
        · rfl
        · rfl
        · intro h _;rfl
        · simp only [Q3 s];exact s4
        · simp only [Q3 s];intro t ht;rcases Nat.eq_zero_or_pos k with h | h
          · rw [s6 h] at ht;cases ht
          · have:=s5 t ht;have:=n h;omega
        · omega
        · intro x;simp only [Q3 s];rw [s7];constructor
          · rintro ⟨u,r,m⟩;exact ⟨q7,by have:=n u;omega,m⟩
          · rintro ⟨u,r,m⟩;by_cases o : 0 < k∧x < d
            · exact ⟨o.1,o.2,m⟩
            · have ak : 0 < k→d≤x:=fun h=>by
                refine Int.not_lt.1 fun h'=>o ⟨h,h'⟩
              have:=hF x ak r;rw [this] at m;refine absurd ⟨m,?_⟩ s;intro e;rcases Nat.eq_zero_or_pos k with h | h
              · rw [z h] at m;cases m
              · have:=ak h;omega
        · simp only [Q3 s];omega
  · rintro ⟨opn,d,inn,out⟩ ⟨s1,s2,s3,s4,s5,s6,s7,s8⟩;simp only at s1 s2 s3 s4 s5 s6 s7 s8;have ae : decide ((ys.length : Int) < (ys.length : Int)) = false:=Q4 q7;refine ⟨out,by simp only [q4s,ae,qx],s4,fun x=>?_⟩;rw [s7];constructor
    · rintro ⟨_,_,h⟩;exact h
    · intro h;by_cases o : 0 < ys.length∧x < d
      · exact ⟨o.1,o.2,h⟩
      · obtain ⟨c1, c2⟩ := qj9 vp vq g hs ys.length x (fun i hi _ => by
            have:=s3 q7 q7;have:=w i (ys.length - 1) hi q7 q7;have : d≤x:=Int.not_lt.1 fun h'=>o ⟨q7,h'⟩
            omega) (fun i hi bi=>q7)
        have aw : ∀ l,cnt l (fun _=>true) (ys.take ys.length) = 0:=by
          intro l;rw [List.take_length,qjd g,q2r];by_cases u : l = 0
          · subst u;rw [qje,q7q qy];rfl
          · rw [q7q u];by_cases r : l = 1
            · subst r;rw [qje];rfl
            · rw [q7q r];rfl
        rw [aw] at c1 c2;have n1 : ¬ has p x:=fun h=>absurd (c1.2 h) qy;have n2 : ¬ has q x:=fun h=>absurd (c2.2 h) qy;rw [Q4 n1,Q4 n2,hf] at h;cases h
  · constructor
    · simp [cnt]
    · simp [cnt,hf]
    · intro h u;omega
    · exact ⟨fun t ht=>(by cases ht),.nil⟩
    · intro t ht;cases ht
    · intro _;rfl
    · intro x;simp [has]
    · simp
end Go.Sh
namespace Go.Sh
open Go Go.Am
theorem qrg {s : List qi} (h : q16 s = 0) : s.length≤400∧Good s:=by
  unfold q16 at h;split at h
  · cases h
  · split at h
    · rename_i b a;exact ⟨q7,a⟩
    · cases h
def dst (x : Int) (t : qi) : Int:=max (max (t.Lo - x) (x - t.Hi + 1)) 0
end Go.Sh
namespace Go.Sh
open Go Go.Am
noncomputable def U4 (kind : Int) (p q : List qi) : List qi:=(qdu kind p q).getD []
theorem ql7 (kind : Int) (p q : List qi) (hp : p.length≤100000) (b : q.length≤100000) : qdu kind p q = some (U4 kind p q)∧qeu kind p q (U4 kind p q):=by
  obtain ⟨out,a,c⟩:=qul kind p q hp b;unfold U4;rw [a];exact ⟨rfl,c⟩
theorem qub (s : List qi) (b : qi→Option Bool) (c : qi→Bool) (h : ∀ t,b t = some (c t)) (p : s.length≤1000000) :
    ∃ r,q9k s b = some r∧decide (r ≥ 0) = s.any c:=by
  have:=Kp (f:=q3d s b) (σ:=Unit) (fun k _=>(k : Int)) s.length (fun k _=>∀ i (h : i < s.length),i < k→c s[i] = false)
    (fun m=>∃ r : Int,(match m with | .inl b22=>some (-1) | .inr x1=>some x1) = some r∧decide (r ≥ 0) = s.any c) ?_ ?_ (k0:=0) (c0:=()) q7 (fun i _ hi=>q7)
  · obtain ⟨m,g,r,j,n⟩:=this;have g : loop (q3d s b) 0 = some m:=g;exact ⟨r,by unfold q9k;rw [g];exact j,n⟩
  · rintro k _ hk hi;have hb : decide ((k : Int) < (s.length : Int)) = true:=Q2 q7
    cases d : c s[k] with
    | true=>
      refine .inr ⟨.inr (k : Int),?_,(k : Int),rfl,?_⟩
      · simp only [q3d,hb,Q1,Qu hk,qn,h,d]
      · have : s.any c = true:=List.any_eq_true.2 ⟨s[k],Kb hk,d⟩;rw [this];exact Q2 q7
    | false=>
      refine .inl ⟨(),?_,?_⟩
      · simp only [q3d,hb,Q1,Qu hk,qn,h,d,qx];rw [Q9 q7];rfl
      · intro i a o;by_cases e : i = k
        · subst e;exact d
        · exact hi i a q7
  · rintro _ hi;have hb : decide ((s.length : Int) < (s.length : Int)) = false:=Q4 q7;refine ⟨.inl (),by simp only [q3d,hb,qx],-1,rfl,?_⟩
    have : s.any c = false:=by
      rw [List.any_eq_false];intro t l;obtain ⟨i,a,rfl⟩:=List.mem_iff_getElem.1 l;simp [hi i a a]
    rw [this];rfl
theorem qjl (s : List qi) (a : qi→Option Bool) (c : qi→Bool) (h : ∀ t,a t = some (c t)) (b : s.length≤1000000) : q6i s a = some (s.any c):=by
  obtain ⟨r,f,d⟩:=qub s a c h b;unfold q6i;rw [f,qn,d]
open Classical in
theorem q5d (s : List qi) (x : Int) (c : s.length≤1000000) : q1s s x = some (decide (has s x)):=by
  unfold q1s
  rw [qjl s _ (fun t=>decide (t.Lo≤x∧x < t.Hi)) (fun t=>by
    show (cond (decide (t.Lo≤x)) (some (decide (x < t.Hi))) (some false)).bind (fun c1=>some c1) = _;by_cases a : t.Lo≤x
    · simp [a]
    · simp [a]) c,qn]
  congr 1;by_cases h : has s x
  · rw [Q2 h,List.any_eq_true];obtain ⟨t,b,h⟩:=h;exact ⟨t,b,Q2 h⟩
  · rw [Q4 h,List.any_eq_false];intro t b a;exact h ⟨t,b,of_decide_eq_true a⟩
open Classical in
noncomputable def qdc (s : List qi) : List qi × Int:=if 400 < s.length then ([],4) else if ∀ t∈s,vld t then (U4 2 s [],0) else ([],8)
theorem qvh (s : List qi) (k : s.length≤400) (c : ∀ t∈s,vld t) (p2 : Bool→Bool→Option Bool) (hp2 : ∀ a b,p2 a b = some a) : q7a s [] p2 = some (U4 2 s []):=by
  classical
  obtain ⟨out,f,d,h⟩:=quj (fun a _=>a) rfl p2 hp2 s [] q7 qb c (fun t g=>by cases g);obtain ⟨_,j⟩:=ql7 2 s [] q7 qb;rw [f];congr 1;refine qiy d j.can fun x=>?_;rw [h,j.pts];simp [q2b,q1k]
theorem qvg (s : List qi) : q2j s = some (qdc s):=by
  classical
  unfold q2j qdc;by_cases f : 400 < s.length
  · have e : decide ((s.length : Int) > 400) = true:=Q2 q7;rw [e,Q0 f];rfl
  · have e : decide ((s.length : Int) > 400) = false:=Q4 q7;rw [e,Q3 f,qx,qjl s _ (fun t=>!decide (vld t)) (fun t=>by show (q3e t).bind _ = _;rw [qpp];rfl) q7,qn];by_cases c : ∀ t∈s,vld t
    · have : (s.any fun t=>!decide (vld t)) = false:=by
        rw [List.any_eq_false];intro t d;simp [c t d]
      rw [this,qx,Q0 c,qvh s q7 c (fun x0 x1=>qbq x0 x1) (fun a b=>rfl)];rfl
    · have : (s.any fun t=>!decide (vld t)) = true:=by
        rw [List.any_eq_true];obtain ⟨t,c⟩:=Classical.not_forall.1 c;obtain ⟨d,h⟩:=Classical.not_imp.1 c;exact ⟨t,d,by simp [h]⟩
      rw [this,Q1,Q3 c]
def lenL : List qi→Int
  | []=>0
  | t::s=>(t.Hi - t.Lo) + lenL s
theorem qlj (a b : List qi) : lenL (a ++ b) = lenL a + lenL b:=by
  induction a with
  | nil=>simp [lenL]
  | cons t a ih=>simp only [List.cons_append,lenL,ih];omega
theorem qlk : ∀ {s : List qi},(∀ t∈s,vld t)→0≤lenL s∧lenL s≤2000000 * (s.length : Int)
  | [],_=>by simp [lenL]
  | t::s,h=>by
    obtain ⟨d,b⟩:=qlk (fun t a=>h t (List.mem_cons_of_mem _ a))
    obtain ⟨g,f,c⟩:=h t qb
    simp only [lenL,List.length_cons]
    omega
noncomputable def qg6 (s : List qi) : Int × Int:=if q16 s = 0 then (lenL s,0) else (0,q16 s)
theorem quv (s : List qi) (n : s.length≤400) (d : ∀ t∈s,vld t) : loop (qbp s) (0,0) = some (lenL s)∧loop (q8x s) (0,0) = some (lenL s):=by
  have a : ∀ k,0≤lenL (s.take k)∧lenL (s.take k)≤800000000:=by
    intro k;have:=qlk (s:=s.take k) (fun t m=>d t (List.mem_of_mem_take m));have : (s.take k).length≤400:=by rw [List.length_take];omega
    omega
  constructor
  · have:=Kp (f:=qbp s) (σ:=Int) (fun k c=>(c,(k : Int))) s.length (fun k c=>c = lenL (s.take k)) (fun r=>r = lenL s) ?_ ?_ (k0:=0) (c0:=0) q7 (by simp [lenL])
    · obtain ⟨b,g,rfl⟩:=this;exact g
    · rintro k c hk rfl;have hb : decide ((k : Int) < (s.length : Int)) = true:=Q2 q7;obtain ⟨l,j,h⟩:=d _ (Kb hk);have:=a k;refine .inl ⟨lenL (s.take (k + 1)),?_,rfl⟩;simp only [qbp,hb,Q1,Qu hk,qn];rw [Q9 (x:=s[k].Hi - s[k].Lo) q7,Q9 (x:=lenL (s.take k) + _) q7,Q9 q7,List.take_succ_eq_append_getElem hk,qlj];simp only [lenL,Int.add_zero];rfl
    · rintro c rfl;have hb : decide ((s.length : Int) < (s.length : Int)) = false:=Q4 q7;exact ⟨_,by simp only [qbp,hb,qx];rfl,by rw [List.take_length]⟩
  · have:=Kp (f:=q8x s) (σ:=Int) (fun k c=>(c,(k : Int))) s.length (fun k c=>c = lenL (s.take k)) (fun r=>r = lenL s) ?_ ?_ (k0:=0) (c0:=0) q7 (by simp [lenL])
    · obtain ⟨b,g,rfl⟩:=this;exact g
    · rintro k c hk rfl;have hb : decide ((k : Int) < (s.length : Int)) = true:=Q2 q7;obtain ⟨l,j,h⟩:=d _ (Kb hk);have:=a k;refine .inl ⟨lenL (s.take (k + 1)),?_,rfl⟩;simp only [q8x,hb,Q1,Qu hk,qn];rw [Q9 (x:=lenL (s.take k) + s[k].Hi) q7,Q9 (x:=lenL (s.take k) + s[k].Hi - _) q7,Q9 q7,List.take_succ_eq_append_getElem hk,qlj];have : lenL (s.take k) + s[k].Hi - s[k].Lo = lenL (s.take k) + lenL [s[k]]:=by simp only [lenL];omega
      rw [this];rfl
    · rintro c rfl;have hb : decide ((s.length : Int) < (s.length : Int)) = false:=Q4 q7;exact ⟨_,by simp only [q8x,hb,qx];rfl,by rw [List.take_length]⟩
theorem q14i (s : List qi) : qoz s = some (qg6 s)∧qno s = some (qg6 s):=by
  unfold qoz qno qg6;simp only [qj5,qzd,qn];by_cases h : q16 s = 0
  · obtain ⟨c,d⟩:=qrg h;obtain ⟨a,b⟩:=quv s c d.1;have e : (q16 s != 0) = false:=by simpa using h
    simp only [e,qx,a,b,qn];simp only [h,if_true];exact ⟨trivial,trivial⟩
  · have e : (q16 s != 0) = true:=by simpa using h
    simp only [e,Q1,Q3 h];exact ⟨trivial,trivial⟩
end Go.Sh
namespace Go.Sh
open Go Go.Am
section
variable {α β : Type} [DecidableEq α]
theorem qdj {z : β} {k : α} {v : β} : ∀ {R : List (α × β)},(R.map (·.1)).Nodup→(k,v)∈R→K5 z k R = v
  | [],_,h=>by cases h
  | (a,w)::r,hn,h=>by
    simp only [List.map_cons,List.nodup_cons] at hn
    simp only [K5]
    rcases List.mem_cons.1 h with h | h
    · cases h;rw [Q0 rfl]
    · have : k≠a:=fun e=>hn.1 (e ▸ List.mem_map_of_mem (f:=(·.1)) h)
      rw [Q3 this];exact qdj hn.2 h
theorem qdk {z : β} {k : α} : ∀ {R : List (α × β)},k ∉ R.map (·.1)→K5 z k R = z
  | [],_=>rfl
  | (a,w)::r,h=>by
    simp only [List.map_cons,List.mem_cons,not_or] at h
    simp only [K5,Q3 h.1];exact qdk h.2
theorem qgd {k : α} {v : β} : ∀ {R : List (α × β)},(R.map (·.1)).Nodup→∀ a w,((a,w)∈Ka k v R↔(a = k∧w = v)∨(a≠k∧(a,w)∈R))
  | [],_,a,w=>by simp [Ka]
  | (b,u)::r,hn,a,w=>by
    simp only [List.map_cons,List.nodup_cons] at hn
    simp only [Ka]
    by_cases e : k = b
    · subst e
      rw [Q0 rfl,List.mem_cons,Prod.mk.injEq,List.mem_cons,Prod.mk.injEq]
      constructor
      · rintro (h | h)
        · exact .inl h
        · exact .inr ⟨fun e=>hn.1 (e ▸ List.mem_map_of_mem (f:=(·.1)) h),.inr h⟩
      · rintro (h | ⟨c,h | h⟩)
        · exact .inl h
        · exact absurd h.1 c
        · exact .inr h
    · rw [Q3 e,List.mem_cons,qgd hn.2 a w,List.mem_cons,Prod.mk.injEq]
      constructor
      · rintro (⟨rfl,rfl⟩ | h | ⟨c,d⟩)
        · exact .inr ⟨fun h=>e h.symm,.inl ⟨rfl,rfl⟩⟩
        · exact .inl h
        · exact .inr ⟨c,.inr d⟩
      · rintro (h | ⟨c,h | h⟩)
        · exact .inr (.inl h)
        · exact .inl h
        · exact .inr (.inr ⟨c,h⟩)
theorem q8j {k : α} {v : β} : ∀ {R : List (α × β)} (a : α),a∈(Ka k v R).map (·.1)↔a = k∨a∈R.map (·.1)
  | [],a=>by simp [Ka]
  | (b,u)::r,a=>by
    simp only [Ka]
    by_cases e : k = b
    · subst e;simp
    · simp only [e,if_false,List.map_cons,List.mem_cons,q8j a];constructor <;> (rintro (h | h | h) <;> simp [h])
theorem qgm {k : α} {v : β} : ∀ {R : List (α × β)},(R.map (·.1)).Nodup→((Ka k v R).map (·.1)).Nodup
  | [],_=>by simp [Ka]
  | (b,u)::r,hn=>by
    simp only [List.map_cons,List.nodup_cons] at hn
    simp only [Ka]
    by_cases e : k = b
    · subst e;simp only [if_true,List.map_cons,List.nodup_cons];exact hn
    · simp only [e,if_false,List.map_cons,List.nodup_cons]
      refine ⟨fun h=>?_,qgm hn.2⟩
      rcases (q8j b).1 h with h | h
      · exact e h.symm
      · exact hn.1 h
theorem qme {k : α} {v : β} : ∀ {R : List (α × β)},(Ka k v R).length≤R.length + 1
  | []=>by simp [Ka]
  | (b,u)::r=>by
    simp only [Ka]
    have:=qme (k:=k) (v:=v) (R:=r)
    split <;> simp <;> omega
end
def hk (s : qu) : Option (Int × qi):=if s.A.Y = s.B.Y then some (s.A.Y,{Lo:=min s.A.X s.B.X,Hi:=max s.A.X s.B.X}) else none
def vk (s : qu) : Option (Int × qi):=if s.A.Y = s.B.Y then none else some (s.A.X,{Lo:=min s.A.Y s.B.Y,Hi:=max s.A.Y s.B.Y})
def onL (L : List (Int × qi)) (k x : Int) : Prop:=∃ p∈L,p.1 = k∧p.2.Lo≤x∧x < p.2.Hi
def Y9 (L : List (Int × qi)) (k : Int) : List qi:=(L.filter fun p=>decide (p.1 = k)).map (·.2)
theorem q4a {L : List (Int × qi)} {k : Int} {t : qi} : t∈Y9 L k↔(k,t)∈L:=by
  simp only [Y9,List.mem_map,List.mem_filter,decide_eq_true_eq];constructor
  · rintro ⟨⟨a,b⟩,⟨c,rfl⟩,rfl⟩;exact c
  · intro h;exact ⟨(k,t),⟨h,rfl⟩,rfl⟩
theorem q2k {L : List (Int × qi)} {k : Int} : (Y9 L k).length≤L.length:=by
  simp only [Y9,List.length_map];exact List.length_filter_le _ _
theorem ql2 {L : List (Int × qi)} {k x : Int} : has (Y9 L k) x↔onL L k x:=by
  constructor
  · rintro ⟨t,b,h⟩;exact ⟨(k,t),q4a.1 b,rfl,h⟩
  · rintro ⟨⟨a,t⟩,b,rfl,h⟩;exact ⟨t,q4a.2 b,h⟩
theorem qbu {L : List (Int × qi)} {k : Int} {t : qi} (a : Int) : Y9 (L ++ [(k,t)]) a = Y9 L a ++ (if a = k then [t] else []):=by
  simp only [Y9,List.filter_append,List.map_append,List.append_cancel_left_eq];by_cases e : k = a
  · subst e;simp
  · have : ¬ a = k:=fun h=>e h.symm;simp [e,this]
structure Grp (L : List (Int × qi)) (R : List (Int × List qi)) : Prop where
  nd : (R.map (·.1)).Nodup
  val : ∀ k v,(k,v)∈R→v = Y9 L k
  all : ∀ k t,(k,t)∈L→k∈R.map (·.1)
  own : ∀ k,k∈R.map (·.1)→∃ t,(k,t)∈L
theorem Grp.get {L : List (Int × qi)} {R : List (Int × List qi)} (h : Grp L R) (k : Int) : K5 [] k R = Y9 L k:=by
  by_cases hk : k∈R.map (·.1)
  · obtain ⟨⟨a,v⟩,b,rfl⟩:=List.mem_map.1 hk;rw [qdj h.nd b];exact h.val _ _ b
  · rw [qdk hk];symm;refine List.eq_nil_iff_forall_not_mem.2 fun t c=>?_;exact hk (h.all k t (q4a.1 c))
theorem Grp.put {L : List (Int × qi)} {R : List (Int × List qi)} (h : Grp L R) (k : Int) (t : qi) : Grp (L ++ [(k,t)]) (Ka k (Y9 L k ++ [t]) R):=by
  refine ⟨qgm h.nd,fun a v f=>?_,fun a u d=>?_,fun a c=>?_⟩
  · rw [qbu];rcases (qgd h.nd a v).1 f with ⟨rfl,rfl⟩ | ⟨b,g⟩
    · rw [Q0 rfl]
    · rw [Q3 b,List.append_nil];exact h.val a v g
  · rw [q8j];rcases List.mem_append.1 d with b | b
    · exact .inr (h.all a u b)
    · simp only [List.mem_singleton,Prod.mk.injEq] at b;exact .inl b.1
  · rcases (q8j a).1 c with rfl | c
    · exact ⟨t,qb⟩
    · obtain ⟨u,d⟩:=h.own a c;exact ⟨u,by simp [d]⟩
theorem Grp.nil : Grp [] []:=⟨.nil,fun _ _ h=>(by cases h),fun _ _ h=>(by cases h),fun _ h=>(by cases h)⟩
theorem Grp.len {L : List (Int × qi)} {R : List (Int × List qi)} (h : Grp L R) : R.length≤L.length:=by
  have : (R.map (·.1)).length≤(L.map (·.1)).length:=by
    refine List.Nodup.length_le_of_subset h.nd fun k hk=>?_;obtain ⟨t,a⟩:=h.own k hk;exact List.mem_map_of_mem (f:=(·.1)) a
  simpa using this
structure Rep (R : List (Int × List qi)) (F : Int→Int→Prop) : Prop where
  nd : (R.map (·.1)).Nodup
  good : ∀ k v,(k,v)∈R→Good v
  len : ∀ k v,(k,v)∈R→v.length≤800
  pts : ∀ k v,(k,v)∈R→∀ x,has v x↔F k x
  all : ∀ k x,F k x→k∈R.map (·.1)
  cnt : R.length≤400
  key : ∀ k∈R.map (·.1),-1000000≤k∧k≤1000000
theorem Rep.get {R : List (Int × List qi)} {F : Int→Int→Prop} (h : Rep R F) (k x : Int) : has (K5 [] k R) x↔F k x:=by
  by_cases hk : k∈R.map (·.1)
  · obtain ⟨⟨a,v⟩,c,rfl⟩:=List.mem_map.1 hk;rw [qdj h.nd c];exact h.pts _ _ c x
  · rw [qdk hk];exact ⟨fun b=>absurd b (q1k x),fun b=>absurd (h.all k x b) hk⟩
theorem Rep.getlen {R : List (Int × List qi)} {F : Int→Int→Prop} (h : Rep R F) (k : Int) : (K5 [] k R).length≤800:=by
  by_cases hk : k∈R.map (·.1)
  · obtain ⟨⟨a,v⟩,b,rfl⟩:=List.mem_map.1 hk;rw [qdj h.nd b];exact h.len _ _ b
  · rw [qdk hk];simp
theorem qfc {L : List (Int × qi)} (d : L.length≤400) (b : ∀ k t,(k,t)∈L→vld t) : ∀ {R : List (Int × List qi)},(∀ k v,(k,v)∈R→v = Y9 L k)→Jx R = some (R.map fun e=>(e.1,U4 2 (Y9 L e.1) []))
  | [],_=>rfl
  | (k,v)::r,h=>by
    have e:=h k v qb
    have j:=qfc d b (R:=r) fun a w c=>h a w (by simp [c])
    have l:=q2k (L:=L) (k:=k)
    have g : qdc v = (U4 2 (Y9 L k) [],0):=by
      subst e;unfold qdc;rw [Q3 q7,Q0 fun t f=>b k t (q4a.1 f)]
    simp only [Jx,qvg,g,qn,j,List.map_cons]
theorem qo7 {L : List (Int × qi)} {R : List (Int × List qi)} (h : Grp L R) (p : L.length≤400) (m : ∀ k t,(k,t)∈L→vld t) (hb : ∀ k t,(k,t)∈L→-1000000≤k∧k≤1000000) : Rep (R.map fun e=>(e.1,U4 2 (Y9 L e.1) [])) (onL L):=by
  have J : ∀ k,qeu 2 (Y9 L k) [] (U4 2 (Y9 L k) []):=fun k=>(ql7 2 _ _ (by have:=q2k (L:=L) (k:=k);omega) qb).2
  have c : ∀ k v,(k,v)∈(R.map fun e=>(e.1,U4 2 (Y9 L e.1) []))→v = U4 2 (Y9 L k) []:=by
    intro k v f;obtain ⟨e,q,n⟩:=List.mem_map.1 f;cases n;rfl
  have b : (R.map fun e=>(e.1,U4 2 (Y9 L e.1) [])).map (·.1) = R.map (·.1):=by simp
  refine ⟨by rw [b];exact h.nd,fun k v f=>?_,fun k v f=>?_,fun k v f x=>?_,fun k x d=>?_,?_,fun k hk=>?_⟩
  · rw [c k v f];refine ⟨fun t g=>⟨(J k).can.1 t g,?_⟩,(J k).can.2⟩;obtain ⟨e1,o⟩:=(J k).ends t g
    have j : ∀ x,x∈ends (Y9 L k)∨x∈ends []→-1000000≤x∧x≤1000000:=by
      rintro x (d | d)
      · obtain ⟨u,l,d⟩:=q8f.1 d;have:=m k u (q4a.1 l);unfold vld at this;rcases d with rfl | rfl <;> omega
      · cases d
    exact ⟨(j _ e1).1,(j _ o).2⟩
  · rw [c k v f];have:=(J k).len;have:=q2k (L:=L) (k:=k);simp only [List.length_nil,Nat.add_zero] at *;omega
  · rw [c k v f,(J k).pts,ql2];simp [q2b,q1k]
  · rw [b];obtain ⟨⟨a,t⟩,hp,rfl,_⟩:=d;exact h.all _ _ hp
  · have:=h.len;simp;omega
  · rw [b] at hk;obtain ⟨t,g⟩:=h.own k hk;exact hb k t g
theorem qrp {r : Yb} {s : qu} {L M : List (Int × qi)} (c : Grp L r.rows_) (b : Grp M r.columns_) (g : L.length≤1000) (f : M.length≤1000) : ∃ a,q17 r s = some a∧Grp (L ++ (hk s).toList) a.rows_∧Grp (M ++ (vk s).toList) a.columns_:=by
  unfold q17 hk vk;by_cases e : s.A.Y = s.B.Y
  · have d : (s.A.Y == s.B.Y) = true:=by simpa using e
    rw [d,Q1,c.get,Yh (by have:=q2k (L:=L) (k:=s.A.Y);simp;omega),Q0 e,Q0 e];refine ⟨_,rfl,c.put _ _,by simpa using b⟩
  · have d : (s.A.Y == s.B.Y) = false:=by simpa using e
    rw [d,qx,b.get,Yh (by have:=q2k (L:=M) (k:=s.A.X);simp;omega),Q3 e,Q3 e];refine ⟨_,rfl,by simpa using c,b.put _ _⟩
theorem qji : ∀ (l : List qu) {r : Yb} {L M : List (Int × qi)},Grp L r.rows_→Grp M r.columns_→L.length + l.length≤1000→M.length + l.length≤1000→∃ a,q1y l r = some a∧Grp (L ++ l.filterMap hk) a.rows_∧Grp (M ++ l.filterMap vk) a.columns_
  | [],r,L,M,h1,h2,_,_=>⟨r,rfl,by simpa using h1,by simpa using h2⟩
  | s::l,r,L,M,h1,h2,hl,hm=>by
    simp only [List.length_cons] at hl hm
    obtain ⟨n,e1,f,d⟩:=qrp (s:=s) h1 h2 q7 q7
    have m : (hk s).toList.length≤1:=by cases hk s <;> simp
    have k : (vk s).toList.length≤1:=by cases vk s <;> simp
    obtain ⟨b,g,j,c⟩:=qji l f d (by simp;omega) (by simp;omega)
    refine ⟨b,by simp only [q1y,e1,qn,g],?_,?_⟩
    · have : L ++ (s::l).filterMap hk = L ++ (hk s).toList ++ l.filterMap hk:=by cases h : hk s <;> simp [h]
      rw [this];exact j
    · have : M ++ (s::l).filterMap vk = M ++ (vk s).toList ++ l.filterMap vk:=by cases h : vk s <;> simp [h]
      rw [this];exact c
structure SegV (s : qu) : Prop where
  a : -1000000≤s.A.X∧s.A.X≤1000000∧-1000000≤s.A.Y∧s.A.Y≤1000000
  b : -1000000≤s.B.X∧s.B.X≤1000000∧-1000000≤s.B.Y∧s.B.Y≤1000000
  or : (s.A.X = s.B.X∧s.A.Y≠s.B.Y)∨(s.A.X≠s.B.X∧s.A.Y = s.B.Y)
def q2f (l : List qu) : List (Int × qi):=l.filterMap hk
def q1z (l : List qu) : List (Int × qi):=l.filterMap vk
theorem q5p {l : List qu} {k : Int} {t : qi} : (k,t)∈q2f l↔∃ s∈l,s.A.Y = s.B.Y∧k = s.A.Y∧t = {Lo:=min s.A.X s.B.X,Hi:=max s.A.X s.B.X}:=by
  simp only [q2f,List.mem_filterMap,hk];constructor
  · rintro ⟨s,hs,h⟩;split at h
    · cases h;exact ⟨s,hs,by assumption,rfl,rfl⟩
    · cases h
  · rintro ⟨s,hs,a,rfl,rfl⟩;exact ⟨s,hs,by rw [Q0 a]⟩
theorem q5o {l : List qu} {k : Int} {t : qi} : (k,t)∈q1z l↔∃ s∈l,s.A.Y≠s.B.Y∧k = s.A.X∧t = {Lo:=min s.A.Y s.B.Y,Hi:=max s.A.Y s.B.Y}:=by
  simp only [q1z,List.mem_filterMap,vk];constructor
  · rintro ⟨s,hs,h⟩;split at h
    · cases h
    · cases h;exact ⟨s,hs,by assumption,rfl,rfl⟩
  · rintro ⟨s,hs,a,rfl,rfl⟩;exact ⟨s,hs,by rw [Q3 a]⟩
theorem q10d (l : List qu) : (q2f l).length≤l.length:=List.length_filterMap_le _ _
theorem qrs (l : List qu) : (q1z l).length≤l.length:=List.length_filterMap_le _ _
theorem qhg {l : List qu} (h : ∀ s∈l,SegV s) : ∀ k t,(k,t)∈q2f l→vld t:=by
  intro k t a;obtain ⟨s,hs,j,_,rfl⟩:=q5p.1 a;obtain ⟨⟨f,g,m,b⟩,⟨b1,b2,d,c⟩,o⟩:=h s hs;unfold vld;simp only;omega
theorem qof {l : List qu} (h : ∀ s∈l,SegV s) : ∀ k t,(k,t)∈q2f l→-1000000≤k∧k≤1000000:=by
  intro k t b;obtain ⟨s,hs,c,rfl,rfl⟩:=q5p.1 b;exact ⟨(h s hs).a.2.2.1,(h s hs).a.2.2.2⟩
theorem qjj {l : List qu} (h : ∀ s∈l,SegV s) : ∀ k t,(k,t)∈q1z l→-1000000≤k∧k≤1000000:=by
  intro k t b;obtain ⟨s,hs,c,rfl,rfl⟩:=q5o.1 b;exact ⟨(h s hs).a.1,(h s hs).a.2.1⟩
theorem qfe {l : List qu} (h : ∀ s∈l,SegV s) : ∀ k t,(k,t)∈q1z l→vld t:=by
  intro k t a;obtain ⟨s,hs,j,_,rfl⟩:=q5o.1 a;obtain ⟨⟨f,g,m,b⟩,⟨b1,b2,d,c⟩,o⟩:=h s hs;unfold vld;simp only;omega
theorem qcm {l : List qu} (d : l.length≤400) (a : ∀ s∈l,SegV s) : ∃ r,q7d l = some r∧Rep r.rows_ (onL (q2f l))∧Rep r.columns_ (onL (q1z l)):=by
  obtain ⟨r,e,c,b⟩:=qji l (r:={rows_:=[],columns_:=[]}) .nil .nil (by simp;omega) (by simp;omega);simp only [List.nil_append] at c b;have f:=q10d l;have n2:=qrs l;refine ⟨{rows_:=_,columns_:=_},?_,qo7 c (by show (q2f l).length≤400;omega) (qhg a) (qof a),qo7 b (by show (q1z l).length≤400;omega) (qfe a) (qjj a)⟩;unfold q7d;rw [Q2 (show l.length≤1000000 by omega),Q1,e,qn,qfc (L:=q2f l) q7 (qhg a) c.val,qn,qfc (L:=q1z l) q7 (qfe a) b.val];rfl
end Go.Sh
