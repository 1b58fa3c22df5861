/- Pg4 Pg5 Pg6 Pj1 Pj2 Pl4 Pj3 St1 St2 St3 St4 -/
import Derived.Test.YtgkialgkmjnfbaaK11
namespace Go.Sh
open Go Go.Am
section
variable {T : Type} [Inhabited T] {P : T→Prop} {lt : T→T→Bool} {q : T→T→Option Int}
theorem qgw {f : Int→Option (Int ⊕ Int)} (p : T→Bool) (d : Array T) (j : Nat)
    (b : ∀ k : Nat,k≤1000002→f (k : Int) = if (decide (k≤j) && p d[k]!) = true then some (.inl ((k + 1 : Nat) : Int)) else some (.inr (k : Int))) (g : j≤1000000) :
    ∀ (m i : Nat),j + 1 - i = m→i≤1000002→loop f (i : Int) = some ((Sort.scanUp p d j i : Nat) : Int):=by
  intro m
  induction m with
  | zero=>
    intro i c hi;unfold Sort.scanUp;have a : ¬ (decide (i≤j) && p d[i]!) = true:=by simp;omega
    rw [qu a];exact K7 (by rw [b i hi,qu a])
  | succ m ih=>
    intro i c hi;unfold Sort.scanUp;by_cases a : (decide (i≤j) && p d[i]!) = true
    · rw [qr a,Kc (by rw [b i hi,qr a])];exact ih (i + 1) q9 q9
    · rw [qu a];exact K7 (by rw [b i hi,qu a])
theorem qdf {f : Int→Option (Int ⊕ Int)} (p : T→Bool) (d : Array T) (i n : Nat) (hi : 1≤i)
    (b : ∀ k : Nat,k < n→f (k : Int) = if (decide (i≤k) && p d[k]!) = true then some (.inl ((k - 1 : Nat) : Int)) else some (.inr (k : Int))) :
    ∀ (j : Nat),j < n→loop f (j : Int) = some ((Sort.scanDown p d i j : Nat) : Int)
  | 0,hj=>by
    have a : ¬ (decide (i≤0) && p d[0]!) = true:=by simp;omega
    exact K7 (by rw [b 0 hj,qu a];rfl)
  | j + 1,hj=>by
    unfold Sort.scanDown
    by_cases a : (decide (i≤j + 1) && p d[j + 1]!) = true
    · rw [qr a,Kc (by rw [b (j + 1) hj,qr a])]
      exact qdf p d i n hi b j q9
    · rw [qu a]
      exact K7 (by rw [b (j + 1) hj,qu a])
theorem qmg (b : Y7 q lt P) {n : Nat} {d : Array T} (hd : AllP n P d) {a j : Nat} (c : a < n) (m : j < n) (x : Int) (k : Nat) (hk : k≤1000002) :
    Jf (x,(j : Int),d.toList) (a : Int) q (k : Int) = if (decide (k≤j) && (fun x=>lt x d[a]!) d[k]!) = true then some (.inl ((k + 1 : Nat) : Int)) else some (.inr (k : Int)):=by
  have l:=hd.1;by_cases h : k≤j
  · obtain ⟨r,g,f⟩:=b d[k]! d[a]! (hd.2.2 _ q9) (hd.2.2 _ c);have t : decide ((k : Int)≤(j : Int)) = true:=Q2 q9;simp only [Jf,t,Qb,gx (d:=d) (k:=k) q9,gx (d:=d) (k:=a) q9,qq,g,f,w1p k q9];simp only [Q2 h,Bool.true_and,Bool.cond_eq_ite]
  · have t : decide ((k : Int)≤(j : Int)) = false:=Q6 q9;simp only [Jf,t,Q4,qq];simp [h]
theorem qmh (c : Y7 q lt P) {n : Nat} {d : Array T} (hd : AllP n P d) {a i : Nat} (f : a < n) (hi : 1≤i) (x y : Int) (k : Nat) (hk : k < n) :
    Jg (i : Int) (x,y,d.toList) (a : Int) q (k : Int) = if (decide (i≤k) && (fun x=>!lt x d[a]!) d[k]!) = true then some (.inl ((k - 1 : Nat) : Int)) else some (.inr (k : Int)):=by
  have j:=hd.1;have l:=hd.2.1;by_cases h : i≤k
  · obtain ⟨r,g,b⟩:=c d[k]! d[a]! (hd.2.2 _ q9) (hd.2.2 _ f);have t : decide ((i : Int)≤(k : Int)) = true:=Q2 q9;have w : w64 ((k : Int) - 1) = ((k - 1 : Nat) : Int):=by rw [Qd q9];omega
    simp only [Jg,t,Qb,gx (d:=d) (k:=k) q9,gx (d:=d) (k:=a) q9,qq,g,b,w];simp only [Q2 h,Bool.true_and,Bool.cond_eq_ite]
  · have t : decide ((i : Int)≤(k : Int)) = false:=Q6 q9;simp only [Jg,t,Q4,qq];simp [h]
theorem qx3 (b : Y7 q lt P) {n : Nat} {d : Array T} (hd : AllP n P d) {a j : Nat} (c : a < n) (m : j < n) (x : Int) (k : Nat) (hk : k≤1000002) :
    Uw (x,(j : Int),d.toList) (a : Int) q (k : Int) = if (decide (k≤j) && (fun x=>!lt d[a]! x) d[k]!) = true then some (.inl ((k + 1 : Nat) : Int)) else some (.inr (k : Int)):=by
  have l:=hd.1;by_cases h : k≤j
  · obtain ⟨r,g,f⟩:=b d[a]! d[k]! (hd.2.2 _ c) (hd.2.2 _ q9);have t : decide ((k : Int)≤(j : Int)) = true:=Q2 q9;simp only [Uw,t,Qb,gx (d:=d) (k:=k) q9,gx (d:=d) (k:=a) q9,qq,g,f,w1p k q9];simp only [Q2 h,Bool.true_and,Bool.cond_eq_ite]
  · have t : decide ((k : Int)≤(j : Int)) = false:=Q6 q9;simp only [Uw,t,Q4,qq];simp [h]
theorem qx4 (c : Y7 q lt P) {n : Nat} {d : Array T} (hd : AllP n P d) {a i : Nat} (f : a < n) (hi : 1≤i) (x y : Int) (k : Nat) (hk : k < n) :
    Ux (i : Int) (x,y,d.toList) (a : Int) q (k : Int) = if (decide (i≤k) && (fun x=>lt d[a]! x) d[k]!) = true then some (.inl ((k - 1 : Nat) : Int)) else some (.inr (k : Int)):=by
  have j:=hd.1;have l:=hd.2.1;by_cases h : i≤k
  · obtain ⟨r,g,b⟩:=c d[a]! d[k]! (hd.2.2 _ f) (hd.2.2 _ q9);have t : decide ((i : Int)≤(k : Int)) = true:=Q2 q9;have w : w64 ((k : Int) - 1) = ((k - 1 : Nat) : Int):=by rw [Qd q9];omega
    simp only [Ux,t,Qb,gx (d:=d) (k:=k) q9,gx (d:=d) (k:=a) q9,qq,g,b,w];simp only [Q2 h,Bool.true_and,Bool.cond_eq_ite]
  · have t : decide ((i : Int)≤(k : Int)) = false:=Q6 q9;simp only [Ux,t,Q4,qq];simp [h]
theorem qwy (o : Y7 q lt P) (a n : Nat) (r : a < n) : ∀ (m i j : Nat) (d : Array T),j + 1 - i = m→AllP n P d→1≤i→i≤n + 1→j < n→
    loop (q1s (a : Int) q) ((i : Int),(j : Int),d.toList) = some (((Sort.partLoop lt a i j d).1 : Int),(Sort.partLoop lt a i j d).2.toList)∧AllP n P (Sort.partLoop lt a i j d).2∧(Sort.partLoop lt a i j d).1 < n:=by
  intro m
  induction m using Nat.strongRecOn with
  | _ m ih=>
    intro i j d hm hd hi v p;have z:=hd.1;have hn:=hd.2.1;rw [Sort.partLoop_eq];have s1:=qgw (f:=Jf ((i : Int),(j : Int),d.toList) (a : Int) q) (fun x=>lt x d[a]!) d j (fun k hk=>qmg o hd r p _ k hk) q9 _ i rfl q9;have g1:=Sort.scanUp_ge (fun x=>lt x d[a]!) d j i;have y:=(Sort.scanUp_spec (fun x=>lt x d[a]!) d j _ i rfl).2.1;generalize Sort.scanUp (fun x=>lt x d[a]!) d j i = c at s1 g1 y ⊢;have l:=qdf (f:=Jg (c : Int) ((i : Int),(j : Int),d.toList) (a : Int) q) (fun x=>!lt x d[a]!) d c n q9 (fun k hk=>qmh o hd r q9 _ _ k hk) j p;have u:=Sort.scanDown_le (fun x=>!lt x d[a]!) d c j;generalize Sort.scanDown (fun x=>!lt x d[a]!) d c j = g at l u ⊢;by_cases s : c > g
    · rw [qr s];have t : decide ((c : Int) > (g : Int)) = true:=Q2 q9;refine ⟨K7 ?_,hd,by show g < n;omega⟩;simp only [q1s,s1,l,qq,t,Qb]
    · rw [qu s];have t : decide ((c : Int) > (g : Int)) = false:=Q6 q9;have h:=ih ((g - 1) + 1 - (c + 1)) q9 (c + 1) (g - 1) _ rfl (hd.swp (a:=c) (b:=g) q9 q9) q9 q9 q9;refine ⟨?_,h.2⟩;rw [Kc (a':=(((c + 1 : Nat) : Int),((g - 1 : Nat) : Int),(Sort.swp d c g).toList)) ?_]
      · exact h.1
      · have w : w64 ((g : Int) - 1) = ((g - 1 : Nat) : Int):=by rw [Qd q9];omega
        simp only [q1s,s1,l,qq,t,Q4,gx (d:=d) (k:=c) q9,gx (d:=d) (k:=g) q9,gxs (d:=d) (k:=g) q9,Int.toNat_natCast,gswp,w,w1p c q9]
theorem qwx (l : Y7 q lt P) (a n : Nat) (p : a < n) : ∀ (m i j : Nat) (d : Array T),j + 1 - i = m→AllP n P d→1≤i→i≤n + 1→j < n→
    loop (q1r (a : Int) q) ((i : Int),(j : Int),d.toList) = some (((Sort.partEqLoop lt a i j d).1 : Int),(Sort.partEqLoop lt a i j d).2.toList):=by
  intro m
  induction m using Nat.strongRecOn with
  | _ m ih=>
    intro i j d hm hd hi u o;have y:=hd.1;have hn:=hd.2.1;rw [Sort.partEqLoop_eq];have s1:=qgw (f:=Uw ((i : Int),(j : Int),d.toList) (a : Int) q) (fun x=>!lt d[a]! x) d j (fun k hk=>qx3 l hd p o _ k hk) q9 _ i rfl q9;have z:=Sort.scanUp_ge (fun x=>!lt d[a]! x) d j i;have v:=(Sort.scanUp_spec (fun x=>!lt d[a]! x) d j _ i rfl).2.1;generalize Sort.scanUp (fun x=>!lt d[a]! x) d j i = c at s1 z v ⊢;have h:=qdf (f:=Ux (c : Int) ((i : Int),(j : Int),d.toList) (a : Int) q) (fun x=>lt d[a]! x) d c n q9 (fun k hk=>qx4 l hd p q9 _ _ k hk) j o;have s:=Sort.scanDown_le (fun x=>lt d[a]! x) d c j;generalize Sort.scanDown (fun x=>lt d[a]! x) d c j = g at h s ⊢;by_cases r : c > g
    · rw [qr r];have t : decide ((c : Int) > (g : Int)) = true:=Q2 q9;refine K7 ?_;simp only [q1r,s1,h,qq,t,Qb]
    · rw [qu r];have t : decide ((c : Int) > (g : Int)) = false:=Q6 q9;rw [Kc (a':=(((c + 1 : Nat) : Int),((g - 1 : Nat) : Int),(Sort.swp d c g).toList)) ?_]
      · exact ih ((g - 1) + 1 - (c + 1)) q9 (c + 1) (g - 1) _ rfl (hd.swp (a:=c) (b:=g) q9 q9) q9 q9 q9
      · have w : w64 ((g : Int) - 1) = ((g - 1 : Nat) : Int):=by rw [Qd q9];omega
        simp only [q1r,s1,h,qq,t,Q4,gx (d:=d) (k:=c) q9,gx (d:=d) (k:=g) q9,gxs (d:=d) (k:=g) q9,Int.toNat_natCast,gswp,w,w1p c q9]
theorem qx0 (c : Y7 q lt P) {a b n p : Nat} (hb : b≤n) (f : a < b) (hp : p < n) {d : Array T} (hd : AllP n P d) :
    q1q q d.toList (a : Int) (b : Int) (p : Int) = some (((Sort.partitionEqual lt d a b p).1 : Int),(Sort.partitionEqual lt d a b p).2.toList):=by
  have g:=hd.1;have h:=hd.2.1;have w : w64 ((b : Int) - 1) = ((b - 1 : Nat) : Int):=by rw [Qd q9];omega
  have s:=qwx c a n q9 _ (a + 1) (b - 1) _ rfl (hd.swp (a:=a) (b:=p) q9 hp) q9 q9 q9;unfold q1q Sort.partitionEqual;simp only [gx (d:=d) (k:=p) q9,gx (d:=d) (k:=a) q9,gxs (d:=d) (k:=p) q9,qq,Int.toNat_natCast,gswp,w,w1p a q9,s]
theorem qx1 (j : Y7 q lt P) {a b n p : Nat} (hb : b≤n) (r : a < b) (hp : p < n) {d : Array T} (hd : AllP n P d) :
    q1p q d.toList (a : Int) (b : Int) (p : Int) = some (((Sort.partition lt d a b p).1 : Int),(Sort.partition lt d a b p).2.1,(Sort.partition lt d a b p).2.2.toList):=by
  have z:=hd.1;have hn:=hd.2.1;have w : w64 ((b : Int) - 1) = ((b - 1 : Nat) : Int):=by rw [Qd q9];omega
  have h:=hd.swp (a:=a) (b:=p) q9 hp
  have e1 : q2k (b : Int) d.toList (a : Int) d[p]! (p : Int) d[a]! q = Jf ((0 : Int),((b - 1 : Nat) : Int),(Sort.swp d a p).toList) (a : Int) q:=by
    funext k;simp only [q2k,Jf,w,Int.toNat_natCast,gswp]
  have y : ∀ c : Int,q2l c d.toList (a : Int) d[p]! (p : Int) d[a]! q = Jg c ((0 : Int),(0 : Int),(Sort.swp d a p).toList) (a : Int) q:=by
    intro c;funext k;simp only [q2l,Jg,Int.toNat_natCast,gswp]
  unfold q1p Sort.partition;simp only [gx (d:=d) (k:=p) q9,gx (d:=d) (k:=a) q9,gxs (d:=d) (k:=p) q9,qq,e1,y,Int.toNat_natCast,gswp,w,w1p a q9];generalize Sort.swp d a p = D at h ⊢;have ab:=h.1;have s1:=qgw (f:=Jf ((0 : Int),((b - 1 : Nat) : Int),D.toList) (a : Int) q) (fun x=>lt x D[a]!) D (b - 1) (fun k hk=>qmg j h q9 q9 _ k hk) q9 _ (a + 1) rfl q9;have g1:=Sort.scanUp_ge (fun x=>lt x D[a]!) D (b - 1) (a + 1);generalize Sort.scanUp (fun x=>lt x D[a]!) D (b - 1) (a + 1) = c at s1 g1 ⊢;have l:=qdf (f:=Jg (c : Int) ((0 : Int),(0 : Int),D.toList) (a : Int) q) (fun x=>!lt x D[a]!) D c n q9 (fun k hk=>qmh j h q9 q9 _ _ k hk) (b - 1) q9;have u:=Sort.scanDown_le (fun x=>!lt x D[a]!) D c (b - 1);generalize Sort.scanDown (fun x=>!lt x D[a]!) D c (b - 1) = g at l u ⊢;simp only [s1,l,qq];by_cases o : c > g
  · have t : decide ((c : Int) > (g : Int)) = true:=Q2 q9;simp only [qr o,t,Qb,gx (d:=D) (k:=a) q9,gx (d:=D) (k:=g) q9,gxs (d:=D) (k:=a) q9,qq,Int.toNat_natCast,gswp]
  · have t : decide ((c : Int) > (g : Int)) = false:=Q6 q9;have w2 : w64 ((g : Int) - 1) = ((g - 1 : Nat) : Int):=by rw [Qd q9];omega
    obtain ⟨s3,m,s⟩:=qwy j a n q9 _ (c + 1) (g - 1) _ rfl (h.swp (a:=c) (b:=g) q9 q9) q9 q9 q9;simp only [qu o,t,Q4,gx (d:=D) (k:=c) q9,gx (d:=D) (k:=g) q9,gxs (d:=D) (k:=g) q9,qq,Int.toNat_natCast,gswp,w2,w1p c q9,s3];generalize Sort.partLoop lt a (c + 1) (g - 1) (Sort.swp D c g) = R at m s ⊢;have v:=m.1;simp only [gx (d:=R.2) (k:=a) q9,gx (d:=R.2) (k:=R.1) q9,gxs (d:=R.2) (k:=a) q9,qq,gswp]
theorem qzb (l : Y7 q lt P) {b n : Nat} (hb : b≤n) {d : Array T} (hd : AllP n P d) (x y : Int) : ∀ (m i : Nat),b - i = m→1≤i→i≤b→
    loop (Uu (b : Int) (x,y,d.toList) q) (i : Int) = some ((Sort.scanSorted lt d b i : Nat) : Int)∧i≤Sort.scanSorted lt d b i∧Sort.scanSorted lt d b i≤b:=by
  have o:=hd.1;have p:=hd.2.1;intro m
  induction m with
  | zero=>
    intro i j hi a;unfold Sort.scanSorted;rw [qu (by simp;omega)];have t : decide ((i : Int) < (b : Int)) = false:=Q6 q9;exact ⟨K7 (by simp only [Uu,t,Q4,qq]),Nat.le_refl _,a⟩
  | succ m ih=>
    intro i j hi a;unfold Sort.scanSorted;have t : decide ((i : Int) < (b : Int)) = true:=Q2 q9;have w : w64 ((i : Int) - 1) = ((i - 1 : Nat) : Int):=by rw [Qd q9];omega
    obtain ⟨r,h,g⟩:=l d[i]! d[i - 1]! (hd.2.2 _ q9) (hd.2.2 _ q9);by_cases c : lt d[i]! d[i - 1]! = true
    · rw [qu (by simp [c])];refine ⟨K7 ?_,Nat.le_refl _,a⟩;simp only [Uu,t,Qb,w,gx (d:=d) (k:=i) q9,gx (d:=d) (k:=i - 1) q9,qq,h,g,c,Bool.not_true,Q4]
    · have c : lt d[i]! d[i - 1]! = false:=by simpa using c
      rw [qr (by simp [c];omega)];have f:=ih (i + 1) q9 q9 q9;refine ⟨?_,q9,f.2.2⟩;rw [Kc (a':=((i + 1 : Nat) : Int)) ?_]
      · exact f.1
      · simp only [Uu,t,Qb,w,gx (d:=d) (k:=i) q9,gx (d:=d) (k:=i - 1) q9,qq,h,g,c,Bool.not_false,w1p i q9]
theorem qnt (g : Y7 q lt P) (n : Nat) : ∀ (j : Nat) (d : Array T),AllP n P d→j < n→loop (Uc q) ((j : Int),d.toList) = some (Sort.shiftDown lt j d).toList∧AllP n P (Sort.shiftDown lt j d)
  | 0,d,hd,hj=>by
    have t : decide (((0 : Nat) : Int) ≥ 1) = false:=Q6 q9
    exact ⟨K7 (by simp only [Uc,t,Q4];rfl),hd⟩
  | j + 1,d,hd,hj=>by
    have m:=hd.1
    have o:=hd.2.1
    have t : decide (((j + 1 : Nat) : Int) ≥ 1) = true:=Q2 q9
    obtain ⟨r,l,f⟩:=g d[j + 1]! d[j]! (hd.2.2 _ hj) (hd.2.2 _ q9)
    unfold Sort.shiftDown
    by_cases c : lt d[j + 1]! d[j]! = true
    · rw [qu (by simp [c])]
      have h:=qnt g n j _ (hd.swp (a:=j + 1) (b:=j) hj q9) q9
      refine ⟨?_,h.2⟩
      rw [Kc (a':=((j : Int),(Sort.swp d (j + 1) j).toList)) ?_]
      · exact h.1
      · simp only [Uc,t,Qb,gx (d:=d) (k:=j + 1) q9,w1m j q9,gx (d:=d) (k:=j) q9,gxs (d:=d) (k:=j) q9,qq,l,f,c,Bool.not_true,Q4,Int.toNat_natCast,gswp]
    · have c : lt d[j + 1]! d[j]! = false:=by simpa using c
      rw [qr (by simp [c])]
      refine ⟨K7 ?_,hd⟩
      simp only [Uc,t,Qb,gx (d:=d) (k:=j + 1) q9,w1m j q9,gx (d:=d) (k:=j) q9,qq,l,f,c,Bool.not_false]
theorem qnv (p : Y7 q lt P) {b n : Nat} (hb : b≤n) (c : Int) : ∀ (m j : Nat) (d : Array T),b - j = m→AllP n P d→1≤j→loop (Uv (b : Int) q c) ((j : Int),d.toList) = some (c,(Sort.shiftUp lt b j d).toList)∧AllP n P (Sort.shiftUp lt b j d):=by
  intro m
  induction m with
  | zero=>
    intro j d o hd s;unfold Sort.shiftUp;rw [qu q9];have t : decide ((j : Int) < (b : Int)) = false:=Q6 q9;exact ⟨K7 (by simp only [Uv,t,Q4]),hd⟩
  | succ m ih=>
    intro j d o hd s;have u:=hd.1;have v:=hd.2.1;unfold Sort.shiftUp;rw [qr q9];have t : decide ((j : Int) < (b : Int)) = true:=Q2 q9;have w : w64 ((j : Int) - 1) = ((j - 1 : Nat) : Int):=by rw [Qd q9];omega
    obtain ⟨r,l,h⟩:=p d[j]! d[j - 1]! (hd.2.2 _ q9) (hd.2.2 _ q9);by_cases f : lt d[j]! d[j - 1]! = true
    · rw [qu (by simp [f])];have g:=ih (j + 1) _ q9 (hd.swp (a:=j) (b:=j - 1) q9 q9) q9;refine ⟨?_,g.2⟩;rw [Kc (a':=(((j + 1 : Nat) : Int),(Sort.swp d j (j - 1)).toList)) ?_]
      · exact g.1
      · simp only [Uv,t,Qb,w,gx (d:=d) (k:=j) q9,gx (d:=d) (k:=j - 1) q9,gxs (d:=d) (k:=j - 1) q9,qq,l,h,f,Bool.not_true,Q4,Int.toNat_natCast,gswp,w1p j q9]
    · have f : lt d[j]! d[j - 1]! = false:=by simpa using f
      rw [qr (by simp [f])];refine ⟨K7 ?_,hd⟩;simp only [Uv,t,Qb,w,gx (d:=d) (k:=j) q9,gx (d:=d) (k:=j - 1) q9,qq,l,h,f,Bool.not_false]
theorem qmj (j : Y7 q lt P) {a b n : Nat} (hb : b≤n) : ∀ (s i : Nat) (d : Array T),s≤5→AllP n P d→a < i→i≤b→
    ∃ m,loop (Zy (b : Int) q (a : Int)) ((i : Int),((5 - s : Nat) : Int),d.toList) = some m∧(match m with | .inl b441=>some (false,b441) | .inr x1=>some x1) = some ((Sort.partialIns lt a b s i d).2,(Sort.partialIns lt a b s i d).1.toList)
  | 0,i,d,hs,hd,hi,hib=>by
    have t : decide (((5 - 0 : Nat) : Int) < 5) = false:=Q6 q9
    refine ⟨.inl d.toList,K7 (by simp only [Zy,t,Q4]),rfl⟩
  | s + 1,i,d,hs,hd,hi,hib=>by
    have ac:=hd.1
    have hn:=hd.2.1
    have t : decide (((5 - (s + 1) : Nat) : Int) < 5) = true:=Q2 q9
    rw [Sort.partialIns_succ]
    obtain ⟨s1,l1,w⟩:=qzb j hb hd (i : Int) ((5 - (s + 1) : Nat) : Int) _ i rfl q9 hib
    generalize Sort.scanSorted lt d b i = k at s1 l1 w ⊢
    by_cases hk : k = b
    · subst hk
      rw [qr rfl]
      refine ⟨.inr (true,d.toList),K7 ?_,rfl⟩
      simp only [Zy,t,Qb,s1,qq,beq_self_eq_true]
    · rw [qu hk]
      have v : ((k : Int) == (b : Int)) = false:=by simp;omega
      have e0 : w64 ((b : Int) - (a : Int)) = ((b - a : Nat) : Int):=wsub q9 q9
      by_cases o : b - a < 50
      · rw [qr o]
        have g : decide (((b - a : Nat) : Int) < 50) = true:=Q2 q9
        refine ⟨.inr (false,d.toList),K7 ?_,rfl⟩
        simp only [Zy,t,Qb,s1,qq,v,Q4,e0,g]
      · rw [qu o]
        have g : decide (((b - a : Nat) : Int) < 50) = false:=Q6 q9
        have wk : w64 ((k : Int) - 1) = ((k - 1 : Nat) : Int):=by rw [Qd q9];omega
        have wa : w64 ((k : Int) - (a : Int)) = ((k - a : Nat) : Int):=wsub q9 q9
        have wb : w64 ((b : Int) - (k : Int)) = ((b - k : Nat) : Int):=wsub q9 q9
        have l:=hd.swp (a:=k) (b:=k - 1) q9 q9
        have down : (cond (decide (((k - a : Nat) : Int) ≥ 2)) ((loop (Uc q) (((k - 1 : Nat) : Int),(Sort.swp d k (k - 1)).toList)).bind fun x0=>some x0) (some (Sort.swp d k (k - 1)).toList)) = some (Sort.fixDown lt a k (Sort.swp d k (k - 1))).toList∧AllP n P (Sort.fixDown lt a k (Sort.swp d k (k - 1))):=by
          unfold Sort.fixDown;by_cases h : k - a ≥ 2
          · have f : decide (((k - a : Nat) : Int) ≥ 2) = true:=Q2 q9;obtain ⟨x,y⟩:=qnt j n (k - 1) _ l q9;rw [qr h,f,Qb,x];exact ⟨rfl,y⟩
          · have f : decide (((k - a : Nat) : Int) ≥ 2) = false:=Q6 q9;rw [qu h,f,Q4];exact ⟨rfl,l⟩
        obtain ⟨dn,c⟩:=down
        have p : AllP n P (Sort.fixUp lt b k (Sort.fixDown lt a k (Sort.swp d k (k - 1)))):=by
          unfold Sort.fixUp;split
          · exact (qnv j hb 0 _ (k + 1) _ rfl c q9).2
          · exact c
        obtain ⟨m,r,u⟩:=qmj (a:=a) j hb s k _ q9 p q9 w
        refine ⟨m,?_,u⟩
        rw [Kc (a':=((k : Int),((5 - s : Nat) : Int),(Sort.fixUp lt b k (Sort.fixDown lt a k (Sort.swp d k (k - 1)))).toList)) ?_]
        · exact r
        · have z : w64 (((5 - (s + 1) : Nat) : Int) + 1) = ((5 - s : Nat) : Int):=by rw [Qd q9];omega
          simp only [Zy,t,Qb,s1,qq,v,Q4,e0,g,wk,gx (d:=d) (k:=k) q9,gx (d:=d) (k:=k - 1) q9,gxs (d:=d) (k:=k - 1) q9,Int.toNat_natCast,gswp,wa,dn,wb,w1p k q9]
          unfold Sort.fixUp
          by_cases h : b - k ≥ 2
          · have f : decide (((b - k : Nat) : Int) ≥ 2) = true:=Q2 q9
            obtain ⟨x,y⟩:=qnv j hb (k : Int) _ (k + 1) _ rfl c q9
            rw [qr h,f,Qb,x]
            simp only [qq,z]
          · have f : decide (((b - k : Nat) : Int) ≥ 2) = false:=Q6 q9
            rw [qu h,f,Q4]
            simp only [qq,z]
theorem qwz (f : Y7 q lt P) {a b n : Nat} (hb : b≤n) (h : a < b) {d : Array T} (hd : AllP n P d) :
    Jv q d.toList (a : Int) (b : Int) = some ((Sort.partialInsertionSort lt d a b).2,(Sort.partialInsertionSort lt d a b).1.toList):=by
  have j:=hd.2.1;obtain ⟨m,c,g⟩:=qmj (a:=a) f hb 5 (a + 1) d q9 hd q9 q9;have c : loop (Zy (b : Int) q (a : Int)) (((a + 1 : Nat) : Int),0,d.toList) = some m:=c;unfold Jv Sort.partialInsertionSort;rw [w1p a q9,c];exact g
end
end Go.Sh
namespace Go.Sh
open Go Go.Am
theorem ql4 {α β : Type} {f : α→Option (α ⊕ β)} {a : α} (h : f a = none) : loop f a = none:=by
  apply Option.ext;intro b;rw [q89];constructor
  · rintro ⟨n,c⟩
    cases n with
    | zero=>simp [iter] at c
    | succ n=>simp [iter,h] at c
  · intro h;cases h
section
variable {T : Type} [Inhabited T] {P : T→Prop} {lt : T→T→Bool} {q : T→T→Option Int}
def Srt (lt : T→T→Bool) (a b : Nat) (d : Array T) (o : Option (List T)) : Prop:=∃ d' : Array T,o = some d'.toList∧Sort.PermIn a b d d'∧Sort.SortedIn lt a b d'
theorem qx2 (hq : Y7 q lt P) (hS : Sort.SWO lt) {n N : Nat} (af : List T→Int→Int→Int→Option (List T))
    (am : ∀ (a b f : Nat) (d : Array T),AllP n P d→a≤b→b≤n→f≤1000→Sort.Below lt a b d→Srt lt a b d (af d.toList (a : Int) (b : Int) (f : Int))∨(N≤b - a∧af d.toList (a : Int) (b : Int) (f : Int) = none)) :
    ∀ (m a b f : Nat) (wb wp : Bool) (d : Array T),b - a = m→AllP n P d→a≤b→b≤n→f≤1000→Sort.Below lt a b d→
      Srt lt a b d (loop (Zn q af) ((a : Int),(b : Int),(f : Int),wb,wp,d.toList))∨(N + 1≤b - a∧loop (Zn q af) ((a : Int),(b : Int),(f : Int),wb,wp,d.toList) = none):=by
  intro m
  induction m using Nat.strongRecOn with
  | _ m ih=>
    intro a b f wb wp d hm hd o hb hl hB;have cz:=hd.1;have hn:=hd.2.1;have e0 : w64 ((b : Int) - (a : Int)) = ((b - a : Nat) : Int):=wsub o q9;by_cases cy : b - a≤12
    ·
      have t : decide (((b - a : Nat) : Int)≤12) = true:=Q2 q9;obtain ⟨x,y⟩:=Sort.insertionSort_holds (lt:=lt) hS d a b o q9;have s:=qtk hq hb o hd;refine .inl ⟨_,K7 ?_,x,y⟩;simp only [Zn,e0,t,Qb,s,qq,Uz hd (hd.perm o hb x)]
    have bm : decide (((b - a : Nat) : Int)≤12) = false:=Q6 q9;by_cases h0 : f = 0
    ·
      have t : ((f : Int) == 0) = true:=by simp [h0]
      obtain ⟨x,y⟩:=Sort.heapSort_holds (lt:=lt) hS d a b o q9;have s:=qte hq hb (by omega : a < b) hd;refine .inl ⟨_,K7 ?_,x,y⟩;simp only [Zn,e0,bm,Q4,t,Qb,s,qq,Uz hd (hd.perm o hb x)]
    have t0 : ((f : Int) == 0) = false:=by simp [h0]
    have hA : ∃ (l1 : Nat) (d1 : Array T),(cond (!wb) ((q1l q d.toList (a : Int) (b : Int)).bind fun ba=>(Qy ba.length d.toList.length).bind fun cr=>some (w64 ((f : Int) - 1),ba)) (some ((f : Int),d.toList))) = some ((l1 : Int),d1.toList)∧l1≤1000∧AllP n P d1∧Sort.PermIn a b d d1:=by
      cases wb with
      | true=>exact ⟨f,d,rfl,hl,hd,Sort.permIn_refl _ _ _⟩
      | false=>
        have x:=Sort.breakPatterns_holds d a b o q9;have z:=hd.perm o hb x;have w : w64 ((f : Int) - 1) = ((f - 1 : Nat) : Int):=by rw [Qd q9];omega
        refine ⟨f - 1,_,?_,q9,z,x⟩;simp only [Bool.not_false,Qb,qpg (q:=q) hb (by omega : a < b) hd,qq,Uz hd z,w]
    obtain ⟨l1,d1,eA,an,z,p1⟩:=hA;have hC:=qqg hq z (by omega : a < b) hb;obtain ⟨c1,c2⟩:=Sort.choosePivot_holds lt d1 a b q9;generalize (Sort.choosePivot lt d1 a b).1 = c at hC c1 c2;generalize qfj (Sort.choosePivot lt d1 a b).2 = h at hC
    have hR : ∃ (p : Nat) (h2 : Int) (d2 : Array T),(cond (h == 2) ((q1t q d1.toList (a : Int) (b : Int)).bind fun bd=>(Qy bd.length d1.toList.length).bind fun co=>some (w64 ((w64 ((b : Int) - 1)) - (w64 ((c : Int) - (a : Int)))),(1 : Int),bd)) (some ((c : Int),h,d1.toList))) = some ((p : Int),h2,d2.toList)∧a≤p∧p < b∧AllP n P d2∧Sort.PermIn a b d1 d2:=by
      cases hh : (h == 2) with
      | false=>exact ⟨c,h,d1,rfl,c1,c2,z,Sort.permIn_refl _ _ _⟩
      | true=>
        have x:=Sort.reverseRange_holds d1 a b o (by rw [z.1];exact hb);have ac:=z.perm o hb x;have w1 : w64 ((b : Int) - 1) = ((b - 1 : Nat) : Int):=by rw [Qd q9];omega
        have w2 : w64 ((c : Int) - (a : Int)) = ((c - a : Nat) : Int):=wsub c1 q9;have w3 : w64 (((b - 1 : Nat) : Int) - ((c - a : Nat) : Int)) = ((b - 1 - (c - a) : Nat) : Int):=wsub q9 q9;refine ⟨b - 1 - (c - a),1,_,?_,q9,q9,ac,x⟩;simp only [Qb,qyx (q:=q) hb (by omega : a < b) z,qq,Uz z ac,w1,w2,w3]
    obtain ⟨p,h2,d2,eR,hp1,hp2,ac,p2⟩:=hR;have bv : Sort.Below lt a b d2:=(hB.perm q9 p1).perm (by rw [z.1];exact hb) p2;have bp:=Sort.permIn_trans _ _ _ a b p1 p2
    have hP : ∀ cc : Bool,∃ ab : (List T) ⊕ (List T),(cond cc ((Jv q d2.toList (a : Int) (b : Int)).bind fun ag=>(Qy ag.2.length d2.toList.length).bind fun cx=>cond ag.1 (some (.inr ag.2)) (some (.inl ag.2))) (some (.inl d2.toList)) : Option ((List T) ⊕ (List T))) = some ab∧
        ((∃ l : Array T,ab = .inr l.toList∧Sort.PermIn a b d2 l∧Sort.SortedIn lt a b l)∨(∃ l : Array T,ab = .inl l.toList∧AllP n P l∧Sort.PermIn a b d2 l)):=by
      intro cc
      cases cc with
      | false=>exact ⟨_,rfl,.inr ⟨d2,rfl,ac,Sort.permIn_refl _ _ _⟩⟩
      | true=>
        obtain ⟨x,y⟩:=Sort.partialInsertionSort_holds (lt:=lt) hS d2 a b q9 (by rw [ac.1];exact hb) bv;have u:=ac.perm o hb x;have s:=qwz hq hb (by omega : a < b) ac;simp only [Qb,s,qq,Uz ac u]
        cases hz : (Sort.partialInsertionSort lt d2 a b).2 with
        | true=>exact ⟨_,rfl,.inl ⟨_,rfl,x,y hz⟩⟩
        | false=>exact ⟨_,rfl,.inr ⟨_,rfl,u,x⟩⟩
    obtain ⟨ab,eP,br⟩:=hP (wb && wp && (h2 == 1))
    have cl : ∀ {γ : Type} (X : Bool→Option γ),((cond wb (some wp) (some false)).bind fun bt=>(cond bt (some (h2 == 1)) (some false)).bind X) = X (wb && wp && (h2 == 1)):=by
      intro γ X;cases wb <;> cases wp <;> rfl
    have head : Zn q af ((a : Int),(b : Int),(f : Int),wb,wp,d.toList) = (match (generalizing:=false) ab with | .inl b377=>(cond (decide ((a : Int) > 0)) ((idx b377 (w64 ((a : Int) - 1))).bind fun av=>(idx b377 (p : Int)).bind fun ao=>(q av ao).bind fun ar=>some (!(decide (ar < 0)))) (some false)).bind fun bq=>cond bq ((q1q q b377 (a : Int) (b : Int) (p : Int)).bind fun al=>(Qy al.2.length b377.length).bind fun cw=>some (.inl (al.1,(b : Int),(l1 : Int),wb,wp,al.2))) ((q1p q b377 (a : Int) (b : Int) (p : Int)).bind fun g=>(Qy g.2.2.length b377.length).bind fun cn=>cond (decide ((w64 (g.1 - (a : Int))) < (w64 ((b : Int) - g.1)))) ((af g.2.2 (a : Int) g.1 (l1 : Int)).bind fun az=>(Qy az.length g.2.2.length).bind fun cu=>some (.inl (w64 (g.1 + 1),(b : Int),(l1 : Int),decide ((w64 (g.1 - (a : Int))) ≥ (w64 (Int.tdiv ((b - a : Nat) : Int) 8))),g.2.1,az))) ((af g.2.2 (w64 (g.1 + 1)) (b : Int) (l1 : Int)).bind fun bc=>(Qy bc.length g.2.2.length).bind fun ct=>some (.inl ((a : Int),g.1,(l1 : Int),decide ((w64 ((b : Int) - g.1)) ≥ (w64 (Int.tdiv ((b - a : Nat) : Int) 8))),g.2.1,bc)))) | .inr x1=>some (.inr x1)):=by
      simp only [Zn,e0,bm,Q4,t0,eA,qq,hC,eR,cl,eP]
      all_goals (clear eP br hP am ih;cases ab <;> rfl)
    rcases br with ⟨l,rfl,x,y⟩ | ⟨l,rfl,u,p3⟩
    · refine .inl ⟨l,K7 ?_,Sort.permIn_trans _ _ _ a b bp x,y⟩;rw [head]
    have ax:=u.1;have P3:=Sort.permIn_trans _ _ _ a b bp p3;have B3 : Sort.Below lt a b l:=bv.perm (by rw [ac.1];exact hb) p3
    have bh : (cond (decide ((a : Int) > 0)) ((idx l.toList (w64 ((a : Int) - 1))).bind fun av=>(idx l.toList (p : Int)).bind fun ao=>(q av ao).bind fun ar=>some (!(decide (ar < 0)))) (some false)) = some (decide (a > 0) && !lt l[a - 1]! l[p]!):=by
      by_cases ha : a > 0
      · have ta : decide ((a : Int) > 0) = true:=Q2 q9;have w : w64 ((a : Int) - 1) = ((a - 1 : Nat) : Int):=by rw [Qd q9];omega
        obtain ⟨r,h1,h2⟩:=hq l[a - 1]! l[p]! (u.2.2 _ q9) (u.2.2 _ q9);simp only [ta,Qb,w,gx (d:=l) (k:=a - 1) q9,gx (d:=l) (k:=p) q9,qq,h1,h2,Q2 ha,Bool.true_and]
      · have ta : decide ((a : Int) > 0) = false:=Q6 q9;simp only [ta,Q4,Q6 ha,Bool.false_and]
    simp only [bh,qq] at head;by_cases hc : (decide (a > 0) && !lt l[a - 1]! l[p]!) = true
    ·
      rw [hc] at head;have s:=qx0 hq hb (by omega : a < b) (by omega : p < n) u;simp only [Bool.and_eq_true,decide_eq_true_eq,Bool.not_eq_true'] at hc
      cases hx : Sort.partitionEqual lt l a b p with
      | mk j d4=>
        obtain ⟨g1,g2,bz,cj,ad⟩:=Sort.round_eq hS (Sort.partitionEqual_holds lt) hc.1 hp1 hp2 (by rw [ax];exact hb) B3 hc.2 hx
        have cd : ∀ i,a≤i→i < b→lt l[i]! l[p]! = false:=fun i hi bx=>by
          rcases B3 with h0 | hB
          · omega
          · exact hS.ntrans _ _ _ (hB i hi bx) hc.2
        obtain ⟨_,_,v,_,_⟩:=Sort.partitionEqual_holds lt hS l a b p hp1 hp2 (by rw [ax];exact hb) cd;rw [hx] at v s;have aa:=u.perm o hb v;simp only [Qb,s,qq,Uz u aa] at head;rw [Kc head];rcases ih (b - j) q9 j b l1 wb wp d4 rfl aa g2 hb an cj with ⟨R,r0,r1,r2⟩ | ⟨r1,r2⟩
        · obtain ⟨q1,q2⟩:=ad _ r1 r2;exact .inl ⟨R,r0,Sort.permIn_trans _ _ _ a b P3 q1,q2⟩
        · exact .inr ⟨q9,r2⟩
    ·
      have hc : (decide (a > 0) && !lt l[a - 1]! l[p]!) = false:=by simpa using hc
      rw [hc] at head;have s:=qx1 hq hb (by omega : a < b) (by omega : p < n) u
      cases hx : Sort.partition lt l a b p with
      | mk j r=>
      cases r with
      | mk ap d4=>
        obtain ⟨g1,g2,bz,bw,cb,bg,ay⟩:=Sort.round_part hS (Sort.partition_holds lt) hp1 hp2 (by rw [ax];exact hb) B3 hx;obtain ⟨_,_,v,_,_⟩:=Sort.partition_holds lt hS l a b p hp1 hp2 (by rw [ax];exact hb);rw [hx] at v s;have aa:=u.perm o hb v;have w1 : w64 ((j : Int) - (a : Int)) = ((j - a : Nat) : Int):=wsub g1 q9;have w2 : w64 ((b : Int) - (j : Int)) = ((b - j : Nat) : Int):=wsub q9 q9;simp only [Q4,s,qq,Uz u aa,w1,w2,w1p j q9] at head;by_cases df : j - a < b - j
        · have tl : decide (((j - a : Nat) : Int) < ((b - j : Nat) : Int)) = true:=Q2 q9;simp only [tl,Qb] at head;rcases am a j l1 d4 aa g1 q9 an bw with ⟨L,e,aq,bj⟩ | ⟨r1,r2⟩
          · have au:=aa.perm g1 q9 aq;obtain ⟨bk,ad⟩:=bg _ aq bj;simp only [e,qq,Uz aa au] at head;rw [Kc head];rcases ih (b - (j + 1)) q9 (j + 1) b l1 _ _ L rfl au q9 hb an bk with ⟨R,r0,r1,r2⟩ | ⟨r1,r2⟩
            · obtain ⟨q1,q2⟩:=ad _ r1 r2;exact .inl ⟨R,r0,Sort.permIn_trans _ _ _ a b P3 q1,q2⟩
            · exact .inr ⟨q9,r2⟩
          · simp only [r2,Option.bind_none] at head;exact .inr ⟨q9,ql4 head⟩
        · have tl : decide (((j - a : Nat) : Int) < ((b - j : Nat) : Int)) = false:=Q6 q9;simp only [tl,Q4] at head;rcases am (j + 1) b l1 d4 aa q9 hb an cb with ⟨L,e,aq,bj⟩ | ⟨r1,r2⟩
          · have au:=aa.perm (by omega : j + 1≤b) hb aq;obtain ⟨bk,ad⟩:=ay _ aq bj;simp only [e,qq,Uz aa au] at head;rw [Kc head];rcases ih (j - a) q9 a j l1 _ _ L rfl au g1 q9 an bk with ⟨R,r0,r1,r2⟩ | ⟨r1,r2⟩
            · obtain ⟨q1,q2⟩:=ad _ r1 r2;exact .inl ⟨R,r0,Sort.permIn_trans _ _ _ a b P3 q1,q2⟩
            · exact .inr ⟨q9,r2⟩
          · simp only [r2,Option.bind_none] at head;exact .inr ⟨q9,ql4 head⟩
theorem qmk (f : Y7 q lt P) (g : Sort.SWO lt) {n : Nat} : ∀ (N a b c : Nat) (d : Array T),AllP n P d→a≤b→b≤n→c≤1000→Sort.Below lt a b d→
    Srt lt a b d (Zg N q d.toList (a : Int) (b : Int) (c : Int))∨(N≤b - a∧Zg N q d.toList (a : Int) (b : Int) (c : Int) = none)
  | 0,a,b,c,d,_,_,_,_,_=>.inr ⟨q9,rfl⟩
  | N + 1,a,b,c,d,hd,hab,hb,hl,hB=>by
    have h:=qx2 f g (N:=N) (Zg N q) (fun a b c d m j k l o=>qmk f g N a b c d m j k l o) _ a b c true true d rfl hd hab hb hl hB
    have e : Zg (N + 1) q d.toList (a : Int) (b : Int) (c : Int) = loop (Zn q (Zg N q)) ((a : Int),(b : Int),(c : Int),true,true,d.toList):=by
      show Ud (Zg N q) q d.toList (a : Int) (b : Int) (c : Int) = _;unfold Ud;cases loop (Zn q (Zg N q)) ((a : Int),(b : Int),(c : Int),true,true,d.toList) <;> rfl
    rw [e]
    exact h
theorem qh8 (t : Y7 q lt P) (w : Sort.SWO lt) (xs : List T) (n : xs.length≤1000000) (v : ∀ x∈xs,P x) :
    ∃ ys,q2f q xs = some ys∧ys.Perm xs∧ys.Pairwise (fun x y=>lt y x = false):=by
  have hd : AllP xs.length P xs.toArray:=by
    refine ⟨qc,n,fun i hi=>?_⟩;have : xs.toArray[i]! = xs[i]:=by simp [hi]
    rw [this];exact v _ (Yf hi)
  have hk : Sort.bitsLen xs.length≤20:=(Sort.bitsLen_le_iff _ 20).2 q9;have c : ∀ N,_:=fun N=>qmk t w N 0 xs.length (Sort.bitsLen xs.length) xs.toArray hd q9 q9 q9 (.inl rfl);have z:=c (xs.length + 1);rcases z with ⟨d',e,_,_⟩ | ⟨h,_⟩
  · obtain ⟨r,o⟩:=qu4 (f:=fun N=>Zg N q xs 0 (xs.length : Int) ((Sort.bitsLen xs.length : Nat) : Int)) e;obtain ⟨N,g⟩:=qcp o;have g : Zg N q xs 0 (xs.length : Int) ((Sort.bitsLen xs.length : Nat) : Int) = some r:=g;rcases c N with ⟨a,b,x,y⟩ | ⟨_,b⟩
    · have b : Zg N q xs 0 (xs.length : Int) ((Sort.bitsLen xs.length : Nat) : Int) = some a.toList:=b;rw [g] at b;obtain rfl : r = a.toList:=Zj b;have d : a.size = xs.length:=by rw [x.1];simp
      refine ⟨a.toList,?_,?_,?_⟩
      · unfold q2f;rw [q36,show ((xs.length : Int) % 18446744073709551616) = (xs.length : Int) by omega,ql0 _ n];simp only [qq,o];unfold Qy;rw [qr (by simp [d])];rfl
      · have:=x.2.2;have s : a.extract 0 xs.length = a:=by rw [← d];simp
        have p : xs.toArray.extract 0 xs.length = xs.toArray:=by simp
        rw [s,p] at this;exact this
      · rw [List.pairwise_iff_getElem];intro i j hi u k;have l : i < a.size:=by simpa using hi
        have m : j < a.size:=by simpa using u
        have:=y i j q9 k q9;rw [getElem!_pos a i l,getElem!_pos a j m] at this;simpa using this
    · have b : Zg N q xs 0 (xs.length : Int) ((Sort.bitsLen xs.length : Nat) : Int) = none:=b;rw [g] at b;cases b
  · omega
end
end Go.Sh
namespace Go.Sh
open Go Go.Am
theorem q10c : qbh = q4g:=rfl
theorem qzd : q2p = q3i:=by
  funext p0;simp only [q2p,q3i,q10c]
  all_goals exact Qj
theorem qnn : Uh = q1k:=by
  funext p0;simp only [Uh,q1k,qzd]
  all_goals exact Qj
theorem qzn : q9w = Ua:=by
  funext p1 q1 a459;simp only [q9w,Ua]
  all_goals exact Qj
theorem qzm : q9v = q1o:=by
  funext p2 p1 q1 a278;simp only [q9v,q1o,qzn]
  all_goals exact Qj
theorem qzl : q9u = q2i:=by
  funext q1 p0 p1 p2;simp only [q9u,q2i,qzm]
  all_goals exact Qj
theorem q10b : qb8 = Ue:=by
  funext p2 p3 q1 a197;simp only [qb8,Ue]
  all_goals exact Qj
theorem qnp : q78 = Uy:=by
  funext q1 p0 p1 p2 p3;simp only [q78,Uy,q10b]
  all_goals exact Qj
theorem qzj : q9m = q1m:=by
  funext q1 p2 p1 a123;simp only [q9m,q1m,qnp]
  all_goals exact Qj
theorem qzk : q9n = q1n:=by
  funext p1 q1 a191;simp only [q9n,q1n,qnp]
  all_goals exact Qj
theorem qzi : q9l = q2h:=by
  funext q1 p0 p1 p2;simp only [q9l,q2h,qzj,qzk]
  all_goals exact Qj
theorem qzp : q15 = q2j:=by
  funext p0;simp only [q15,q2j,qnn]
  all_goals exact Qj
theorem q10d : q16 = q2m:=by
  funext p0;simp only [q16,q2m]
  all_goals exact Qj
theorem qzg : q9b = Ur:=by
  funext p1 p2 r101 a153;simp only [q9b,Ur,q10d]
  all_goals exact Qj
theorem qzf : q9a = q1l:=by
  funext q1 p0 p1 p2;simp only [q9a,q1l,qzp,qzg]
  all_goals exact Qj
theorem qzq : q4x = Ut:=by
  funext q1 p0 p1 p2 p3;simp only [q4x,Ut]
  all_goals exact Qj
theorem qno : q6q = Us:=by
  funext q1 p0 p1 p2 p3 p4;simp only [q6q,Us,qzq]
  all_goals exact Qj
theorem qzo : q4u = Ub:=by
  funext q1 p0 p1 p2;simp only [q4u,Ub,qno]
  all_goals exact Qj
theorem qzh : q9e = q2g:=by
  funext p0 p1 p2 p3;simp only [q9e,q2g,qno,qzo]
  all_goals exact Qj
theorem q10a : qb5 = q1u:=by
  funext a119;simp only [qb5,q1u]
  all_goals exact Qj
theorem q109 : qb4 = q1t:=by
  funext q1 p0 p1 p2;simp only [qb4,q1t,q10a]
  all_goals exact Qj
theorem qzt : qa3 = Uu:=by
  funext p2 a438 q1 a681;simp only [qa3,Uu]
  all_goals exact Qj
theorem qzu : qa4 = Uc:=by
  funext q1 a838;simp only [qa4,Uc]
  all_goals exact Qj
theorem qzv : qa5 = Uv:=by
  funext p2 q1 b684 a928;simp only [qa5,Uv]
  all_goals exact Qj
theorem qzs : q6w = Zy:=by
  funext p2 q1 p1 a438;have a : @q6w.match_1.{1} = @Zy.match_1.{1} qo:=by funext motive m f g;cases m <;> rfl
  unfold q6w Zy;rw [a];simp only [qzt,qzu,qzv]
theorem qzr : q6v = Jv:=by
  funext q1 p0 p1 p2;have a : @q6v.match_1.{1} = @Jv.match_1.{1} qo:=by funext motive m f g;cases m <;> rfl
  unfold q6v Jv;rw [a];simp only [qzs]
theorem qzz : qay = Uw:=by
  funext a318 p1 q1 a378;simp only [qay,Uw]
  all_goals exact Qj
theorem q100 : qaz = Ux:=by
  funext b381 a318 p1 q1 a463;simp only [qaz,Ux]
  all_goals exact Qj
theorem qzy : qax = q1r:=by
  funext p1 q1 a318;simp only [qax,q1r,qzz,q100]
  all_goals exact Qj
theorem qzx : qaw = q1q:=by
  funext q1 p0 p1 p2 p3;simp only [qaw,q1q,qzy]
  all_goals exact Qj
theorem q101 : qaj = q2k:=by
  funext p2 p0 p1 v101 p3 v103 q1 a163;simp only [qaj,q2k]
  all_goals exact Qj
theorem q102 : qak = q2l:=by
  funext b166 p0 p1 v101 p3 v103 q1 a249;simp only [qak,q2l]
  all_goals exact Qj
theorem q104 : qam = Jf:=by
  funext a514 p1 q1 a572;simp only [qam,Jf]
  all_goals exact Qj
theorem q105 : qan = Jg:=by
  funext b575 a514 p1 q1 a658;simp only [qan,Jg]
  all_goals exact Qj
theorem q103 : qal = q1s:=by
  funext p1 q1 a514;simp only [qal,q1s,q104,q105]
  all_goals exact Qj
theorem qzw : qai = q1p:=by
  funext q1 p0 p1 p2 p3;simp only [qai,q1p,q101,q102,q103]
  all_goals exact Qj
theorem q107 : q74 = Zn:=by
  funext q1 rec a309;have a : @q74.match_1.{1} = @Zn.match_1.{1} qo:=by funext motive m f g;cases m <;> rfl
  unfold q74 Zn;rw [a];simp only [qzl,qzi,qzf,qzh,q109,qzr,qzx,qzw]
theorem q108 : q75 = Ud:=by
  funext rec q1 p0 p1 p2 p3;simp only [q75,Ud,q107]
  all_goals exact Qj
theorem q106 : ∀ N q,q73 N q = Zg N q:=by
  intro N q
  induction N with
  | zero=>rfl
  | succ N ih=>
    funext a b c d;show q75 (q73 N q) q a b c d = Ud (Zg N q) q a b c d;rw [ih,q108]
theorem qze : q6n = q2f:=by
  funext q1 p0;simp only [q6n,q2f,qnn,q106]
  all_goals exact Qj
end Go.Sh
namespace Go.Sh
open Go Go.Am
instance : Inhabited qo:=⟨⟨0,0,0⟩⟩
theorem q11s (q : qo→qo→Option Int) (xs : List qo) : q6n q xs = q2f q xs:=by rw [qze]
def evs (s : List qm) (l : Int) : List qo:=s.flatMap fun t=>[{at_:=t.Lo,list_:=l,by_:=1},{at_:=t.Hi,list_:=l,by_:=-1}]
theorem q7z (s : List qm) (l : Int) : (evs s l).length = 2 * s.length:=by
  induction s with
  | nil=>rfl
  | cons t s ih=>simp only [evs,List.flatMap_cons,List.length_append,List.length_cons,List.length_nil] at ih ⊢;omega
theorem qcu {s : List qm} {l : Int} {e : qo} (h : e∈evs s l) : e.list_ = l∧(e.by_ = 1∨e.by_ = -1)∧∃ t∈s,e.at_ = t.Lo∨e.at_ = t.Hi:=by
  simp only [evs,List.mem_flatMap] at h;obtain ⟨t,a,h⟩:=h;simp only [List.mem_cons,List.not_mem_nil,or_false] at h;rcases h with rfl | rfl
  · exact ⟨rfl,.inl rfl,t,a,.inl rfl⟩
  · exact ⟨rfl,.inr rfl,t,a,.inr rfl⟩
theorem qjj (s : List qm) (l : Int) (y : List qo) (hs : s.length≤1000) (base : List qo) (hb : base.length≤10000) :
    loop (q4z s (l,y)) (0,base) = some (base ++ evs s l):=by
  have:=Yv (f:=q4z s (l,y)) (σ:=List qo) (fun k c=>((k : Int),c)) s.length (fun k c=>c = base ++ evs (s.take k) l) (fun t=>t = base ++ evs s l) ?_ ?_ (k0:=0) (c0:=base) q9 (by simp [evs])
  · obtain ⟨b,g,rfl⟩:=this;exact g
  · rintro k c hk rfl;have a : decide ((k : Int) < (s.length : Int)) = true:=Q2 q9;refine .inl ⟨base ++ evs (s.take (k + 1)) l,?_,rfl⟩;have d : (evs (s.take k) l).length≤2000:=by rw [q7z,List.length_take];omega
    simp only [q4z,a,Qb,Kf hk,qq];rw [Zu (by rw [List.length_append];simp only [List.length_cons,List.length_nil];omega),qq,Qd q9,List.take_succ_eq_append_getElem hk,List.append_assoc];have : evs (s.take k ++ [s[k]]) l = evs (s.take k) l ++ [{at_:=s[k].Lo,list_:=l,by_:=1},{at_:=s[k].Hi,list_:=l,by_:=-1}]:=by simp only [evs,List.flatMap_append,List.flatMap_cons,List.flatMap_nil,List.append_nil]
    rw [this];rfl
  · rintro c rfl;have a : decide ((s.length : Int) < (s.length : Int)) = false:=Q6 q9;exact ⟨_,by simp only [q4z,a,Q4];rfl,by rw [List.take_length]⟩
def ltE (a b : qo) : Bool:=decide (a.at_ < b.at_)
def inE (e : qo) : Prop:=-1000000≤e.at_∧e.at_≤1000000
theorem swoE : Sort.SWO ltE where
  irrefl:=by intro x;simp [ltE]
  trans:=by intro x y z;simp only [ltE,decide_eq_true_eq];omega
  ntrans:=by intro x y z;simp only [ltE,decide_eq_false_iff_not];omega
theorem cmpE : Y7 (fun a b=>qbb a b) ltE inE:=by
  rintro x y ⟨c,f⟩ ⟨d,g⟩;refine ⟨x.at_ - y.at_,?_,?_⟩
  · show some (w64 (x.at_ - y.at_)) = _;rw [Qd q9]
  · unfold ltE;exact decide_eq_decide.2 q9
theorem q11r (p q : List qm) (hp : p.length≤500) (u : q.length≤500) (s : ∀ t∈p,vld t) (k : ∀ t∈q,vld t) :
    ∃ ys,qbc [p,q] = some ([p,q],ys)∧ys.Perm (evs p 0 ++ evs q 1)∧ys.Pairwise (fun x y=>x.at_≤y.at_):=by
  have n : ∀ x∈evs p 0 ++ evs q 1,inE x:=by
    intro x m;rcases List.mem_append.1 m with h | h
    · obtain ⟨_,_,t,g,h⟩:=qcu h;obtain ⟨a,b,c⟩:=s t g;unfold inE;rcases h with h | h <;> omega
    · obtain ⟨_,_,t,g,h⟩:=qcu h;obtain ⟨a,b,c⟩:=k t g;unfold inE;rcases h with h | h <;> omega
  have v:=q7z p 0;have w:=q7z q 1;obtain ⟨ys,r,j,l⟩:=qh8 cmpE swoE (evs p 0 ++ evs q 1) (by rw [List.length_append];omega) n;refine ⟨ys,?_,j,l.imp (fun {x y} h=>by simp only [ltE,decide_eq_false_iff_not] at h;omega)⟩
  have d : loop (q22 [p,q]) (0,[]) = some (evs p 0 ++ evs q 1):=by
    have s0 : q22 [p,q] (0,[]) = some (.inl (1,evs p 0)):=by
      have t : decide ((0 : Int) < (([p,q] : List (List qm)).length : Int)) = true:=rfl;simp only [q22,t,Qb];have : idx [p,q] 0 = some p:=rfl;rw [this];simp only [qq,qjj p 0 [] q9 [] qc,List.nil_append];rfl
    have s1 : q22 [p,q] (1,evs p 0) = some (.inl (2,evs p 0 ++ evs q 1)):=by
      have t : decide ((1 : Int) < (([p,q] : List (List qm)).length : Int)) = true:=rfl;simp only [q22,t,Qb];have : idx [p,q] 1 = some q:=rfl;rw [this];simp only [qq,qjj q 1 (evs p 0) q9 (evs p 0) q9];rfl
    have o : q22 [p,q] (2,evs p 0 ++ evs q 1) = some (.inr (evs p 0 ++ evs q 1)):=by
      have t : decide ((2 : Int) < (([p,q] : List (List qm)).length : Int)) = false:=rfl;simp only [q22,t,Q4]
    rw [Kc s0,Kc s1,K7 o]
  unfold qbc;rw [d];simp only [qq,q11s,r];have le : Qy ys.length (evs p 0 ++ evs q 1).length = some ():=by unfold Qy;rw [qr j.length_eq]
  have f : Qy ys.length ys.length = some ():=by unfold Qy;rw [qr rfl]
  simp only [le,qq,qdi,f]
def cnt (l : Int) (c : Int→Bool) : List qo→Int
  | []=>0
  | e::es=>(if e.list_ = l∧c e.at_ = true then e.by_ else 0) + cnt l c es
theorem q3a (l : Int) (c : Int→Bool) (a b : List qo) : cnt l c (a ++ b) = cnt l c a + cnt l c b:=by
  induction a with
  | nil=>simp [cnt]
  | cons e a ih=>simp only [List.cons_append,cnt,ih];omega
theorem qiv {l : Int} {c : Int→Bool} {a b : List qo} (h : a.Perm b) : cnt l c a = cnt l c b:=by
  induction h with
  | nil=>rfl
  | cons x _ ih=>simp only [cnt,ih]
  | swap x y l=>simp only [cnt];omega
  | trans _ _ ih1 ih2=>rw [ih1,ih2]
theorem qis {l : Int} {c b : Int→Bool} : ∀ {a : List qo},(∀ e∈a,c e.at_ = b e.at_)→cnt l c a = cnt l b a
  | [],_=>rfl
  | e::a,h=>by simp only [cnt,h e qc,qis (fun e d=>h e (List.mem_cons_of_mem _ d))]
theorem qiu {l : Int} {c : Int→Bool} : ∀ {a : List qo},(∀ e∈a,c e.at_ = false)→cnt l c a = 0
  | [],_=>rfl
  | e::a,h=>by
    simp only [cnt,qiu (fun e b=>h e (List.mem_cons_of_mem _ b)),h e qc]
    simp
theorem q7q {s : List qm} {l l' : Int} {c : Int→Bool} (h : l≠l') : cnt l c (evs s l') = 0:=by
  induction s with
  | nil=>rfl
  | cons t s ih=>
    have : evs (t::s) l' = [{at_:=t.Lo,list_:=l',by_:=1},{at_:=t.Hi,list_:=l',by_:=-1}] ++ evs s l':=rfl;rw [this,q3a,ih];have a : ¬ l' = l:=fun e=>h e.symm;simp [cnt,a]
theorem qit {s : List qm} {l : Int} (v : ∀ t∈s,vld t) (x : Int) : 0≤cnt l (fun a=>decide (a≤x)) (evs s l)∧(0 < cnt l (fun a=>decide (a≤x)) (evs s l)↔has s x):=by
  induction s with
  | nil=>exact ⟨Int.le_refl 0,by simp [evs,cnt,has]⟩
  | cons t s ih=>
    obtain ⟨f,c⟩:=ih (fun t d=>v t (List.mem_cons_of_mem _ d));have b:=v t qc;have : evs (t::s) l = [{at_:=t.Lo,list_:=l,by_:=1},{at_:=t.Hi,list_:=l,by_:=-1}] ++ evs s l:=rfl;rw [this,q3a,Jh,← c];obtain ⟨j,h,g⟩:=b;simp only [cnt,true_and,decide_eq_true_eq];split <;> split <;> omega
theorem qiw {s : List qm} {l : Int} : cnt l (fun _=>true) (evs s l) = 0:=by
  induction s with
  | nil=>rfl
  | cons t s ih=>
    have : evs (t::s) l = [{at_:=t.Lo,list_:=l,by_:=1},{at_:=t.Hi,list_:=l,by_:=-1}] ++ evs s l:=rfl;rw [this,q3a,ih];simp [cnt]
theorem qek {l : Int} {c : Int→Bool} : ∀ {a : List qo},(∀ e∈a,e.by_ = 1∨e.by_ = -1)→-(a.length : Int)≤cnt l c a∧cnt l c a≤(a.length : Int)
  | [],_=>by simp [cnt]
  | e::a,h=>by
    obtain ⟨d,f⟩:=qek (l:=l) (c:=c) (fun e b=>h e (List.mem_cons_of_mem _ b))
    have:=h e qc
    simp only [cnt,List.length_cons]
    split <;> omega
end Go.Sh
namespace Go.Sh
open Go Go.Am
theorem qqi (at_ last : Int) (inn : Bool) (out : List qm) (h : out.length≤10000) :
    qbd at_ inn last out = some (if inn = true∧last≠at_ then addS out last at_ else out):=by
  unfold qbd
  cases inn with
  | false=>rfl
  | true=>
    by_cases a : last = at_
    · simp [a]
    · have hb : (last == at_) = false:=by simpa using a
      simp only [Bool.not_true,Q4,qq,hb];rw [qr ⟨trivial,a⟩];rcases qdj out with rfl | ⟨d,t,rfl⟩
      · rfl
      · have k : (d ++ [t]).length = d.length + 1:=by simp
        have g : decide (((d ++ [t]).length : Int) > 0) = true:=Q2 q9;have f : w64 (((d ++ [t]).length : Int) - 1) = (d.length : Int):=by rw [Qd q9];omega
        have j : idx (d ++ [t]) (d.length : Int) = some t:=by
          rw [Kf q9];simp
        simp only [g,Qb,f,j,qq];by_cases b : t.Hi = last
        · subst b;simp only [beq_self_eq_true,Qb,qbv,Int.toNat_natCast,qns]
        · have c : (t.Hi == last) = false:=by simpa using b
          simp only [c,Q4,qbw b];rw [Zu (by simp;omega)];rfl
open Classical in
structure qp3 (f : Bool→Bool→Bool) (p q : List qm) (ys : List qo) (k : Nat) (c : List Int × Int × Bool × List qm) : Prop where
  opn : c.1 = [cnt 0 (fun _=>true) (ys.take k),cnt 1 (fun _=>true) (ys.take k)]
  inn : c.2.2.1 = f (decide (0 < cnt 0 (fun _=>true) (ys.take k))) (decide (0 < cnt 1 (fun _=>true) (ys.take k)))
  lst : ∀ (h : k - 1 < ys.length),0 < k→c.2.1 = ys[k - 1].at_
  can : Can c.2.2.2
  his : ∀ t∈c.2.2.2,t.Hi≤c.2.1
  zro : k = 0→c.2.2.2 = []
  pts : ∀ x,has c.2.2.2 x↔0 < k∧x < c.2.1∧f (decide (has p x)) (decide (has q x)) = true
  len : c.2.2.2.length≤k
theorem qp4 (c : List qm) (a b : Int) : (addS c a b).length≤c.length + 1:=by
  rcases qdj c with rfl | ⟨d,t,rfl⟩
  · simp [qhw]
  · by_cases h : t.Hi = a
    · subst h;rw [qbv];simp
    · rw [qbw h];simp
theorem qir {p q : List qm} {ys : List qo} (hp : ∀ t∈p,vld t) (f : ∀ t∈q,vld t) (b : ys.Perm (evs p 0 ++ evs q 1)) (_ : ys.Pairwise (fun x y=>x.at_≤y.at_)) (k : Nat) (x : Int)
    (g : ∀ i (h : i < ys.length),i < k→ys[i].at_≤x) (d : ∀ i (h : i < ys.length),k≤i→x < ys[i].at_) :
    (0 < cnt 0 (fun _=>true) (ys.take k)↔has p x)∧(0 < cnt 1 (fun _=>true) (ys.take k)↔has q x):=by
  have key : ∀ l,cnt l (fun _=>true) (ys.take k) = cnt l (fun a=>decide (a≤x)) (evs p 0) + cnt l (fun a=>decide (a≤x)) (evs q 1):=by
    intro l;rw [← q3a,← qiv b]
    conv=>rhs;rw [← List.take_append_drop k ys]
    rw [q3a]
    have m : cnt l (fun a=>decide (a≤x)) (ys.drop k) = 0:=by
      refine qiu fun e c=>?_;obtain ⟨i,hi,rfl⟩:=List.mem_iff_getElem.1 c;rw [List.getElem_drop];rw [List.length_drop] at hi;have:=d (k + i) q9 q9;exact Q6 q9
    have n : cnt l (fun a=>decide (a≤x)) (ys.take k) = cnt l (fun _=>true) (ys.take k):=by
      refine qis fun e c=>?_;obtain ⟨i,hi,rfl⟩:=List.mem_iff_getElem.1 c;rw [List.getElem_take];rw [List.length_take] at hi;exact Q2 (g i q9 q9)
    rw [m,n];omega
  rw [key 0,key 1,q7q (l:=0) (l':=1) Q0,q7q (l:=1) (l':=0) Q0];have e1:=qit (l:=0) hp x;have j:=qit (l:=1) f x;rw [Int.add_zero,Int.zero_add];exact ⟨e1.2,j.2⟩
open Classical in
theorem qtn (f : Bool→Bool→Bool) (hf : f false false = false) (p2 : Bool→Bool→Option Bool) (hp2 : ∀ a b,p2 a b = some (f a b)) (p q : List qm)
    (hp : p.length≤500) (hq : q.length≤500) (vp : ∀ t∈p,vld t) (vq : ∀ t∈q,vld t) :
    ∃ out,q7a p q p2 = some out∧Can out∧∀ x,has out x↔f (decide (has p x)) (decide (has q x)) = true:=by
  obtain ⟨ys,e1,d,hs⟩:=q11r p q hp hq vp vq;have bc : ys.length≤2000:=by rw [d.length_eq,List.length_append,q7z,q7z];omega
  have u : ∀ i j (hi : i < ys.length) (hj : j < ys.length),i≤j→ys[i].at_≤ys[j].at_:=by
    intro i j hi hj bk;rcases Nat.lt_or_ge i j with h | h
    · exact List.pairwise_iff_getElem.1 hs i j hi hj h
    · obtain rfl : i = j:=by omega
      exact Int.le_refl _
  have w : ∀ e∈ys,(e.list_ = 0∨e.list_ = 1)∧(e.by_ = 1∨e.by_ = -1):=by
    intro e he;rcases List.mem_append.1 (d.mem_iff.1 he) with h | h
    · obtain ⟨a,b,_⟩:=qcu h;exact ⟨.inl a,b⟩
    · obtain ⟨a,b,_⟩:=qcu h;exact ⟨.inr a,b⟩
  have:=Yv (f:=q50 ([p,q],ys) p2) (σ:=List Int × Int × Bool × List qm) (fun k c=>((k : Int),c)) ys.length (qp3 f p q ys) (fun out=>Can out∧∀ x,has out x↔f (decide (has p x)) (decide (has q x)) = true) ?_ ?_ (k0:=0) (c0:=([0,0],0,false,[])) q9 ?_
  · obtain ⟨out,o,g⟩:=this;refine ⟨out,?_,g⟩;unfold q7a;have o : loop (q50 ([p,q],ys) p2) (0,[0,0],0,false,[]) = some out:=o;rw [e1];simp only [qq,o];rfl
  · rintro k ⟨opn,last,inn,out⟩ hk ⟨s1,s2,s3,s4,s5,s6,s7,s8⟩;simp only at s1 s2 s3 s4 s5 s6 s7 s8;have ad : decide ((k : Int) < (ys.length : Int)) = true:=Q2 q9;have bb:=qqi ys[k].at_ last inn out q9;have hm:=w ys[k] (Yf hk);have az : ys.take (k + 1) = ys.take k ++ [ys[k]]:=List.take_succ_eq_append_getElem hk;have ai : ∀ e∈ys.take k,e.by_ = 1∨e.by_ = -1:=fun e he=>(w e (List.mem_of_mem_take he)).2;have b0:=qek (l:=0) (c:=fun _=>true) ai;have b1:=qek (l:=1) (c:=fun _=>true) ai;have ap : (ys.take k).length = k:=by rw [List.length_take];omega
    rw [ap] at b0 b1
    have ac : ∃ v,idxA 2 opn ys[k].list_ = some v∧opn.set ys[k].list_.toNat (w64 (v + ys[k].by_)) = [cnt 0 (fun _=>true) (ys.take (k + 1)),cnt 1 (fun _=>true) (ys.take (k + 1))]:=by
      subst s1;rw [az,q3a,q3a];rcases hm.1 with h | h
      · refine ⟨cnt 0 (fun _=>true) (ys.take k),by rw [h];rfl,?_⟩;rw [h,Qd q9];simp [cnt,h]
      · refine ⟨cnt 1 (fun _=>true) (ys.take k),by rw [h];rfl,?_⟩;rw [h,Qd q9];simp [cnt,h]
    obtain ⟨v,o1,o2⟩:=ac;refine .inl ⟨([cnt 0 (fun _=>true) (ys.take (k + 1)),cnt 1 (fun _=>true) (ys.take (k + 1))],ys[k].at_,f (decide (0 < cnt 0 (fun _=>true) (ys.take (k + 1)))) (decide (0 < cnt 1 (fun _=>true) (ys.take (k + 1)))),if inn = true∧last≠ys[k].at_ then addS out last ys[k].at_ else out),?_,?_⟩
    · have x0 : ∀ a b : Int,idxA 2 [a,b] 0 = some a:=fun a b=>rfl;have x1 : ∀ a b : Int,idxA 2 [a,b] 1 = some b:=fun a b=>rfl;simp only [q50,ad,Qb,Kf hk,qq,bb,o1,o2,x0,x1,hp2];rw [Qd q9];rfl
    · have ab : ∀ x,(0 < k→last≤x)→∀ i (h : i < ys.length),i < k→ys[i].at_≤x:=by
        intro x n i hi am;have:=s3 q9 q9;have:=u i (k - 1) hi q9 q9;have:=n q9;omega
      have aa : ∀ x,x < ys[k].at_→∀ i (h : i < ys.length),k≤i→x < ys[i].at_:=by
        intro x n i hi am;have:=u k i hk hi am;omega
      have hF : ∀ x,(0 < k→last≤x)→x < ys[k].at_→f (decide (has p x)) (decide (has q x)) = inn:=by
        intro x n ao;obtain ⟨c1,c2⟩:=qir vp vq d hs k x (ab x n) (aa x ao);rw [s2,decide_eq_decide.2 c1,decide_eq_decide.2 c2]
      have m : 0 < k→last≤ys[k].at_:=by
        intro s;rw [s3 q9 s];exact u (k - 1) k q9 hk q9
      have y : k = 0→inn = false:=by
        intro s;subst s;rw [s2];exact hf
      by_cases r : inn = true∧last≠ys[k].at_
      · have ah : 0 < k:=by
          rcases Nat.eq_zero_or_pos k with h | h
          · rw [y h] at r;cases r.1
          · exact h
        have hl:=m ah;have ay : last < ys[k].at_:=by have:=r.2;omega
        obtain ⟨d1,d2,d3,d4⟩:=qhx s4 s5 ay;constructor
        · rfl
        · rfl
        · intro h _;rfl
        · simp only [qr r];exact d1
        · simp only [qr r];exact d3
        · omega
        · intro x;simp only [qr r];rw [d2,s7];constructor
          · rintro (⟨s,o,g⟩ | ⟨o,g⟩)
            · exact ⟨q9,q9,g⟩
            · exact ⟨q9,g,by rw [hF x (fun _=>o) g];exact r.1⟩
          · rintro ⟨s,o,g⟩;by_cases n : x < last
            · exact .inl ⟨ah,n,g⟩
            · exact .inr ⟨q9,o⟩
        · simp only [qr r];have:=qp4 out last ys[k].at_;omega
      · constructor
        · rfl
        · rfl
        · intro h _;rfl
        · simp only [qu r];exact s4
        · simp only [qu r];intro t z;rcases Nat.eq_zero_or_pos k with h | h
          · rw [s6 h] at z;cases z
          · have:=s5 t z;have:=m h;omega
        · omega
        · intro x;simp only [qu r];rw [s7];constructor
          · rintro ⟨s,o,g⟩;exact ⟨q9,by have:=m s;omega,g⟩
          · rintro ⟨s,o,g⟩;by_cases n : 0 < k∧x < last
            · exact ⟨n.1,n.2,g⟩
            · have aj : 0 < k→last≤x:=fun h=>by
                refine Int.not_lt.1 fun h'=>n ⟨h,h'⟩
              have:=hF x aj o;rw [this] at g;refine absurd ⟨g,?_⟩ r;intro e;rcases Nat.eq_zero_or_pos k with h | h
              · rw [y h] at g;cases g
              · have:=aj h;omega
        · simp only [qu r];omega
  · rintro ⟨opn,last,inn,out⟩ ⟨s1,s2,s3,s4,s5,s6,s7,s8⟩;simp only at s1 s2 s3 s4 s5 s6 s7 s8;have ad : decide ((ys.length : Int) < (ys.length : Int)) = false:=Q6 q9;refine ⟨out,by simp only [q50,ad,Q4],s4,fun x=>?_⟩;rw [s7];constructor
    · rintro ⟨_,_,h⟩;exact h
    · intro h;by_cases n : 0 < ys.length∧x < last
      · exact ⟨n.1,n.2,h⟩
      · obtain ⟨c1, c2⟩ := qir vp vq d hs ys.length x (fun i hi _ => by
            have:=s3 q9 q9;have:=u i (ys.length - 1) hi q9 q9;have : last≤x:=Int.not_lt.1 fun h'=>n ⟨q9,h'⟩
            omega) (fun i hi bh=>q9)
        have av : ∀ l,cnt l (fun _=>true) (ys.take ys.length) = 0:=by
          intro l;rw [List.take_length,qiv d,q3a];by_cases s : l = 0
          · subst s;rw [qiw,q7q Q0];rfl
          · rw [q7q s];by_cases o : l = 1
            · subst o;rw [qiw];rfl
            · rw [q7q o];rfl
        rw [av] at c1 c2;have n1 : ¬ has p x:=fun h=>absurd (c1.2 h) Q0;have n2 : ¬ has q x:=fun h=>absurd (c2.2 h) Q0;rw [Q6 n1,Q6 n2,hf] at h;cases h
  · constructor
    · simp [cnt]
    · simp [cnt,hf]
    · intro h s;omega
    · exact ⟨fun t z=>(by cases z),.nil⟩
    · intro t z;cases z
    · intro _;rfl
    · intro x;simp [has]
    · simp
end Go.Sh
namespace Go.Sh
open Go Go.Am
theorem qqf {s : List qm} (h : q1h s = 0) : s.length≤400∧Good s:=by
  unfold q1h at h;split at h
  · cases h
  · split at h
    · rename_i b a;exact ⟨q9,a⟩
    · cases h
def dst (x : Int) (t : qm) : Int:=max (max (t.Lo - x) (x - t.Hi + 1)) 0
end Go.Sh
namespace Go.Sh
open Go Go.Am
noncomputable def Uf (kind : Int) (p q : List qm) : List qm:=(qdb kind p q).getD []
theorem qkn (kind : Int) (p q : List qm) (hp : p.length≤100000) (b : q.length≤100000) : qdb kind p q = some (Uf kind p q)∧qe2 kind p q (Uf kind p q):=by
  obtain ⟨out,a,c⟩:=qtp kind p q hp b;unfold Uf;rw [a];exact ⟨rfl,c⟩
theorem qth (s : List qm) (b : qm→Option Bool) (c : qm→Bool) (h : ∀ t,b t = some (c t)) (p : s.length≤1000000) :
    ∃ r,q94 s b = some r∧decide (r ≥ 0) = s.any c:=by
  have:=Yv (f:=q3r s b) (σ:=Unit) (fun k _=>(k : Int)) s.length (fun k _=>∀ i (h : i < s.length),i < k→c s[i] = false)
    (fun m=>∃ r : Int,(match m with | .inl b22=>some (-1) | .inr x1=>some x1) = some r∧decide (r ≥ 0) = s.any c) ?_ ?_ (k0:=0) (c0:=()) q9 (fun i _ hi=>q9)
  · obtain ⟨m,g,r,j,n⟩:=this;have g : loop (q3r s b) 0 = some m:=g;exact ⟨r,by unfold q94;rw [g];exact j,n⟩
  · rintro k _ hk hi;have hb : decide ((k : Int) < (s.length : Int)) = true:=Q2 q9
    cases d : c s[k] with
    | true=>
      refine .inr ⟨.inr (k : Int),?_,(k : Int),rfl,?_⟩
      · simp only [q3r,hb,Qb,Kf hk,qq,h,d]
      · have : s.any c = true:=List.any_eq_true.2 ⟨s[k],Yf hk,d⟩;rw [this];exact Q2 q9
    | false=>
      refine .inl ⟨(),?_,?_⟩
      · simp only [q3r,hb,Qb,Kf hk,qq,h,d,Q4];rw [Qd q9];rfl
      · intro i a o;by_cases e : i = k
        · subst e;exact d
        · exact hi i a q9
  · rintro _ hi;have hb : decide ((s.length : Int) < (s.length : Int)) = false:=Q6 q9;refine ⟨.inl (),by simp only [q3r,hb,Q4],-1,rfl,?_⟩
    have : s.any c = false:=by
      rw [List.any_eq_false];intro t l;obtain ⟨i,a,rfl⟩:=List.mem_iff_getElem.1 l;simp [hi i a a]
    rw [this];rfl
theorem qj3 (s : List qm) (a : qm→Option Bool) (c : qm→Bool) (h : ∀ t,a t = some (c t)) (b : s.length≤1000000) : q6i s a = some (s.any c):=by
  obtain ⟨r,f,d⟩:=qth s a c h b;unfold q6i;rw [f,qq,d]
open Classical in
theorem q5l (s : List qm) (x : Int) (c : s.length≤1000000) : q21 s x = some (decide (has s x)):=by
  unfold q21
  rw [qj3 s _ (fun t=>decide (t.Lo≤x∧x < t.Hi)) (fun t=>by
    show (cond (decide (t.Lo≤x)) (some (decide (x < t.Hi))) (some false)).bind (fun c1=>some c1) = _;by_cases a : t.Lo≤x
    · simp [a]
    · simp [a]) c,qq]
  congr 1;by_cases h : has s x
  · rw [Q2 h,List.any_eq_true];obtain ⟨t,b,h⟩:=h;exact ⟨t,b,Q2 h⟩
  · rw [Q6 h,List.any_eq_false];intro t b a;exact h ⟨t,b,of_decide_eq_true a⟩
open Classical in
noncomputable def qcr (s : List qm) : List qm × Int:=if 400 < s.length then ([],4) else if ∀ t∈s,vld t then (Uf 2 s [],0) else ([],8)
theorem que (s : List qm) (k : s.length≤400) (c : ∀ t∈s,vld t) (p2 : Bool→Bool→Option Bool) (hp2 : ∀ a b,p2 a b = some a) : q7a s [] p2 = some (Uf 2 s []):=by
  classical
  obtain ⟨out,f,d,h⟩:=qtn (fun a _=>a) rfl p2 hp2 s [] q9 qc c (fun t g=>by cases g);obtain ⟨_,j⟩:=qkn 2 s [] q9 qc;rw [f];congr 1;refine qig d j.can fun x=>?_;rw [h,j.pts];simp [q2o,q2n]
theorem qud (s : List qm) : q2y s = some (qcr s):=by
  classical
  unfold q2y qcr;by_cases f : 400 < s.length
  · have e : decide ((s.length : Int) > 400) = true:=Q2 q9;rw [e,qr f];rfl
  · have e : decide ((s.length : Int) > 400) = false:=Q6 q9;rw [e,qu f,Q4,qj3 s _ (fun t=>!decide (vld t)) (fun t=>by show (q3s t).bind _ = _;rw [qot];rfl) q9,qq];by_cases c : ∀ t∈s,vld t
    · have : (s.any fun t=>!decide (vld t)) = false:=by
        rw [List.any_eq_false];intro t d;simp [c t d]
      rw [this,Q4,qr c,que s q9 c (fun g j=>qba g j) (fun a b=>rfl)];rfl
    · have : (s.any fun t=>!decide (vld t)) = true:=by
        rw [List.any_eq_true];obtain ⟨t,c⟩:=Classical.not_forall.1 c;obtain ⟨d,h⟩:=Classical.not_imp.1 c;exact ⟨t,d,by simp [h]⟩
      rw [this,Qb,qu c]
def lenL : List qm→Int
  | []=>0
  | t::s=>(t.Hi - t.Lo) + lenL s
theorem qkx (a b : List qm) : lenL (a ++ b) = lenL a + lenL b:=by
  induction a with
  | nil=>simp [lenL]
  | cons t a ih=>simp only [List.cons_append,lenL,ih];omega
theorem qky : ∀ {s : List qm},(∀ t∈s,vld t)→0≤lenL s∧lenL s≤2000000 * (s.length : Int)
  | [],_=>by simp [lenL]
  | t::s,h=>by
    obtain ⟨d,b⟩:=qky (fun t a=>h t (List.mem_cons_of_mem _ a))
    obtain ⟨g,f,c⟩:=h t qc
    simp only [lenL,List.length_cons]
    omega
noncomputable def qfo (s : List qm) : Int × Int:=if q1h s = 0 then (lenL s,0) else (0,q1h s)
theorem qtx (s : List qm) (n : s.length≤400) (d : ∀ t∈s,vld t) : loop (qb9 s) (0,0) = some (lenL s)∧loop (q8u s) (0,0) = some (lenL s):=by
  have a : ∀ k,0≤lenL (s.take k)∧lenL (s.take k)≤800000000:=by
    intro k;have:=qky (s:=s.take k) (fun t m=>d t (List.mem_of_mem_take m));have : (s.take k).length≤400:=by rw [List.length_take];omega
    omega
  constructor
  · have:=Yv (f:=qb9 s) (σ:=Int) (fun k c=>(c,(k : Int))) s.length (fun k c=>c = lenL (s.take k)) (fun r=>r = lenL s) ?_ ?_ (k0:=0) (c0:=0) q9 (by simp [lenL])
    · obtain ⟨b,g,rfl⟩:=this;exact g
    · rintro k c hk rfl;have hb : decide ((k : Int) < (s.length : Int)) = true:=Q2 q9;obtain ⟨l,j,h⟩:=d _ (Yf hk);have:=a k;refine .inl ⟨lenL (s.take (k + 1)),?_,rfl⟩;simp only [qb9,hb,Qb,Kf hk,qq];rw [Qd (x:=s[k].Hi - s[k].Lo) q9,Qd (x:=lenL (s.take k) + _) q9,Qd q9,List.take_succ_eq_append_getElem hk,qkx];simp only [lenL,Int.add_zero];rfl
    · rintro c rfl;have hb : decide ((s.length : Int) < (s.length : Int)) = false:=Q6 q9;exact ⟨_,by simp only [qb9,hb,Q4];rfl,by rw [List.take_length]⟩
  · have:=Yv (f:=q8u s) (σ:=Int) (fun k c=>(c,(k : Int))) s.length (fun k c=>c = lenL (s.take k)) (fun r=>r = lenL s) ?_ ?_ (k0:=0) (c0:=0) q9 (by simp [lenL])
    · obtain ⟨b,g,rfl⟩:=this;exact g
    · rintro k c hk rfl;have hb : decide ((k : Int) < (s.length : Int)) = true:=Q2 q9;obtain ⟨l,j,h⟩:=d _ (Yf hk);have:=a k;refine .inl ⟨lenL (s.take (k + 1)),?_,rfl⟩;simp only [q8u,hb,Qb,Kf hk,qq];rw [Qd (x:=lenL (s.take k) + s[k].Hi) q9,Qd (x:=lenL (s.take k) + s[k].Hi - _) q9,Qd q9,List.take_succ_eq_append_getElem hk,qkx];have : lenL (s.take k) + s[k].Hi - s[k].Lo = lenL (s.take k) + lenL [s[k]]:=by simp only [lenL];omega
      rw [this];rfl
    · rintro c rfl;have hb : decide ((s.length : Int) < (s.length : Int)) = false:=Q6 q9;exact ⟨_,by simp only [q8u,hb,Q4];rfl,by rw [List.take_length]⟩
theorem q13o (s : List qm) : qo4 s = some (qfo s)∧qmy s = some (qfo s):=by
  unfold qo4 qmy qfo;simp only [qin,qyf,qq];by_cases h : q1h s = 0
  · obtain ⟨c,d⟩:=qqf h;obtain ⟨a,b⟩:=qtx s c d.1;have e : (q1h s != 0) = false:=by simpa using h
    simp only [e,Q4,a,b,qq];simp only [h,if_true];exact ⟨trivial,trivial⟩
  · have e : (q1h s != 0) = true:=by simpa using h
    simp only [e,Qb,qu h];exact ⟨trivial,trivial⟩
end Go.Sh
namespace Go.Sh
open Go Go.Am
section
variable {α β : Type} [DecidableEq α]
theorem qcy {z : β} {k : α} {v : β} : ∀ {R : List (α × β)},(R.map (·.1)).Nodup→(k,v)∈R→K4 z k R = v
  | [],_,h=>by cases h
  | (a,w)::r,hn,h=>by
    simp only [List.map_cons,List.nodup_cons] at hn
    simp only [K4]
    rcases List.mem_cons.1 h with h | h
    · cases h;rw [qr rfl]
    · have : k≠a:=fun e=>hn.1 (e ▸ List.mem_map_of_mem (f:=(·.1)) h)
      rw [qu this];exact qcy hn.2 h
theorem qcz {z : β} {k : α} : ∀ {R : List (α × β)},k ∉ R.map (·.1)→K4 z k R = z
  | [],_=>rfl
  | (a,w)::r,h=>by
    simp only [List.map_cons,List.mem_cons,not_or] at h
    simp only [K4,qu h.1];exact qcz h.2
theorem qft {k : α} {v : β} : ∀ {R : List (α × β)},(R.map (·.1)).Nodup→∀ a w,((a,w)∈K8 k v R↔(a = k∧w = v)∨(a≠k∧(a,w)∈R))
  | [],_,a,w=>by simp [K8]
  | (b,u)::r,hn,a,w=>by
    simp only [List.map_cons,List.nodup_cons] at hn
    simp only [K8]
    by_cases e : k = b
    · subst e
      rw [qr rfl,List.mem_cons,Prod.mk.injEq,List.mem_cons,Prod.mk.injEq]
      constructor
      · rintro (h | h)
        · exact .inl h
        · exact .inr ⟨fun e=>hn.1 (e ▸ List.mem_map_of_mem (f:=(·.1)) h),.inr h⟩
      · rintro (h | ⟨c,h | h⟩)
        · exact .inl h
        · exact absurd h.1 c
        · exact .inr h
    · rw [qu e,List.mem_cons,qft hn.2 a w,List.mem_cons,Prod.mk.injEq]
      constructor
      · rintro (⟨rfl,rfl⟩ | h | ⟨c,d⟩)
        · exact .inr ⟨fun h=>e h.symm,.inl ⟨rfl,rfl⟩⟩
        · exact .inl h
        · exact .inr ⟨c,.inr d⟩
      · rintro (h | ⟨c,h | h⟩)
        · exact .inr (.inl h)
        · exact .inl h
        · exact .inr (.inr ⟨c,h⟩)
theorem q8h {k : α} {v : β} : ∀ {R : List (α × β)} (a : α),a∈(K8 k v R).map (·.1)↔a = k∨a∈R.map (·.1)
  | [],a=>by simp [K8]
  | (b,u)::r,a=>by
    simp only [K8]
    by_cases e : k = b
    · subst e;simp
    · simp only [e,if_false,List.map_cons,List.mem_cons,q8h a];constructor <;> (rintro (h | h | h) <;> simp [h])
theorem qg1 {k : α} {v : β} : ∀ {R : List (α × β)},(R.map (·.1)).Nodup→((K8 k v R).map (·.1)).Nodup
  | [],_=>by simp [K8]
  | (b,u)::r,hn=>by
    simp only [List.map_cons,List.nodup_cons] at hn
    simp only [K8]
    by_cases e : k = b
    · subst e;simp only [if_true,List.map_cons,List.nodup_cons];exact hn
    · simp only [e,if_false,List.map_cons,List.nodup_cons]
      refine ⟨fun h=>?_,qg1 hn.2⟩
      rcases (q8h b).1 h with h | h
      · exact e h.symm
      · exact hn.1 h
theorem qlm {k : α} {v : β} : ∀ {R : List (α × β)},(K8 k v R).length≤R.length + 1
  | []=>by simp [K8]
  | (b,u)::r=>by
    simp only [K8]
    have:=qlm (k:=k) (v:=v) (R:=r)
    split <;> simp <;> omega
end
def hk (s : qt) : Option (Int × qm):=if s.A.Y = s.B.Y then some (s.A.Y,{Lo:=min s.A.X s.B.X,Hi:=max s.A.X s.B.X}) else none
def vk (s : qt) : Option (Int × qm):=if s.A.Y = s.B.Y then none else some (s.A.X,{Lo:=min s.A.Y s.B.Y,Hi:=max s.A.Y s.B.Y})
def onL (L : List (Int × qm)) (k x : Int) : Prop:=∃ p∈L,p.1 = k∧p.2.Lo≤x∧x < p.2.Hi
def Z9 (L : List (Int × qm)) (k : Int) : List qm:=(L.filter fun p=>decide (p.1 = k)).map (·.2)
theorem q8c {L : List (Int × qm)} {k : Int} {t : qm} : t∈Z9 L k↔(k,t)∈L:=by
  simp only [Z9,List.mem_map,List.mem_filter,decide_eq_true_eq];constructor
  · rintro ⟨⟨a,b⟩,⟨c,rfl⟩,rfl⟩;exact c
  · intro h;exact ⟨(k,t),⟨h,rfl⟩,rfl⟩
theorem qbe {L : List (Int × qm)} {k : Int} : (Z9 L k).length≤L.length:=by
  simp only [Z9,List.length_map];exact List.length_filter_le _ _
theorem qtd {L : List (Int × qm)} {k x : Int} : has (Z9 L k) x↔onL L k x:=by
  constructor
  · rintro ⟨t,b,h⟩;exact ⟨(k,t),q8c.1 b,rfl,h⟩
  · rintro ⟨⟨a,t⟩,b,rfl,h⟩;exact ⟨t,q8c.2 b,h⟩
theorem q122 {L : List (Int × qm)} {k : Int} {t : qm} (a : Int) : Z9 (L ++ [(k,t)]) a = Z9 L a ++ (if a = k then [t] else []):=by
  simp only [Z9,List.filter_append,List.map_append,List.append_cancel_left_eq];by_cases e : k = a
  · subst e;simp
  · have : ¬ a = k:=fun h=>e h.symm;simp [e,this]
structure Grp (L : List (Int × qm)) (R : List (Int × List qm)) : Prop where
  nd : (R.map (·.1)).Nodup
  val : ∀ k v,(k,v)∈R→v = Z9 L k
  all : ∀ k t,(k,t)∈L→k∈R.map (·.1)
  own : ∀ k,k∈R.map (·.1)→∃ t,(k,t)∈L
theorem Grp.get {L : List (Int × qm)} {R : List (Int × List qm)} (h : Grp L R) (k : Int) : K4 [] k R = Z9 L k:=by
  by_cases hk : k∈R.map (·.1)
  · obtain ⟨⟨a,v⟩,b,rfl⟩:=List.mem_map.1 hk;rw [qcy h.nd b];exact h.val _ _ b
  · rw [qcz hk];symm;refine List.eq_nil_iff_forall_not_mem.2 fun t c=>?_;exact hk (h.all k t (q8c.1 c))
theorem Grp.put {L : List (Int × qm)} {R : List (Int × List qm)} (h : Grp L R) (k : Int) (t : qm) : Grp (L ++ [(k,t)]) (K8 k (Z9 L k ++ [t]) R):=by
  refine ⟨qg1 h.nd,fun a v f=>?_,fun a u d=>?_,fun a c=>?_⟩
  · rw [q122];rcases (qft h.nd a v).1 f with ⟨rfl,rfl⟩ | ⟨b,g⟩
    · rw [qr rfl]
    · rw [qu b,List.append_nil];exact h.val a v g
  · rw [q8h];rcases List.mem_append.1 d with b | b
    · exact .inr (h.all a u b)
    · simp only [List.mem_singleton,Prod.mk.injEq] at b;exact .inl b.1
  · rcases (q8h a).1 c with rfl | c
    · exact ⟨t,qc⟩
    · obtain ⟨u,d⟩:=h.own a c;exact ⟨u,by simp [d]⟩
theorem Grp.nil : Grp [] []:=⟨.nil,fun _ _ h=>(by cases h),fun _ _ h=>(by cases h),fun _ h=>(by cases h)⟩
theorem Grp.len {L : List (Int × qm)} {R : List (Int × List qm)} (h : Grp L R) : R.length≤L.length:=by
  have : (R.map (·.1)).length≤(L.map (·.1)).length:=by
    refine List.Nodup.length_le_of_subset h.nd fun k hk=>?_;obtain ⟨t,a⟩:=h.own k hk;exact List.mem_map_of_mem (f:=(·.1)) a
  simpa using this
structure Rep (R : List (Int × List qm)) (F : Int→Int→Prop) : Prop where
  nd : (R.map (·.1)).Nodup
  good : ∀ k v,(k,v)∈R→Good v
  len : ∀ k v,(k,v)∈R→v.length≤800
  pts : ∀ k v,(k,v)∈R→∀ x,has v x↔F k x
  all : ∀ k x,F k x→k∈R.map (·.1)
  cnt : R.length≤400
  key : ∀ k∈R.map (·.1),-1000000≤k∧k≤1000000
theorem Rep.get {R : List (Int × List qm)} {F : Int→Int→Prop} (h : Rep R F) (k x : Int) : has (K4 [] k R) x↔F k x:=by
  by_cases hk : k∈R.map (·.1)
  · obtain ⟨⟨a,v⟩,c,rfl⟩:=List.mem_map.1 hk;rw [qcy h.nd c];exact h.pts _ _ c x
  · rw [qcz hk];exact ⟨fun b=>absurd b (q2n x),fun b=>absurd (h.all k x b) hk⟩
theorem Rep.getlen {R : List (Int × List qm)} {F : Int→Int→Prop} (h : Rep R F) (k : Int) : (K4 [] k R).length≤800:=by
  by_cases hk : k∈R.map (·.1)
  · obtain ⟨⟨a,v⟩,b,rfl⟩:=List.mem_map.1 hk;rw [qcy h.nd b];exact h.len _ _ b
  · rw [qcz hk];simp
theorem qem {L : List (Int × qm)} (d : L.length≤400) (b : ∀ k t,(k,t)∈L→vld t) : ∀ {R : List (Int × List qm)},(∀ k v,(k,v)∈R→v = Z9 L k)→U8 R = some (R.map fun e=>(e.1,Uf 2 (Z9 L e.1) []))
  | [],_=>rfl
  | (k,v)::r,h=>by
    have e:=h k v qc
    have j:=qem d b (R:=r) fun a w c=>h a w (by simp [c])
    have l:=qbe (L:=L) (k:=k)
    have g : qcr v = (Uf 2 (Z9 L k) [],0):=by
      subst e;unfold qcr;rw [qu q9,qr fun t f=>b k t (q8c.1 f)]
    simp only [U8,qud,g,qq,j,List.map_cons]
theorem qn9 {L : List (Int × qm)} {R : List (Int × List qm)} (h : Grp L R) (p : L.length≤400) (m : ∀ k t,(k,t)∈L→vld t) (hb : ∀ k t,(k,t)∈L→-1000000≤k∧k≤1000000) : Rep (R.map fun e=>(e.1,Uf 2 (Z9 L e.1) [])) (onL L):=by
  have J : ∀ k,qe2 2 (Z9 L k) [] (Uf 2 (Z9 L k) []):=fun k=>(qkn 2 _ _ (by have:=qbe (L:=L) (k:=k);omega) qc).2
  have c : ∀ k v,(k,v)∈(R.map fun e=>(e.1,Uf 2 (Z9 L e.1) []))→v = Uf 2 (Z9 L k) []:=by
    intro k v f;obtain ⟨e,q,n⟩:=List.mem_map.1 f;cases n;rfl
  have b : (R.map fun e=>(e.1,Uf 2 (Z9 L e.1) [])).map (·.1) = R.map (·.1):=by simp
  refine ⟨by rw [b];exact h.nd,fun k v f=>?_,fun k v f=>?_,fun k v f x=>?_,fun k x d=>?_,?_,fun k hk=>?_⟩
  · rw [c k v f];refine ⟨fun t g=>⟨(J k).can.1 t g,?_⟩,(J k).can.2⟩;obtain ⟨e1,o⟩:=(J k).ends t g
    have j : ∀ x,x∈ends (Z9 L k)∨x∈ends []→-1000000≤x∧x≤1000000:=by
      rintro x (d | d)
      · obtain ⟨u,l,d⟩:=q8b.1 d;have:=m k u (q8c.1 l);unfold vld at this;rcases d with rfl | rfl <;> omega
      · cases d
    exact ⟨(j _ e1).1,(j _ o).2⟩
  · rw [c k v f];have:=(J k).len;have:=qbe (L:=L) (k:=k);simp only [List.length_nil,Nat.add_zero] at *;omega
  · rw [c k v f,(J k).pts,qtd];simp [q2o,q2n]
  · rw [b];obtain ⟨⟨a,t⟩,hp,rfl,_⟩:=d;exact h.all _ _ hp
  · have:=h.len;simp;omega
  · rw [b] at hk;obtain ⟨t,g⟩:=h.own k hk;exact hb k t g
theorem qqp {r : Ya} {s : qt} {L M : List (Int × qm)} (c : Grp L r.rows_) (b : Grp M r.columns_) (g : L.length≤1000) (f : M.length≤1000) : ∃ a,q1i r s = some a∧Grp (L ++ (hk s).toList) a.rows_∧Grp (M ++ (vk s).toList) a.columns_:=by
  unfold q1i hk vk;by_cases e : s.A.Y = s.B.Y
  · have d : (s.A.Y == s.B.Y) = true:=by simpa using e
    rw [d,Qb,c.get,Zu (by have:=qbe (L:=L) (k:=s.A.Y);simp;omega),qr e,qr e];refine ⟨_,rfl,c.put _ _,by simpa using b⟩
  · have d : (s.A.Y == s.B.Y) = false:=by simpa using e
    rw [d,Q4,b.get,Zu (by have:=qbe (L:=M) (k:=s.A.X);simp;omega),qu e,qu e];refine ⟨_,rfl,by simpa using c,b.put _ _⟩
theorem qj0 : ∀ (l : List qt) {r : Ya} {L M : List (Int × qm)},Grp L r.rows_→Grp M r.columns_→L.length + l.length≤1000→M.length + l.length≤1000→∃ a,q26 l r = some a∧Grp (L ++ l.filterMap hk) a.rows_∧Grp (M ++ l.filterMap vk) a.columns_
  | [],r,L,M,h1,h2,_,_=>⟨r,rfl,by simpa using h1,by simpa using h2⟩
  | s::l,r,L,M,h1,h2,hl,hm=>by
    simp only [List.length_cons] at hl hm
    obtain ⟨n,e1,f,d⟩:=qqp (s:=s) h1 h2 q9 q9
    have m : (hk s).toList.length≤1:=by cases hk s <;> simp
    have k : (vk s).toList.length≤1:=by cases vk s <;> simp
    obtain ⟨b,g,j,c⟩:=qj0 l f d (by simp;omega) (by simp;omega)
    refine ⟨b,by simp only [q26,e1,qq,g],?_,?_⟩
    · have : L ++ (s::l).filterMap hk = L ++ (hk s).toList ++ l.filterMap hk:=by cases h : hk s <;> simp [h]
      rw [this];exact j
    · have : M ++ (s::l).filterMap vk = M ++ (vk s).toList ++ l.filterMap vk:=by cases h : vk s <;> simp [h]
      rw [this];exact c
structure SegV (s : qt) : Prop where
  a : -1000000≤s.A.X∧s.A.X≤1000000∧-1000000≤s.A.Y∧s.A.Y≤1000000
  b : -1000000≤s.B.X∧s.B.X≤1000000∧-1000000≤s.B.Y∧s.B.Y≤1000000
  or : (s.A.X = s.B.X∧s.A.Y≠s.B.Y)∨(s.A.X≠s.B.X∧s.A.Y = s.B.Y)
def q2v (l : List qt) : List (Int × qm):=l.filterMap hk
def q27 (l : List qt) : List (Int × qm):=l.filterMap vk
theorem q5v {l : List qt} {k : Int} {t : qm} : (k,t)∈q2v l↔∃ s∈l,s.A.Y = s.B.Y∧k = s.A.Y∧t = {Lo:=min s.A.X s.B.X,Hi:=max s.A.X s.B.X}:=by
  simp only [q2v,List.mem_filterMap,hk];constructor
  · rintro ⟨s,hs,h⟩;split at h
    · cases h;exact ⟨s,hs,by assumption,rfl,rfl⟩
    · cases h
  · rintro ⟨s,hs,a,rfl,rfl⟩;exact ⟨s,hs,by rw [qr a]⟩
theorem q5u {l : List qt} {k : Int} {t : qm} : (k,t)∈q27 l↔∃ s∈l,s.A.Y≠s.B.Y∧k = s.A.X∧t = {Lo:=min s.A.Y s.B.Y,Hi:=max s.A.Y s.B.Y}:=by
  simp only [q27,List.mem_filterMap,vk];constructor
  · rintro ⟨s,hs,h⟩;split at h
    · cases h
    · cases h;exact ⟨s,hs,by assumption,rfl,rfl⟩
  · rintro ⟨s,hs,a,rfl,rfl⟩;exact ⟨s,hs,by rw [qu a]⟩
theorem qz7 (l : List qt) : (q2v l).length≤l.length:=List.length_filterMap_le _ _
theorem qqt (l : List qt) : (q27 l).length≤l.length:=List.length_filterMap_le _ _
theorem qni {l : List qt} (h : ∀ s∈l,SegV s) : ∀ k t,(k,t)∈q2v l→vld t:=by
  intro k t a;obtain ⟨s,hs,j,_,rfl⟩:=q5v.1 a;obtain ⟨⟨f,g,m,b⟩,⟨b1,b2,d,c⟩,o⟩:=h s hs;unfold vld;simp only;omega
theorem qz6 {l : List qt} (h : ∀ s∈l,SegV s) : ∀ k t,(k,t)∈q2v l→-1000000≤k∧k≤1000000:=by
  intro k t b;obtain ⟨s,hs,c,rfl,rfl⟩:=q5v.1 b;exact ⟨(h s hs).a.2.2.1,(h s hs).a.2.2.2⟩
theorem qqs {l : List qt} (h : ∀ s∈l,SegV s) : ∀ k t,(k,t)∈q27 l→-1000000≤k∧k≤1000000:=by
  intro k t b;obtain ⟨s,hs,c,rfl,rfl⟩:=q5u.1 b;exact ⟨(h s hs).a.1,(h s hs).a.2.1⟩
theorem qj1 {l : List qt} (h : ∀ s∈l,SegV s) : ∀ k t,(k,t)∈q27 l→vld t:=by
  intro k t a;obtain ⟨s,hs,j,_,rfl⟩:=q5u.1 a;obtain ⟨⟨f,g,m,b⟩,⟨b1,b2,d,c⟩,o⟩:=h s hs;unfold vld;simp only;omega
theorem qc5 {l : List qt} (d : l.length≤400) (a : ∀ s∈l,SegV s) : ∃ r,q7d l = some r∧Rep r.rows_ (onL (q2v l))∧Rep r.columns_ (onL (q27 l)):=by
  obtain ⟨r,e,c,b⟩:=qj0 l (r:={rows_:=[],columns_:=[]}) .nil .nil (by simp;omega) (by simp;omega);simp only [List.nil_append] at c b;have f:=qz7 l;have n2:=qqt l;refine ⟨{rows_:=_,columns_:=_},?_,qn9 c (by show (q2v l).length≤400;omega) (qni a) (qz6 a),qn9 b (by show (q27 l).length≤400;omega) (qj1 a) (qqs a)⟩;unfold q7d;rw [Q2 (show l.length≤1000000 by omega),Qb,e,qq,qem (L:=q2v l) q9 (qni a) c.val,qq,qem (L:=q27 l) q9 (qj1 a) b.val];rfl
end Go.Sh
namespace Go.Sh
open Go Go.Am
structure Abs (out : List qm) (lo0 hi0 : Int) (k : Nat) (c : Int × Int × List qm) : Prop where
  can : Can c.2.2
  sub : ∀ t∈c.2.2,t∈out.take k
  apart : ∀ t∈c.2.2,t.Hi < c.1∨c.2.1 < t.Lo
  lt : c.1 < c.2.1
  bnd : -1000000≤c.1∧c.2.1≤1000000
  pts : ∀ x,(has c.2.2 x∨(c.1≤x∧x < c.2.1))↔(has (out.take k) x∨(lo0≤x∧x < hi0))
  len : c.2.2.length≤k
structure Uni (s out : List qm) : Prop where
  good : Good out
  pts : ∀ x,has out x↔has s x
  len : out.length≤s.length
end Go.Sh
namespace Go.Sh
open Go Go.Am
def kf (p : Bool) : qt→Option (Int × qm):=cond p hk vk
end Go.Sh
namespace Go.Sh
open Go Go.Am
open Classical
def q61 (e n w s : Bool) : Bool:=(e || n || w || s) && !(e && !n && w && !s) && !(!e && n && !w && s)
noncomputable def arB (F G : Int→Int→Prop) (x y : Int) : Bool × Bool × Bool × Bool:=(decide (F y x),decide (G x y),decide (F y (x - 1)),decide (G x (y - 1)))
def Ky (F G : Int→Int→Prop) (x y : Int) : Prop:=q61 (decide (F y x)) (decide (G x y)) (decide (F y (x - 1))) (decide (G x (y - 1))) = true
def PtB (p : qb) : Prop:=-1000000≤p.X∧p.X≤1000000∧-1000000≤p.Y∧p.Y≤1000000
section
variable {F G : Int→Int→Prop}
theorem qe7 {r : Ya} (b : Rep r.rows_ F) (a : Rep r.columns_ G) {p : qb} (hp : PtB p) : q54 r p = some (arB F G p.X p.Y):=by
  obtain ⟨d,g,j,c⟩:=hp;unfold q54 arB;have f:=b.getlen p.Y;have h:=a.getlen p.X;rw [Qd q9,Qd q9,q5l _ _ q9,q5l _ _ q9,q5l _ _ q9,q5l _ _ q9];simp only [qq,decide_eq_decide.2 (b.get _ _),decide_eq_decide.2 (a.get _ _)]
theorem quy {r : Ya} (f : Rep r.rows_ F) (g : Rep r.columns_ G) {p : qb} (hp : PtB p) : qbj r p = some (decide (Ky F G p.X p.Y)):=by
  unfold qbj;rw [qe7 f g hp];simp only [qq,arB]
  have e : decide (Ky F G p.X p.Y) = q61 (decide (F p.Y p.X)) (decide (G p.X p.Y)) (decide (F p.Y (p.X - 1))) (decide (G p.X (p.Y - 1))):=by
    unfold Ky;cases q61 (decide (F p.Y p.X)) (decide (G p.X p.Y)) (decide (F p.Y (p.X - 1))) (decide (G p.X (p.Y - 1))) <;> simp
  rw [e];generalize decide (F p.Y p.X) = a;generalize decide (G p.X p.Y) = b;generalize decide (F p.Y (p.X - 1)) = c;generalize decide (G p.X (p.Y - 1)) = d;revert a b c d;decide
theorem qec {s : List qm} (b : Can s) (x : Int) : (∃ t∈s,t.Lo = x)↔has s x∧¬ has s (x - 1):=by
  constructor
  · rintro ⟨t,a,rfl⟩;have:=b.1 t a;refine ⟨⟨t,a,q9,q9⟩,?_⟩;rintro ⟨u,g,f,d⟩;obtain ⟨i,hi,rfl⟩:=List.mem_iff_getElem.1 a;obtain ⟨j,c,rfl⟩:=List.mem_iff_getElem.1 g;rcases Nat.lt_trichotomy i j with h | h | h
    · have:=List.pairwise_iff_getElem.1 b.2 i j hi c h;omega
    · subst h;omega
    · have:=List.pairwise_iff_getElem.1 b.2 j i c hi h;omega
  · rintro ⟨⟨t,a,f,d⟩,k⟩;refine ⟨t,a,?_⟩;by_cases e : t.Lo = x
    · exact e
    · exact absurd ⟨t,a,q9,q9⟩ k
theorem qif {s : List qm} (b : Can s) (x : Int) : (∃ t∈s,t.Hi = x)↔¬ has s x∧has s (x - 1):=by
  constructor
  · rintro ⟨t,a,rfl⟩;have:=b.1 t a;refine ⟨?_,⟨t,a,q9,q9⟩⟩;rintro ⟨u,g,f,d⟩;obtain ⟨i,hi,rfl⟩:=List.mem_iff_getElem.1 a;obtain ⟨j,c,rfl⟩:=List.mem_iff_getElem.1 g;rcases Nat.lt_trichotomy i j with h | h | h
    · have:=List.pairwise_iff_getElem.1 b.2 i j hi c h;omega
    · subst h;omega
    · have:=List.pairwise_iff_getElem.1 b.2 j i c hi h;omega
  · rintro ⟨k,⟨t,a,f,d⟩⟩;refine ⟨t,a,?_⟩;by_cases e : t.Hi = x
    · exact e
    · exact absurd ⟨t,a,q9,q9⟩ k
end
end Go.Sh
