/- Pg4 Pg5 Pg6 Pj1 Pj2 Pl4 Pj3 Po1 -/
import Derived.Test.YtbknppciefodiaaGreatK9
namespace Go.Sh
open Go Go.Am
section
variable {T : Type} [Inhabited T] {P : T→Prop} {lt : T→T→Bool} {q : T→T→Option Int}
theorem qib {f : Int→Option (Int ⊕ Int)} (p : T→Bool) (d : Array T) (j : Nat)
    (b : ∀ k : Nat,k≤1000002→f (k : Int) = if (decide (k≤j) && p d[k]!) = true then some (.inl ((k + 1 : Nat) : Int)) else some (.inr (k : Int))) (g : j≤1000000) :
    ∀ (m i : Nat),j + 1 - i = m→i≤1000002→loop f (i : Int) = some ((Sort.scanUp p d j i : Nat) : Int):=by
  intro m
  induction m with
  | zero=>
    intro i c hi;unfold Sort.scanUp;have a : ¬ (decide (i≤j) && p d[i]!) = true:=by simp;omega
    rw [qp a];exact Kg (by rw [b i hi,qp a])
  | succ m ih=>
    intro i c hi;unfold Sort.scanUp;by_cases a : (decide (i≤j) && p d[i]!) = true
    · rw [qr a,Kw (by rw [b i hi,qr a])];exact ih (i + 1) q6 q6
    · rw [qp a];exact Kg (by rw [b i hi,qp a])
theorem qe5 {f : Int→Option (Int ⊕ Int)} (p : T→Bool) (d : Array T) (i n : Nat) (hi : 1≤i)
    (b : ∀ k : Nat,k < n→f (k : Int) = if (decide (i≤k) && p d[k]!) = true then some (.inl ((k - 1 : Nat) : Int)) else some (.inr (k : Int))) :
    ∀ (j : Nat),j < n→loop f (j : Int) = some ((Sort.scanDown p d i j : Nat) : Int)
  | 0,hj=>by
    have a : ¬ (decide (i≤0) && p d[0]!) = true:=by simp;omega
    exact Kg (by rw [b 0 hj,qp a];rfl)
  | j + 1,hj=>by
    unfold Sort.scanDown
    by_cases a : (decide (i≤j + 1) && p d[j + 1]!) = true
    · rw [qr a,Kw (by rw [b (j + 1) hj,qr a])]
      exact qe5 p d i n hi b j q6
    · rw [qp a]
      exact Kg (by rw [b (j + 1) hj,qp a])
theorem qnr (f : Y4 q lt P) {n : Nat} {d : Array T} (hd : AllP n P d) {a j : Nat} (l : a < n) (o : j < n) (x : Int) (k : Nat) (m : k≤1000002) :
    Jj (x,(j : Int),d.toList) (a : Int) q (k : Int) = if (decide (k≤j) && (fun x=>lt x d[a]!) d[k]!) = true then some (.inl ((k + 1 : Nat) : Int)) else some (.inr (k : Int)):=by
  have c:=hd.1;by_cases h : k≤j
  · obtain ⟨r,g,b⟩:=f d[k]! d[a]! (hd.2.2 _ q6) (hd.2.2 _ l);have t : decide ((k : Int)≤(j : Int)) = true:=Qc q6;simp only [Jj,t,Q3,gx (d:=d) (k:=k) q6,gx (d:=d) (k:=a) q6,qk,g,b,w1p k q6];simp only [Qc h,Bool.true_and,Bool.cond_eq_ite]
  · have t : decide ((k : Int)≤(j : Int)) = false:=Q9 q6;simp only [Jj,t,Q0,qk];simp [h]
theorem qns (f : Y4 q lt P) {n : Nat} {d : Array T} (hd : AllP n P d) {a i : Nat} (j : a < n) (hi : 1≤i) (x y : Int) (k : Nat) (l : k < n) :
    Jk (i : Int) (x,y,d.toList) (a : Int) q (k : Int) = if (decide (i≤k) && (fun x=>!lt x d[a]!) d[k]!) = true then some (.inl ((k - 1 : Nat) : Int)) else some (.inr (k : Int)):=by
  have c:=hd.1;have m:=hd.2.1;by_cases h : i≤k
  · obtain ⟨r,g,b⟩:=f d[k]! d[a]! (hd.2.2 _ q6) (hd.2.2 _ j);have t : decide ((i : Int)≤(k : Int)) = true:=Qc q6;have w : w64 ((k : Int) - 1) = ((k - 1 : Nat) : Int):=by rw [Qg q6];omega
    simp only [Jk,t,Q3,gx (d:=d) (k:=k) q6,gx (d:=d) (k:=a) q6,qk,g,b,w];simp only [Qc h,Bool.true_and,Bool.cond_eq_ite]
  · have t : decide ((i : Int)≤(k : Int)) = false:=Q9 q6;simp only [Jk,t,Q0,qk];simp [h]
theorem qy7 (f : Y4 q lt P) {n : Nat} {d : Array T} (hd : AllP n P d) {a j : Nat} (l : a < n) (o : j < n) (x : Int) (k : Nat) (m : k≤1000002) :
    q18 (x,(j : Int),d.toList) (a : Int) q (k : Int) = if (decide (k≤j) && (fun x=>!lt d[a]! x) d[k]!) = true then some (.inl ((k + 1 : Nat) : Int)) else some (.inr (k : Int)):=by
  have c:=hd.1;by_cases h : k≤j
  · obtain ⟨r,g,b⟩:=f d[a]! d[k]! (hd.2.2 _ l) (hd.2.2 _ q6);have t : decide ((k : Int)≤(j : Int)) = true:=Qc q6;simp only [q18,t,Q3,gx (d:=d) (k:=k) q6,gx (d:=d) (k:=a) q6,qk,g,b,w1p k q6];simp only [Qc h,Bool.true_and,Bool.cond_eq_ite]
  · have t : decide ((k : Int)≤(j : Int)) = false:=Q9 q6;simp only [q18,t,Q0,qk];simp [h]
theorem qy8 (f : Y4 q lt P) {n : Nat} {d : Array T} (hd : AllP n P d) {a i : Nat} (j : a < n) (hi : 1≤i) (x y : Int) (k : Nat) (l : k < n) :
    q19 (i : Int) (x,y,d.toList) (a : Int) q (k : Int) = if (decide (i≤k) && (fun x=>lt d[a]! x) d[k]!) = true then some (.inl ((k - 1 : Nat) : Int)) else some (.inr (k : Int)):=by
  have c:=hd.1;have m:=hd.2.1;by_cases h : i≤k
  · obtain ⟨r,g,b⟩:=f d[a]! d[k]! (hd.2.2 _ j) (hd.2.2 _ q6);have t : decide ((i : Int)≤(k : Int)) = true:=Qc q6;have w : w64 ((k : Int) - 1) = ((k - 1 : Nat) : Int):=by rw [Qg q6];omega
    simp only [q19,t,Q3,gx (d:=d) (k:=k) q6,gx (d:=d) (k:=a) q6,qk,g,b,w];simp only [Qc h,Bool.true_and,Bool.cond_eq_ite]
  · have t : decide ((i : Int)≤(k : Int)) = false:=Q9 q6;simp only [q19,t,Q0,qk];simp [h]
theorem qy2 (r : Y4 q lt P) (a n : Nat) (v : a < n) : ∀ (m i j : Nat) (d : Array T),j + 1 - i = m→AllP n P d→1≤i→i≤n + 1→j < n→
    loop (q20 (a : Int) q) ((i : Int),(j : Int),d.toList) = some (((Sort.partLoop lt a i j d).1 : Int),(Sort.partLoop lt a i j d).2.toList)∧AllP n P (Sort.partLoop lt a i j d).2∧(Sort.partLoop lt a i j d).1 < n:=by
  intro m
  induction m using Nat.strongRecOn with
  | _ m ih=>
    intro i j d hm hd hi ab u;have ac:=hd.1;have hn:=hd.2.1;rw [Sort.partLoop_eq];have p:=qib (f:=Jj ((i : Int),(j : Int),d.toList) (a : Int) q) (fun x=>lt x d[a]!) d j (fun k o=>qnr r hd v u _ k o) q6 _ i rfl q6;have y:=Sort.scanUp_ge (fun x=>lt x d[a]!) d j i;have u1:=(Sort.scanUp_spec (fun x=>lt x d[a]!) d j _ i rfl).2.1;generalize Sort.scanUp (fun x=>lt x d[a]!) d j i = c at p y u1 ⊢;have l:=qe5 (f:=Jk (c : Int) ((i : Int),(j : Int),d.toList) (a : Int) q) (fun x=>!lt x d[a]!) d c n q6 (fun k o=>qns r hd v q6 _ _ k o) j u;have z:=Sort.scanDown_le (fun x=>!lt x d[a]!) d c j;generalize Sort.scanDown (fun x=>!lt x d[a]!) d c j = g at l z ⊢;by_cases s : c > g
    · rw [qr s];have t : decide ((c : Int) > (g : Int)) = true:=Qc q6;refine ⟨Kg ?_,hd,by show g < n;omega⟩;simp only [q20,p,l,qk,t,Q3]
    · rw [qp s];have t : decide ((c : Int) > (g : Int)) = false:=Q9 q6;have h:=ih ((g - 1) + 1 - (c + 1)) q6 (c + 1) (g - 1) _ rfl (hd.swp (a:=c) (b:=g) q6 q6) q6 q6 q6;refine ⟨?_,h.2⟩;rw [Kw (a':=(((c + 1 : Nat) : Int),((g - 1 : Nat) : Int),(Sort.swp d c g).toList)) ?_]
      · exact h.1
      · have w : w64 ((g : Int) - 1) = ((g - 1 : Nat) : Int):=by rw [Qg q6];omega
        simp only [q20,p,l,qk,t,Q0,gx (d:=d) (k:=c) q6,gx (d:=d) (k:=g) q6,gxs (d:=d) (k:=g) q6,Int.toNat_natCast,gswp,w,w1p c q6]
theorem qy1 (p : Y4 q lt P) (a n : Nat) (u : a < n) : ∀ (m i j : Nat) (d : Array T),j + 1 - i = m→AllP n P d→1≤i→i≤n + 1→j < n→
    loop (q1z (a : Int) q) ((i : Int),(j : Int),d.toList) = some (((Sort.partEqLoop lt a i j d).1 : Int),(Sort.partEqLoop lt a i j d).2.toList):=by
  intro m
  induction m using Nat.strongRecOn with
  | _ m ih=>
    intro i j d hm hd hi aa s;have ab:=hd.1;have hn:=hd.2.1;rw [Sort.partEqLoop_eq];have o:=qib (f:=q18 ((i : Int),(j : Int),d.toList) (a : Int) q) (fun x=>!lt d[a]! x) d j (fun k l=>qy7 p hd u s _ k l) q6 _ i rfl q6;have v:=Sort.scanUp_ge (fun x=>!lt d[a]! x) d j i;have z:=(Sort.scanUp_spec (fun x=>!lt d[a]! x) d j _ i rfl).2.1;generalize Sort.scanUp (fun x=>!lt d[a]! x) d j i = c at o v z ⊢;have h:=qe5 (f:=q19 (c : Int) ((i : Int),(j : Int),d.toList) (a : Int) q) (fun x=>lt d[a]! x) d c n q6 (fun k l=>qy8 p hd u q6 _ _ k l) j s;have y:=Sort.scanDown_le (fun x=>lt d[a]! x) d c j;generalize Sort.scanDown (fun x=>lt d[a]! x) d c j = g at h y ⊢;by_cases r : c > g
    · rw [qr r];have t : decide ((c : Int) > (g : Int)) = true:=Qc q6;refine Kg ?_;simp only [q1z,o,h,qk,t,Q3]
    · rw [qp r];have t : decide ((c : Int) > (g : Int)) = false:=Q9 q6;rw [Kw (a':=(((c + 1 : Nat) : Int),((g - 1 : Nat) : Int),(Sort.swp d c g).toList)) ?_]
      · exact ih ((g - 1) + 1 - (c + 1)) q6 (c + 1) (g - 1) _ rfl (hd.swp (a:=c) (b:=g) q6 q6) q6 q6 q6
      · have w : w64 ((g : Int) - 1) = ((g - 1 : Nat) : Int):=by rw [Qg q6];omega
        simp only [q1z,o,h,qk,t,Q0,gx (d:=d) (k:=c) q6,gx (d:=d) (k:=g) q6,gxs (d:=d) (k:=g) q6,Int.toNat_natCast,gswp,w,w1p c q6]
theorem qy4 (g : Y4 q lt P) {a b n p : Nat} (hb : b≤n) (c : a < b) (hp : p < n) {d : Array T} (hd : AllP n P d) :
    q1y q d.toList (a : Int) (b : Int) (p : Int) = some (((Sort.partitionEqual lt d a b p).1 : Int),(Sort.partitionEqual lt d a b p).2.toList):=by
  have f:=hd.1;have h:=hd.2.1;have w : w64 ((b : Int) - 1) = ((b - 1 : Nat) : Int):=by rw [Qg q6];omega
  have s:=qy1 g a n q6 _ (a + 1) (b - 1) _ rfl (hd.swp (a:=a) (b:=p) q6 hp) q6 q6 q6;unfold q1y Sort.partitionEqual;simp only [gx (d:=d) (k:=p) q6,gx (d:=d) (k:=a) q6,gxs (d:=d) (k:=p) q6,qk,Int.toNat_natCast,gswp,w,w1p a q6,s]
theorem qy5 (l : Y4 q lt P) {a b n p : Nat} (hb : b≤n) (ab : a < b) (hp : p < n) {d : Array T} (hd : AllP n P d) :
    q1x q d.toList (a : Int) (b : Int) (p : Int) = some (((Sort.partition lt d a b p).1 : Int),(Sort.partition lt d a b p).2.1,(Sort.partition lt d a b p).2.2.toList):=by
  have ac:=hd.1;have hn:=hd.2.1;have w : w64 ((b : Int) - 1) = ((b - 1 : Nat) : Int):=by rw [Qg q6];omega
  have h:=hd.swp (a:=a) (b:=p) q6 hp
  have y : q33 (b : Int) d.toList (a : Int) d[p]! (p : Int) d[a]! q = Jj ((0 : Int),((b - 1 : Nat) : Int),(Sort.swp d a p).toList) (a : Int) q:=by
    funext k;simp only [q33,Jj,w,Int.toNat_natCast,gswp]
  have e2 : ∀ c : Int,q34 c d.toList (a : Int) d[p]! (p : Int) d[a]! q = Jk c ((0 : Int),(0 : Int),(Sort.swp d a p).toList) (a : Int) q:=by
    intro c;funext k;simp only [q34,Jk,Int.toNat_natCast,gswp]
  unfold q1x Sort.partition;simp only [gx (d:=d) (k:=p) q6,gx (d:=d) (k:=a) q6,gxs (d:=d) (k:=p) q6,qk,y,e2,Int.toNat_natCast,gswp,w,w1p a q6];generalize Sort.swp d a p = D at h ⊢;have ad:=h.1;have s:=qib (f:=Jj ((0 : Int),((b - 1 : Nat) : Int),D.toList) (a : Int) q) (fun x=>lt x D[a]!) D (b - 1) (fun k j=>qnr l h q6 q6 _ k j) q6 _ (a + 1) rfl q6;have u:=Sort.scanUp_ge (fun x=>lt x D[a]!) D (b - 1) (a + 1);generalize Sort.scanUp (fun x=>lt x D[a]!) D (b - 1) (a + 1) = c at s u ⊢;have m:=qe5 (f:=Jk (c : Int) ((0 : Int),(0 : Int),D.toList) (a : Int) q) (fun x=>!lt x D[a]!) D c n q6 (fun k j=>qns l h q6 q6 _ _ k j) (b - 1) q6;have z:=Sort.scanDown_le (fun x=>!lt x D[a]!) D c (b - 1);generalize Sort.scanDown (fun x=>!lt x D[a]!) D c (b - 1) = g at m z ⊢;simp only [s,m,qk];by_cases o : c > g
  · have t : decide ((c : Int) > (g : Int)) = true:=Qc q6;simp only [qr o,t,Q3,gx (d:=D) (k:=a) q6,gx (d:=D) (k:=g) q6,gxs (d:=D) (k:=a) q6,qk,Int.toNat_natCast,gswp]
  · have t : decide ((c : Int) > (g : Int)) = false:=Q9 q6;have w2 : w64 ((g : Int) - 1) = ((g - 1 : Nat) : Int):=by rw [Qg q6];omega
    obtain ⟨s3,r,b3⟩:=qy2 l a n q6 _ (c + 1) (g - 1) _ rfl (h.swp (a:=c) (b:=g) q6 q6) q6 q6 q6;simp only [qp o,t,Q0,gx (d:=D) (k:=c) q6,gx (d:=D) (k:=g) q6,gxs (d:=D) (k:=g) q6,qk,Int.toNat_natCast,gswp,w2,w1p c q6,s3];generalize Sort.partLoop lt a (c + 1) (g - 1) (Sort.swp D c g) = R at r b3 ⊢;have v:=r.1;simp only [gx (d:=R.2) (k:=a) q6,gx (d:=R.2) (k:=R.1) q6,gxs (d:=R.2) (k:=a) q6,qk,Int.toNat_natCast,gswp]
theorem qzz (o : Y4 q lt P) {b n : Nat} (hb : b≤n) {d : Array T} (hd : AllP n P d) (x y : Int) : ∀ (m i : Nat),b - i = m→1≤i→i≤b→
    loop (q15 (b : Int) (x,y,d.toList) q) (i : Int) = some ((Sort.scanSorted lt d b i : Nat) : Int)∧i≤Sort.scanSorted lt d b i∧Sort.scanSorted lt d b i≤b:=by
  have j:=hd.1;have p:=hd.2.1;intro m
  induction m with
  | zero=>
    intro i l hi a;unfold Sort.scanSorted;rw [qp (by simp;omega)];have t : decide ((i : Int) < (b : Int)) = false:=Q9 q6;exact ⟨Kg (by simp only [q15,t,Q0,qk]),Nat.le_refl _,a⟩
  | succ m ih=>
    intro i l hi a;unfold Sort.scanSorted;have t : decide ((i : Int) < (b : Int)) = true:=Qc q6;have w : w64 ((i : Int) - 1) = ((i - 1 : Nat) : Int):=by rw [Qg q6];omega
    obtain ⟨r,h,g⟩:=o d[i]! d[i - 1]! (hd.2.2 _ q6) (hd.2.2 _ q6);by_cases c : lt d[i]! d[i - 1]! = true
    · rw [qp (by simp [c])];refine ⟨Kg ?_,Nat.le_refl _,a⟩;simp only [q15,t,Q3,w,gx (d:=d) (k:=i) q6,gx (d:=d) (k:=i - 1) q6,qk,h,g,c,Bool.not_true,Q0]
    · have c : lt d[i]! d[i - 1]! = false:=by simpa using c
      rw [qr (by simp [c];omega)];have f:=ih (i + 1) q6 q6 q6;refine ⟨?_,q6,f.2.2⟩;rw [Kw (a':=((i + 1 : Nat) : Int)) ?_]
      · exact f.1
      · simp only [q15,t,Q3,w,gx (d:=d) (k:=i) q6,gx (d:=d) (k:=i - 1) q6,qk,h,g,c,Bool.not_false,w1p i q6]
theorem qoy (h : Y4 q lt P) (n : Nat) : ∀ (j : Nat) (d : Array T),AllP n P d→j < n→loop (q16 q) ((j : Int),d.toList) = some (Sort.shiftDown lt j d).toList∧AllP n P (Sort.shiftDown lt j d)
  | 0,d,hd,hj=>by
    have t : decide (((0 : Nat) : Int) ≥ 1) = false:=Q9 q6
    exact ⟨Kg (by simp only [q16,t,Q0];rfl),hd⟩
  | j + 1,d,hd,hj=>by
    have m:=hd.1
    have o:=hd.2.1
    have t : decide (((j + 1 : Nat) : Int) ≥ 1) = true:=Qc q6
    obtain ⟨r,l,g⟩:=h d[j + 1]! d[j]! (hd.2.2 _ hj) (hd.2.2 _ q6)
    unfold Sort.shiftDown
    by_cases c : lt d[j + 1]! d[j]! = true
    · rw [qp (by simp [c])]
      have f:=qoy h n j _ (hd.swp (a:=j + 1) (b:=j) hj q6) q6
      refine ⟨?_,f.2⟩
      rw [Kw (a':=((j : Int),(Sort.swp d (j + 1) j).toList)) ?_]
      · exact f.1
      · simp only [q16,t,Q3,gx (d:=d) (k:=j + 1) q6,w1m j q6,gx (d:=d) (k:=j) q6,gxs (d:=d) (k:=j) q6,qk,l,g,c,Bool.not_true,Q0,Int.toNat_natCast,gswp]
    · have c : lt d[j + 1]! d[j]! = false:=by simpa using c
      rw [qr (by simp [c])]
      refine ⟨Kg ?_,hd⟩
      simp only [q16,t,Q3,gx (d:=d) (k:=j + 1) q6,w1m j q6,gx (d:=d) (k:=j) q6,qk,l,g,c,Bool.not_false]
theorem qp0 (s : Y4 q lt P) {b n : Nat} (hb : b≤n) (c : Int) : ∀ (m j : Nat) (d : Array T),b - j = m→AllP n P d→1≤j→loop (q17 (b : Int) q c) ((j : Int),d.toList) = some (c,(Sort.shiftUp lt b j d).toList)∧AllP n P (Sort.shiftUp lt b j d):=by
  intro m
  induction m with
  | zero=>
    intro j d p hd u;unfold Sort.shiftUp;rw [qp q6];have t : decide ((j : Int) < (b : Int)) = false:=Q9 q6;exact ⟨Kg (by simp only [q17,t,Q0]),hd⟩
  | succ m ih=>
    intro j d p hd u;have o:=hd.1;have v:=hd.2.1;unfold Sort.shiftUp;rw [qr q6];have t : decide ((j : Int) < (b : Int)) = true:=Qc q6;have w : w64 ((j : Int) - 1) = ((j - 1 : Nat) : Int):=by rw [Qg q6];omega
    obtain ⟨r,l,h⟩:=s d[j]! d[j - 1]! (hd.2.2 _ q6) (hd.2.2 _ q6);by_cases f : lt d[j]! d[j - 1]! = true
    · rw [qp (by simp [f])];have g:=ih (j + 1) _ q6 (hd.swp (a:=j) (b:=j - 1) q6 q6) q6;refine ⟨?_,g.2⟩;rw [Kw (a':=(((j + 1 : Nat) : Int),(Sort.swp d j (j - 1)).toList)) ?_]
      · exact g.1
      · simp only [q17,t,Q3,w,gx (d:=d) (k:=j) q6,gx (d:=d) (k:=j - 1) q6,gxs (d:=d) (k:=j - 1) q6,qk,l,h,f,Bool.not_true,Q0,Int.toNat_natCast,gswp,w1p j q6]
    · have f : lt d[j]! d[j - 1]! = false:=by simpa using f
      rw [qr (by simp [f])];refine ⟨Kg ?_,hd⟩;simp only [q17,t,Q3,w,gx (d:=d) (k:=j) q6,gx (d:=d) (k:=j - 1) q6,qk,l,h,f,Bool.not_false]
theorem qnu (j : Y4 q lt P) {a b n : Nat} (hb : b≤n) : ∀ (s i : Nat) (d : Array T),s≤5→AllP n P d→a < i→i≤b→
    ∃ m,loop (J9 (b : Int) q (a : Int)) ((i : Int),((5 - s : Nat) : Int),d.toList) = some m∧(match m with | .inl b441=>some (false,b441) | .inr x1=>some x1) = some ((Sort.partialIns lt a b s i d).2,(Sort.partialIns lt a b s i d).1.toList)
  | 0,i,d,hs,hd,hi,hib=>by
    have t : decide (((5 - 0 : Nat) : Int) < 5) = false:=Q9 q6
    refine ⟨.inl d.toList,Kg (by simp only [J9,t,Q0]),rfl⟩
  | s + 1,i,d,hs,hd,hi,hib=>by
    have ae:=hd.1
    have hn:=hd.2.1
    have t : decide (((5 - (s + 1) : Nat) : Int) < 5) = true:=Qc q6
    rw [Sort.partialIns_succ]
    obtain ⟨p,l1,w⟩:=qzz j hb hd (i : Int) ((5 - (s + 1) : Nat) : Int) _ i rfl q6 hib
    generalize Sort.scanSorted lt d b i = k at p l1 w ⊢
    by_cases z : k = b
    · subst z
      rw [qr rfl]
      refine ⟨.inr (true,d.toList),Kg ?_,rfl⟩
      simp only [J9,t,Q3,p,qk,beq_self_eq_true]
    · rw [qp z]
      have tk : ((k : Int) == (b : Int)) = false:=by simp;omega
      have e0 : w64 ((b : Int) - (a : Int)) = ((b - a : Nat) : Int):=wsub q6 q6
      by_cases l : b - a < 50
      · rw [qr l]
        have c : decide (((b - a : Nat) : Int) < 50) = true:=Qc q6
        refine ⟨.inr (false,d.toList),Kg ?_,rfl⟩
        simp only [J9,t,Q3,p,qk,tk,Q0,e0,c]
      · rw [qp l]
        have c : decide (((b - a : Nat) : Int) < 50) = false:=Q9 q6
        have wk : w64 ((k : Int) - 1) = ((k - 1 : Nat) : Int):=by rw [Qg q6];omega
        have wa : w64 ((k : Int) - (a : Int)) = ((k - a : Nat) : Int):=wsub q6 q6
        have wb : w64 ((b : Int) - (k : Int)) = ((b - k : Nat) : Int):=wsub q6 q6
        have o:=hd.swp (a:=k) (b:=k - 1) q6 q6
        have down : (cond (decide (((k - a : Nat) : Int) ≥ 2)) ((loop (q16 q) (((k - 1 : Nat) : Int),(Sort.swp d k (k - 1)).toList)).bind fun x0=>some x0) (some (Sort.swp d k (k - 1)).toList)) = some (Sort.fixDown lt a k (Sort.swp d k (k - 1))).toList∧AllP n P (Sort.fixDown lt a k (Sort.swp d k (k - 1))):=by
          unfold Sort.fixDown;by_cases h : k - a ≥ 2
          · have g : decide (((k - a : Nat) : Int) ≥ 2) = true:=Qc q6;obtain ⟨x,y⟩:=qoy j n (k - 1) _ o q6;rw [qr h,g,Q3,x];exact ⟨rfl,y⟩
          · have g : decide (((k - a : Nat) : Int) ≥ 2) = false:=Q9 q6;rw [qp h,g,Q0];exact ⟨rfl,o⟩
        obtain ⟨dn,f⟩:=down
        have r : AllP n P (Sort.fixUp lt b k (Sort.fixDown lt a k (Sort.swp d k (k - 1)))):=by
          unfold Sort.fixUp;split
          · exact (qp0 j hb 0 _ (k + 1) _ rfl f q6).2
          · exact f
        obtain ⟨m,v,u⟩:=qnu (a:=a) j hb s k _ q6 r q6 w
        refine ⟨m,?_,u⟩
        rw [Kw (a':=((k : Int),((5 - s : Nat) : Int),(Sort.fixUp lt b k (Sort.fixDown lt a k (Sort.swp d k (k - 1)))).toList)) ?_]
        · exact v
        · have w5 : w64 (((5 - (s + 1) : Nat) : Int) + 1) = ((5 - s : Nat) : Int):=by rw [Qg q6];omega
          simp only [J9,t,Q3,p,qk,tk,Q0,e0,c,wk,gx (d:=d) (k:=k) q6,gx (d:=d) (k:=k - 1) q6,gxs (d:=d) (k:=k - 1) q6,Int.toNat_natCast,gswp,wa,dn,wb,w1p k q6]
          unfold Sort.fixUp
          by_cases h : b - k ≥ 2
          · have g : decide (((b - k : Nat) : Int) ≥ 2) = true:=Qc q6
            obtain ⟨x,y⟩:=qp0 j hb (k : Int) _ (k + 1) _ rfl f q6
            rw [qr h,g,Q3,x]
            simp only [qk,w5]
          · have g : decide (((b - k : Nat) : Int) ≥ 2) = false:=Q9 q6
            rw [qp h,g,Q0]
            simp only [qk,w5]
theorem qy3 (g : Y4 q lt P) {a b n : Nat} (hb : b≤n) (h : a < b) {d : Array T} (hd : AllP n P d) :
    Um q d.toList (a : Int) (b : Int) = some ((Sort.partialInsertionSort lt d a b).2,(Sort.partialInsertionSort lt d a b).1.toList):=by
  have j:=hd.2.1;obtain ⟨m,c,f⟩:=qnu (a:=a) g hb 5 (a + 1) d q6 hd q6 q6;have c : loop (J9 (b : Int) q (a : Int)) (((a + 1 : Nat) : Int),0,d.toList) = some m:=c;unfold Um Sort.partialInsertionSort;rw [w1p a q6,c];exact f
end
end Go.Sh
namespace Go.Sh
open Go Go.Am
theorem qms {α β : Type} {f : α→Option (α ⊕ β)} {a : α} (h : f a = none) : loop f a = none:=by
  apply Option.ext;intro b;rw [qa1];constructor
  · rintro ⟨n,c⟩
    cases n with
    | zero=>simp [iter] at c
    | succ n=>simp [iter,h] at c
  · intro h;cases h
section
variable {T : Type} [Inhabited T] {P : T→Prop} {lt : T→T→Bool} {q : T→T→Option Int}
def Srt (lt : T→T→Bool) (a b : Nat) (d : Array T) (o : Option (List T)) : Prop:=∃ d' : Array T,o = some d'.toList∧Sort.PermIn a b d d'∧Sort.SortedIn lt a b d'
theorem qy6 (hq : Y4 q lt P) (hS : Sort.SWO lt) {n N : Nat} (ae : List T→Int→Int→Int→Option (List T))
    (ao : ∀ (a b f : Nat) (d : Array T),AllP n P d→a≤b→b≤n→f≤1000→Sort.Below lt a b d→Srt lt a b d (ae d.toList (a : Int) (b : Int) (f : Int))∨(N≤b - a∧ae d.toList (a : Int) (b : Int) (f : Int) = none)) :
    ∀ (m a b f : Nat) (wb wp : Bool) (d : Array T),b - a = m→AllP n P d→a≤b→b≤n→f≤1000→Sort.Below lt a b d→
      Srt lt a b d (loop (Zx q ae) ((a : Int),(b : Int),(f : Int),wb,wp,d.toList))∨(N + 1≤b - a∧loop (Zx q ae) ((a : Int),(b : Int),(f : Int),wb,wp,d.toList) = none):=by
  intro m
  induction m using Nat.strongRecOn with
  | _ m ih=>
    intro a b f wb wp d hm hd o hb hl hB;have dp:=hd.1;have hn:=hd.2.1;have e0 : w64 ((b : Int) - (a : Int)) = ((b - a : Nat) : Int):=wsub o q6;by_cases dh : b - a≤12
    ·
      have t : decide (((b - a : Nat) : Int)≤12) = true:=Qc q6;obtain ⟨x,y⟩:=Sort.insertionSort_holds (lt:=lt) hS d a b o q6;have s:=qv8 hq hb o hd;refine .inl ⟨_,Kg ?_,x,y⟩;simp only [Zx,e0,t,Q3,s,qk,Ur hd (hd.perm o hb x)]
    have bs : decide (((b - a : Nat) : Int)≤12) = false:=Q9 q6;by_cases h0 : f = 0
    ·
      have t : ((f : Int) == 0) = true:=by simp [h0]
      obtain ⟨x,y⟩:=Sort.heapSort_holds (lt:=lt) hS d a b o q6;have s:=quz hq hb (by omega : a < b) hd;refine .inl ⟨_,Kg ?_,x,y⟩;simp only [Zx,e0,bs,Q0,t,Q3,s,qk,Ur hd (hd.perm o hb x)]
    have t0 : ((f : Int) == 0) = false:=by simp [h0]
    have hA : ∃ (l1 : Nat) (d1 : Array T),(cond (!wb) ((q1t q d.toList (a : Int) (b : Int)).bind fun az=>(K6 az.length d.toList.length).bind fun cs=>some (w64 ((f : Int) - 1),az)) (some ((f : Int),d.toList))) = some ((l1 : Int),d1.toList)∧l1≤1000∧AllP n P d1∧Sort.PermIn a b d d1:=by
      cases wb with
      | true=>exact ⟨f,d,rfl,hl,hd,Sort.permIn_refl _ _ _⟩
      | false=>
        have x:=Sort.breakPatterns_holds d a b o q6;have z:=hd.perm o hb x;have w : w64 ((f : Int) - 1) = ((f - 1 : Nat) : Int):=by rw [Qg q6];omega
        refine ⟨f - 1,_,?_,q6,z,x⟩;simp only [Bool.not_false,Q3,qs0 (q:=q) hb (by omega : a < b) hd,qk,Ur hd z,w]
    obtain ⟨l1,d1,eA,al,z,p1⟩:=hA;have hC:=qsz hq z (by omega : a < b) hb;obtain ⟨c1,c2⟩:=Sort.choosePivot_holds lt d1 a b q6;generalize (Sort.choosePivot lt d1 a b).1 = c at hC c1 c2;generalize qgt (Sort.choosePivot lt d1 a b).2 = h at hC
    have hR : ∃ (p : Nat) (h2 : Int) (d2 : Array T),(cond (h == 2) ((q21 q d1.toList (a : Int) (b : Int)).bind fun be=>(K6 be.length d1.toList.length).bind fun ct=>some (w64 ((w64 ((b : Int) - 1)) - (w64 ((c : Int) - (a : Int)))),(1 : Int),be)) (some ((c : Int),h,d1.toList))) = some ((p : Int),h2,d2.toList)∧a≤p∧p < b∧AllP n P d2∧Sort.PermIn a b d1 d2:=by
      cases hh : (h == 2) with
      | false=>exact ⟨c,h,d1,rfl,c1,c2,z,Sort.permIn_refl _ _ _⟩
      | true=>
        have x:=Sort.reverseRange_holds d1 a b o (by rw [z.1];exact hb);have ac:=z.perm o hb x;have w1 : w64 ((b : Int) - 1) = ((b - 1 : Nat) : Int):=by rw [Qg q6];omega
        have w2 : w64 ((c : Int) - (a : Int)) = ((c - a : Nat) : Int):=wsub c1 q6;have w3 : w64 (((b - 1 : Nat) : Int) - ((c - a : Nat) : Int)) = ((b - 1 - (c - a) : Nat) : Int):=wsub q6 q6;refine ⟨b - 1 - (c - a),1,_,?_,q6,q6,ac,x⟩;simp only [Q3,qzs (q:=q) hb (by omega : a < b) z,qk,Ur z ac,w1,w2,w3]
    obtain ⟨p,h2,d2,eR,hp1,hp2,ac,p2⟩:=hR;have br : Sort.Below lt a b d2:=(hB.perm q6 p1).perm (by rw [z.1];exact hb) p2;have bl:=Sort.permIn_trans _ _ _ a b p1 p2
    have hP : ∀ cc : Bool,∃ ab : (List T) ⊕ (List T),(cond cc ((Um q d2.toList (a : Int) (b : Int)).bind fun ag=>(K6 ag.2.length d2.toList.length).bind fun dc=>cond ag.1 (some (.inr ag.2)) (some (.inl ag.2))) (some (.inl d2.toList)) : Option ((List T) ⊕ (List T))) = some ab∧
        ((∃ l : Array T,ab = .inr l.toList∧Sort.PermIn a b d2 l∧Sort.SortedIn lt a b l)∨(∃ l : Array T,ab = .inl l.toList∧AllP n P l∧Sort.PermIn a b d2 l)):=by
      intro cc
      cases cc with
      | false=>exact ⟨_,rfl,.inr ⟨d2,rfl,ac,Sort.permIn_refl _ _ _⟩⟩
      | true=>
        obtain ⟨x,y⟩:=Sort.partialInsertionSort_holds (lt:=lt) hS d2 a b q6 (by rw [ac.1];exact hb) br;have u:=ac.perm o hb x;have s:=qy3 hq hb (by omega : a < b) ac;simp only [Q3,s,qk,Ur ac u]
        cases hz : (Sort.partialInsertionSort lt d2 a b).2 with
        | true=>exact ⟨_,rfl,.inl ⟨_,rfl,x,y hz⟩⟩
        | false=>exact ⟨_,rfl,.inr ⟨_,rfl,u,x⟩⟩
    obtain ⟨ab,eP,bp⟩:=hP (wb && wp && (h2 == 1))
    have ck : ∀ {γ : Type} (X : Bool→Option γ),((cond wb (some wp) (some false)).bind fun bv=>(cond bv (some (h2 == 1)) (some false)).bind X) = X (wb && wp && (h2 == 1)):=by
      intro γ X;cases wb <;> cases wp <;> rfl
    have head : Zx q ae ((a : Int),(b : Int),(f : Int),wb,wp,d.toList) = (match (generalizing:=false) ab with | .inl b377=>(cond (decide ((a : Int) > 0)) ((idx b377 (w64 ((a : Int) - 1))).bind fun av=>(idx b377 (p : Int)).bind fun au=>(q av au).bind fun aq=>some (!(decide (aq < 0)))) (some false)).bind fun bq=>cond bq ((q1y q b377 (a : Int) (b : Int) (p : Int)).bind fun ar=>(K6 ar.2.length b377.length).bind fun dd=>some (.inl (ar.1,(b : Int),(l1 : Int),wb,wp,ar.2))) ((q1x q b377 (a : Int) (b : Int) (p : Int)).bind fun g=>(K6 g.2.2.length b377.length).bind fun cx=>cond (decide ((w64 (g.1 - (a : Int))) < (w64 ((b : Int) - g.1)))) ((ae g.2.2 (a : Int) g.1 (l1 : Int)).bind fun bb=>(K6 bb.length g.2.2.length).bind fun de=>some (.inl (w64 (g.1 + 1),(b : Int),(l1 : Int),decide ((w64 (g.1 - (a : Int))) ≥ (w64 (Int.tdiv ((b - a : Nat) : Int) 8))),g.2.1,bb))) ((ae g.2.2 (w64 (g.1 + 1)) (b : Int) (l1 : Int)).bind fun ba=>(K6 ba.length g.2.2.length).bind fun cw=>some (.inl ((a : Int),g.1,(l1 : Int),decide ((w64 ((b : Int) - g.1)) ≥ (w64 (Int.tdiv ((b - a : Nat) : Int) 8))),g.2.1,ba)))) | .inr x1=>some (.inr x1)):=by
      simp only [Zx,e0,bs,Q0,t0,eA,qk,hC,eR,ck,eP]
      clear eP bp hP ao ih
      cases ab <;> rfl
    rcases bp with ⟨l,rfl,x,y⟩ | ⟨l,rfl,u,p3⟩
    · refine .inl ⟨l,Kg ?_,Sort.permIn_trans _ _ _ a b bl x,y⟩;rw [head]
    have ay:=u.1;have P3:=Sort.permIn_trans _ _ _ a b bl p3;have B3 : Sort.Below lt a b l:=br.perm (by rw [ac.1];exact hb) p3
    have bf : (cond (decide ((a : Int) > 0)) ((idx l.toList (w64 ((a : Int) - 1))).bind fun av=>(idx l.toList (p : Int)).bind fun au=>(q av au).bind fun aq=>some (!(decide (aq < 0)))) (some false)) = some (decide (a > 0) && !lt l[a - 1]! l[p]!):=by
      by_cases ha : a > 0
      · have ta : decide ((a : Int) > 0) = true:=Qc q6;have w : w64 ((a : Int) - 1) = ((a - 1 : Nat) : Int):=by rw [Qg q6];omega
        obtain ⟨r,h1,h2⟩:=hq l[a - 1]! l[p]! (u.2.2 _ q6) (u.2.2 _ q6);simp only [ta,Q3,w,gx (d:=l) (k:=a - 1) q6,gx (d:=l) (k:=p) q6,qk,h1,h2,Qc ha,Bool.true_and]
      · have ta : decide ((a : Int) > 0) = false:=Q9 q6;simp only [ta,Q0,Q9 ha,Bool.false_and]
    simp only [bf,qk] at head;by_cases hc : (decide (a > 0) && !lt l[a - 1]! l[p]!) = true
    ·
      rw [hc] at head;have s:=qy4 hq hb (by omega : a < b) (by omega : p < n) u;simp only [Bool.and_eq_true,decide_eq_true_eq,Bool.not_eq_true'] at hc
      cases hx : Sort.partitionEqual lt l a b p with
      | mk j d4=>
        obtain ⟨g1,g2,bw,cj,ad⟩:=Sort.round_eq hS (Sort.partitionEqual_holds lt) hc.1 hp1 hp2 (by rw [ay];exact hb) B3 hc.2 hx
        have bz : ∀ i,a≤i→i < b→lt l[i]! l[p]! = false:=fun i hi cb=>by
          rcases B3 with h0 | hB
          · omega
          · exact hS.ntrans _ _ _ (hB i hi cb) hc.2
        obtain ⟨_,_,v,_,_⟩:=Sort.partitionEqual_holds lt hS l a b p hp1 hp2 (by rw [ay];exact hb) bz;rw [hx] at v s;have aa:=u.perm o hb v;simp only [Q3,s,qk,Ur u aa] at head;rw [Kw head];rcases ih (b - j) q6 j b l1 wb wp d4 rfl aa g2 hb al cj with ⟨R,r0,r1,r2⟩ | ⟨r1,r2⟩
        · obtain ⟨q1,q2⟩:=ad _ r1 r2;exact .inl ⟨R,r0,Sort.permIn_trans _ _ _ a b P3 q1,q2⟩
        · exact .inr ⟨q6,r2⟩
    ·
      have hc : (decide (a > 0) && !lt l[a - 1]! l[p]!) = false:=by simpa using hc
      rw [hc] at head;have s:=qy5 hq hb (by omega : a < b) (by omega : p < n) u
      cases hx : Sort.partition lt l a b p with
      | mk j r=>
      cases r with
      | mk ap d4=>
        obtain ⟨g1,g2,bw,ca,cq,bh,ax⟩:=Sort.round_part hS (Sort.partition_holds lt) hp1 hp2 (by rw [ay];exact hb) B3 hx;obtain ⟨_,_,v,_,_⟩:=Sort.partition_holds lt hS l a b p hp1 hp2 (by rw [ay];exact hb);rw [hx] at v s;have aa:=u.perm o hb v;have w1 : w64 ((j : Int) - (a : Int)) = ((j - a : Nat) : Int):=wsub g1 q6;have w2 : w64 ((b : Int) - (j : Int)) = ((b - j : Nat) : Int):=wsub q6 q6;simp only [Q0,s,qk,Ur u aa,w1,w2,w1p j q6] at head;by_cases dm : j - a < b - j
        · have tl : decide (((j - a : Nat) : Int) < ((b - j : Nat) : Int)) = true:=Qc q6;simp only [tl,Q3] at head;rcases ao a j l1 d4 aa g1 q6 al ca with ⟨L,e,am,bg⟩ | ⟨r1,r2⟩
          · have an:=aa.perm g1 q6 am;obtain ⟨bi,ad⟩:=bh _ am bg;simp only [e,qk,Ur aa an] at head;rw [Kw head];rcases ih (b - (j + 1)) q6 (j + 1) b l1 _ _ L rfl an q6 hb al bi with ⟨R,r0,r1,r2⟩ | ⟨r1,r2⟩
            · obtain ⟨q1,q2⟩:=ad _ r1 r2;exact .inl ⟨R,r0,Sort.permIn_trans _ _ _ a b P3 q1,q2⟩
            · exact .inr ⟨q6,r2⟩
          · simp only [r2,Option.bind_none] at head;exact .inr ⟨q6,qms head⟩
        · have tl : decide (((j - a : Nat) : Int) < ((b - j : Nat) : Int)) = false:=Q9 q6;simp only [tl,Q0] at head;rcases ao (j + 1) b l1 d4 aa q6 hb al cq with ⟨L,e,am,bg⟩ | ⟨r1,r2⟩
          · have an:=aa.perm (by omega : j + 1≤b) hb am;obtain ⟨bi,ad⟩:=ax _ am bg;simp only [e,qk,Ur aa an] at head;rw [Kw head];rcases ih (j - a) q6 a j l1 _ _ L rfl an g1 q6 al bi with ⟨R,r0,r1,r2⟩ | ⟨r1,r2⟩
            · obtain ⟨q1,q2⟩:=ad _ r1 r2;exact .inl ⟨R,r0,Sort.permIn_trans _ _ _ a b P3 q1,q2⟩
            · exact .inr ⟨q6,r2⟩
          · simp only [r2,Option.bind_none] at head;exact .inr ⟨q6,qms head⟩
theorem qnv (g : Y4 q lt P) (f : Sort.SWO lt) {n : Nat} : ∀ (N a b c : Nat) (d : Array T),AllP n P d→a≤b→b≤n→c≤1000→Sort.Below lt a b d→
    Srt lt a b d (Zp N q d.toList (a : Int) (b : Int) (c : Int))∨(N≤b - a∧Zp N q d.toList (a : Int) (b : Int) (c : Int) = none)
  | 0,a,b,c,d,_,_,_,_,_=>.inr ⟨q6,rfl⟩
  | N + 1,a,b,c,d,hd,hab,hb,hl,hB=>by
    have h:=qy6 g f (N:=N) (Zp N q) (fun a b c d o k j l m=>qnv g f N a b c d o k j l m) _ a b c true true d rfl hd hab hb hl hB
    have e : Zp (N + 1) q d.toList (a : Int) (b : Int) (c : Int) = loop (Zx q (Zp N q)) ((a : Int),(b : Int),(c : Int),true,true,d.toList):=by
      show q1a (Zp N q) q d.toList (a : Int) (b : Int) (c : Int) = _;unfold q1a;cases loop (Zx q (Zp N q)) ((a : Int),(b : Int),(c : Int),true,true,d.toList) <;> rfl
    rw [e]
    exact h
theorem qpo (u : Y4 q lt P) (p : Sort.SWO lt) (xs : List T) (o : xs.length≤1000000) (t : ∀ x∈xs,P x) :
    ∃ ys,q2y q xs = some ys∧ys.Perm xs∧ys.Pairwise (fun x y=>lt y x = false):=by
  have hd : AllP xs.length P xs.toArray:=by
    refine ⟨qg,o,fun i hi=>?_⟩;have : xs.toArray[i]! = xs[i]:=by simp [hi]
    rw [this];exact t _ (Kp hi)
  have hk : Sort.bitsLen xs.length≤20:=(Sort.bitsLen_le_iff _ 20).2 q6;have c : ∀ N,_:=fun N=>qnv u p N 0 xs.length (Sort.bitsLen xs.length) xs.toArray hd q6 q6 q6 (.inl rfl);have z:=c (xs.length + 1);rcases z with ⟨d',e,_,_⟩ | ⟨h,_⟩
  · obtain ⟨r,n⟩:=qvp (f:=fun N=>Zp N q xs 0 (xs.length : Int) ((Sort.bitsLen xs.length : Nat) : Int)) e;obtain ⟨N,g⟩:=qh2 n;have g : Zp N q xs 0 (xs.length : Int) ((Sort.bitsLen xs.length : Nat) : Int) = some r:=g;rcases c N with ⟨a,b,x,y⟩ | ⟨_,b⟩
    · have b : Zp N q xs 0 (xs.length : Int) ((Sort.bitsLen xs.length : Nat) : Int) = some a.toList:=b;rw [g] at b;obtain rfl : r = a.toList:=qf7 b;have d : a.size = xs.length:=by rw [x.1];simp
      refine ⟨a.toList,?_,?_,?_⟩
      · unfold q2y;rw [q2j,show ((xs.length : Int) % 18446744073709551616) = (xs.length : Int) by omega,qmp _ o];simp only [qk,n];unfold K6;rw [qr (by simp [d])];rfl
      · have:=x.2.2;have v : a.extract 0 xs.length = a:=by rw [← d];simp
        have s : xs.toArray.extract 0 xs.length = xs.toArray:=by simp
        rw [v,s] at this;exact this
      · rw [List.pairwise_iff_getElem];intro i j hi w k;have l : i < a.size:=by simpa using hi
        have m : j < a.size:=by simpa using w
        have:=y i j q6 k q6;rw [getElem!_pos a i l,getElem!_pos a j m] at this;simpa using this
    · have b : Zp N q xs 0 (xs.length : Int) ((Sort.bitsLen xs.length : Nat) : Int) = none:=b;rw [g] at b;cases b
  · omega
end
end Go.Sh
namespace Go.Sh
open Go Go.Am
theorem q110 : qes = q61:=rfl
theorem q101 : q3b = q49:=by
  funext p0;simp only [q3b,q49,q110]
  all_goals exact K5
theorem qor : q1d = q1s:=by
  funext p0;simp only [q1d,q1s,q101]
  all_goals exact K5
theorem q10b : qb3 = Uk:=by
  funext p1 q1 a459;simp only [qb3,Uk]
  all_goals exact K5
theorem q10a : qb2 = q1w:=by
  funext p2 p1 q1 a278;simp only [qb2,q1w,q10b]
  all_goals exact K5
theorem q109 : qb1 = q31:=by
  funext q1 p0 p1 p2;simp only [qb1,q31,q10a]
  all_goals exact K5
theorem q10z : qbl = Un:=by
  funext p2 p3 q1 a197;simp only [qbl,Un]
  all_goals exact K5
theorem qot : q8f = q1b:=by
  funext q1 p0 p1 p2 p3;simp only [q8f,q1b,q10z]
  all_goals exact K5
theorem q107 : qaz = q1u:=by
  funext q1 p2 p1 a123;simp only [qaz,q1u,qot]
  all_goals exact K5
theorem q108 : qb0 = q1v:=by
  funext p1 q1 a191;simp only [qb0,q1v,qot]
  all_goals exact K5
theorem q106 : qay = q30:=by
  funext q1 p0 p1 p2;simp only [qay,q30,q107,q108]
  all_goals exact K5
theorem q10d : q2b = q32:=by
  funext p0;simp only [q2b,q32,qor]
  all_goals exact K5
theorem q111 : q2c = q36:=by
  funext p0;simp only [q2c,q36]
  all_goals exact K5
theorem q104 : qaw = q12:=by
  funext p1 p2 r101 a153;simp only [qaw,q12,q111]
  all_goals exact K5
theorem q103 : qav = q1t:=by
  funext q1 p0 p1 p2;simp only [qav,q1t,q10d,q104]
  all_goals exact K5
theorem q10e : q53 = q14:=by
  funext q1 p0 p1 p2 p3;simp only [q53,q14]
  all_goals exact K5
theorem qos : q7v = q13:=by
  funext q1 p0 p1 p2 p3 p4;simp only [q7v,q13,q10e]
  all_goals exact K5
theorem q10c : q51 = Ul:=by
  funext q1 p0 p1 p2;simp only [q51,Ul,qos]
  all_goals exact K5
theorem q105 : qax = q2z:=by
  funext p0 p1 p2 p3;simp only [qax,q2z,qos,q10c]
  all_goals exact K5
theorem q10y : qbj = q35:=by
  funext a119;simp only [qbj,q35]
  all_goals exact K5
theorem q10x : qbi = q21:=by
  funext q1 p0 p1 p2;simp only [qbi,q21,q10y]
  all_goals exact K5
theorem q10h : qb4 = q15:=by
  funext p2 a438 q1 a681;simp only [qb4,q15]
  all_goals exact K5
theorem q10i : qb5 = q16:=by
  funext q1 a838;simp only [qb5,q16]
  all_goals exact K5
theorem q10j : qb6 = q17:=by
  funext p2 q1 b684 a928;simp only [qb6,q17]
  all_goals exact K5
theorem q10g : q7x = J9:=by
  funext p2 q1 p1 a438;have a : @q7x.match_1.{1} = @J9.match_1.{1} qq:=by funext motive m f g;cases m <;> rfl
  unfold q7x J9;rw [a];simp only [q10h,q10i,q10j]
theorem q10f : q7w = Um:=by
  funext q1 p0 p1 p2;have a : @q7w.match_1.{1} = @Um.match_1.{1} qq:=by funext motive m f g;cases m <;> rfl
  unfold q7w Um;rw [a];simp only [q10g]
theorem q10n : qbg = q18:=by
  funext a318 p1 q1 a378;simp only [qbg,q18]
  all_goals exact K5
theorem q10o : qbh = q19:=by
  funext b381 a318 p1 q1 a463;simp only [qbh,q19]
  all_goals exact K5
theorem q10m : qbf = q1z:=by
  funext p1 q1 a318;simp only [qbf,q1z,q10n,q10o]
  all_goals exact K5
theorem q10l : qbe = q1y:=by
  funext q1 p0 p1 p2 p3;simp only [qbe,q1y,q10m]
  all_goals exact K5
theorem q10p : qb9 = q33:=by
  funext p2 p0 p1 v101 p3 v103 q1 a163;simp only [qb9,q33]
  all_goals exact K5
theorem q10q : qba = q34:=by
  funext b166 p0 p1 v101 p3 v103 q1 a249;simp only [qba,q34]
  all_goals exact K5
theorem q10s : qbc = Jj:=by
  funext a514 p1 q1 a572;simp only [qbc,Jj]
  all_goals exact K5
theorem q10t : qbd = Jk:=by
  funext b575 a514 p1 q1 a658;simp only [qbd,Jk]
  all_goals exact K5
theorem q10r : qbb = q20:=by
  funext p1 q1 a514;simp only [qbb,q20,q10s,q10t]
  all_goals exact K5
theorem q10k : qb8 = q1x:=by
  funext q1 p0 p1 p2 p3;simp only [qb8,q1x,q10p,q10q,q10r]
  all_goals exact K5
theorem q10v : q8b = Zx:=by
  funext q1 rec a309;have a : @q8b.match_1.{1} = @Zx.match_1.{1} qq:=by funext motive m f g;cases m <;> rfl
  unfold q8b Zx;rw [a];simp only [q109,q106,q103,q105,q10x,q10f,q10l,q10k]
theorem q10w : q8c = q1a:=by
  funext rec q1 p0 p1 p2 p3;simp only [q8c,q1a,q10v]
  all_goals exact K5
theorem q10u : ∀ N q,q8a N q = Zp N q:=by
  intro N q
  induction N with
  | zero=>rfl
  | succ N ih=>
    funext a b c d;show q8c (q8a N q) q a b c d = q1a (Zp N q) q a b c d;rw [ih,q10w]
theorem q102 : q7l = q2y:=by
  funext q1 p0;simp only [q7l,q2y,qor,q10u]
  all_goals exact K5
end Go.Sh
namespace Go.Sh
open Go Go.Am
instance : Inhabited qq:=⟨⟨0,0,0⟩⟩
theorem q14m (q : qq→qq→Option Int) (xs : List qq) : q7l q xs = q2y q xs:=by rw [q102]
def evs (s : List qn) (l : Int) : List qq:=s.flatMap fun t=>[{at_:=t.Lo,list_:=l,by_:=1},{at_:=t.Hi,list_:=l,by_:=-1}]
theorem q9w (s : List qn) (l : Int) : (evs s l).length = 2 * s.length:=by
  induction s with
  | nil=>rfl
  | cons t s ih=>simp only [evs,List.flatMap_cons,List.length_append,List.length_cons,List.length_nil] at ih ⊢;omega
theorem qdk {s : List qn} {l : Int} {e : qq} (h : e∈evs s l) : e.list_ = l∧(e.by_ = 1∨e.by_ = -1)∧∃ t∈s,e.at_ = t.Lo∨e.at_ = t.Hi:=by
  simp only [evs,List.mem_flatMap] at h;obtain ⟨t,a,h⟩:=h;simp only [List.mem_cons,List.not_mem_nil,or_false] at h;rcases h with rfl | rfl
  · exact ⟨rfl,.inl rfl,t,a,.inl rfl⟩
  · exact ⟨rfl,.inr rfl,t,a,.inr rfl⟩
theorem ql2 (s : List qn) (l : Int) (y : List qq) (hs : s.length≤1000) (base : List qq) (hb : base.length≤10000) :
    loop (q5c s (l,y)) (0,base) = some (base ++ evs s l):=by
  have:=J2 (f:=q5c s (l,y)) (σ:=List qq) (fun k c=>((k : Int),c)) s.length (fun k c=>c = base ++ evs (s.take k) l) (fun t=>t = base ++ evs s l) ?_ ?_ (k0:=0) (c0:=base) q6 (by simp [evs])
  · obtain ⟨b,h,rfl⟩:=this;exact h
  · rintro k c d rfl;have a : decide ((k : Int) < (s.length : Int)) = true:=Qc q6;refine .inl ⟨base ++ evs (s.take (k + 1)) l,?_,rfl⟩;have g : (evs (s.take k) l).length≤2000:=by rw [q9w,List.length_take];omega
    simp only [q5c,a,Q3,Qv d,qk];rw [Y7 (by rw [List.length_append];simp only [List.length_cons,List.length_nil];omega),qk,Qg q6,List.take_succ_eq_append_getElem d,List.append_assoc];have : evs (s.take k ++ [s[k]]) l = evs (s.take k) l ++ [{at_:=s[k].Lo,list_:=l,by_:=1},{at_:=s[k].Hi,list_:=l,by_:=-1}]:=by simp only [evs,List.flatMap_append,List.flatMap_cons,List.flatMap_nil,List.append_nil]
    rw [this];rfl
  · rintro c rfl;have a : decide ((s.length : Int) < (s.length : Int)) = false:=Q9 q6;exact ⟨_,by simp only [q5c,a,Q0];rfl,by rw [List.take_length]⟩
def ltE (a b : qq) : Bool:=decide (a.at_ < b.at_)
def inE (e : qq) : Prop:=-1000000≤e.at_∧e.at_≤1000000
theorem swoE : Sort.SWO ltE where
  irrefl:=by intro x;simp [ltE]
  trans:=by intro x y z;simp only [ltE,decide_eq_true_eq];omega
  ntrans:=by intro x y z;simp only [ltE,decide_eq_false_iff_not];omega
theorem cmpE : Y4 (fun b a=>qbu b a) ltE inE:=by
  rintro x y ⟨f,c⟩ ⟨g,d⟩;refine ⟨x.at_ - y.at_,?_,?_⟩
  · show some (w64 (x.at_ - y.at_)) = _;rw [Qg q6]
  · unfold ltE;exact decide_eq_decide.2 q6
theorem q14l (p q : List qn) (hp : p.length≤500) (z : q.length≤500) (o : ∀ t∈p,vld t) (n : ∀ t∈q,vld t) :
    ∃ ys,qbv [p,q] = some ([p,q],ys)∧ys.Perm (evs p 0 ++ evs q 1)∧ys.Pairwise (fun x y=>x.at_≤y.at_):=by
  have m : ∀ x∈evs p 0 ++ evs q 1,inE x:=by
    intro x r;rcases List.mem_append.1 r with h | h
    · obtain ⟨_,_,t,f,h⟩:=qdk h;obtain ⟨a,b,c⟩:=o t f;unfold inE;rcases h with h | h <;> omega
    · obtain ⟨_,_,t,f,h⟩:=qdk h;obtain ⟨a,b,c⟩:=n t f;unfold inE;rcases h with h | h <;> omega
  have v:=q9w p 0;have w:=q9w q 1;obtain ⟨ys,s,j,l⟩:=qpo cmpE swoE (evs p 0 ++ evs q 1) (by rw [List.length_append];omega) m;refine ⟨ys,?_,j,l.imp (fun {x y} h=>by simp only [ltE,decide_eq_false_iff_not] at h;omega)⟩
  have d : loop (q1k [p,q]) (0,[]) = some (evs p 0 ++ evs q 1):=by
    have s0 : q1k [p,q] (0,[]) = some (.inl (1,evs p 0)):=by
      have t : decide ((0 : Int) < (([p,q] : List (List qn)).length : Int)) = true:=rfl;simp only [q1k,t,Q3];have : idx [p,q] 0 = some p:=rfl;rw [this];simp only [qk,ql2 p 0 [] q6 [] qg,List.nil_append];rfl
    have u : q1k [p,q] (1,evs p 0) = some (.inl (2,evs p 0 ++ evs q 1)):=by
      have t : decide ((1 : Int) < (([p,q] : List (List qn)).length : Int)) = true:=rfl;simp only [q1k,t,Q3];have : idx [p,q] 1 = some q:=rfl;rw [this];simp only [qk,ql2 q 1 (evs p 0) q6 (evs p 0) q6];rfl
    have k : q1k [p,q] (2,evs p 0 ++ evs q 1) = some (.inr (evs p 0 ++ evs q 1)):=by
      have t : decide ((2 : Int) < (([p,q] : List (List qn)).length : Int)) = false:=rfl;simp only [q1k,t,Q0]
    rw [Kw s0,Kw u,Kg k]
  unfold qbv;rw [d];simp only [qk,q14m,s];have le : K6 ys.length (evs p 0 ++ evs q 1).length = some ():=by unfold K6;rw [qr j.length_eq]
  have g : K6 ys.length ys.length = some ():=by unfold K6;rw [qr rfl]
  simp only [le,qk,qej,g]
def cnt (l : Int) (c : Int→Bool) : List qq→Int
  | []=>0
  | e::es=>(if e.list_ = l∧c e.at_ = true then e.by_ else 0) + cnt l c es
theorem q2q (l : Int) (c : Int→Bool) (a b : List qq) : cnt l c (a ++ b) = cnt l c a + cnt l c b:=by
  induction a with
  | nil=>simp [cnt]
  | cons e a ih=>simp only [List.cons_append,cnt,ih];omega
theorem qkm {l : Int} {c : Int→Bool} {a b : List qq} (h : a.Perm b) : cnt l c a = cnt l c b:=by
  induction h with
  | nil=>rfl
  | cons x _ ih=>simp only [cnt,ih]
  | swap x y l=>simp only [cnt];omega
  | trans _ _ ih1 ih2=>rw [ih1,ih2]
theorem qkj {l : Int} {c b : Int→Bool} : ∀ {a : List qq},(∀ e∈a,c e.at_ = b e.at_)→cnt l c a = cnt l b a
  | [],_=>rfl
  | e::a,h=>by simp only [cnt,h e qg,qkj (fun e d=>h e (List.mem_cons_of_mem _ d))]
theorem qkl {l : Int} {c : Int→Bool} : ∀ {a : List qq},(∀ e∈a,c e.at_ = false)→cnt l c a = 0
  | [],_=>rfl
  | e::a,h=>by
    simp only [cnt,qkl (fun e b=>h e (List.mem_cons_of_mem _ b)),h e qg]
    simp
theorem q9l {s : List qn} {l l' : Int} {c : Int→Bool} (h : l≠l') : cnt l c (evs s l') = 0:=by
  induction s with
  | nil=>rfl
  | cons t s ih=>
    have : evs (t::s) l' = [{at_:=t.Lo,list_:=l',by_:=1},{at_:=t.Hi,list_:=l',by_:=-1}] ++ evs s l':=rfl;rw [this,q2q,ih];have a : ¬ l' = l:=fun e=>h e.symm;simp [cnt,a]
theorem qkk {s : List qn} {l : Int} (v : ∀ t∈s,vld t) (x : Int) : 0≤cnt l (fun a=>decide (a≤x)) (evs s l)∧(0 < cnt l (fun a=>decide (a≤x)) (evs s l)↔has s x):=by
  induction s with
  | nil=>exact ⟨Int.le_refl 0,by simp [evs,cnt,has]⟩
  | cons t s ih=>
    obtain ⟨h,d⟩:=ih (fun t c=>v t (List.mem_cons_of_mem _ c));have b:=v t qg;have : evs (t::s) l = [{at_:=t.Lo,list_:=l,by_:=1},{at_:=t.Hi,list_:=l,by_:=-1}] ++ evs s l:=rfl;rw [this,q2q,J1,← d];obtain ⟨j,g,f⟩:=b;simp only [cnt,true_and,decide_eq_true_eq];split <;> split <;> omega
theorem qkn {s : List qn} {l : Int} : cnt l (fun _=>true) (evs s l) = 0:=by
  induction s with
  | nil=>rfl
  | cons t s ih=>
    have : evs (t::s) l = [{at_:=t.Lo,list_:=l,by_:=1},{at_:=t.Hi,list_:=l,by_:=-1}] ++ evs s l:=rfl;rw [this,q2q,ih];simp [cnt]
theorem qg2 {l : Int} {c : Int→Bool} : ∀ {a : List qq},(∀ e∈a,e.by_ = 1∨e.by_ = -1)→-(a.length : Int)≤cnt l c a∧cnt l c a≤(a.length : Int)
  | [],_=>by simp [cnt]
  | e::a,h=>by
    obtain ⟨f,d⟩:=qg2 (l:=l) (c:=c) (fun e b=>h e (List.mem_cons_of_mem _ b))
    have:=h e qg
    simp only [cnt,List.length_cons]
    split <;> omega
end Go.Sh
namespace Go.Sh
open Go Go.Am
theorem qt2 (at_ a : Int) (inn : Bool) (out : List qn) (h : out.length≤10000) :
    qbw at_ inn a out = some (inn,a,if inn = true∧a≠at_ then addS out a at_ else out):=by
  unfold qbw
  cases inn with
  | false=>rfl
  | true=>
    by_cases b : a = at_
    · simp [b]
    · have hb : (a == at_) = false:=by simpa using b
      simp only [Bool.not_true,Q0,qk,hb];rw [qr ⟨trivial,b⟩];rcases qek out with rfl | ⟨d,t,rfl⟩
      · rfl
      · have l : (d ++ [t]).length = d.length + 1:=by simp
        have k : decide (((d ++ [t]).length : Int) > 0) = true:=Qc q6;have g : w64 (((d ++ [t]).length : Int) - 1) = (d.length : Int):=by rw [Qg q6];omega
        have j : idx (d ++ [t]) (d.length : Int) = some t:=by
          rw [Qv q6];simp
        simp only [k,Q3,g,j,qk];by_cases f : t.Hi = a
        · subst f;simp only [beq_self_eq_true,Q3,qcg,Int.toNat_natCast,qow]
        · have c : (t.Hi == a) = false:=by simpa using f
          simp only [c,Q0,qch f];rw [Y7 (by simp;omega)];rfl
open Classical in
structure qra (f : Bool→Bool→Bool) (p q : List qn) (ys : List qq) (k : Nat) (c : List Int × Int × Bool × List qn) : Prop where
  opn : c.1 = [cnt 0 (fun _=>true) (ys.take k),cnt 1 (fun _=>true) (ys.take k)]
  inn : c.2.2.1 = f (decide (0 < cnt 0 (fun _=>true) (ys.take k))) (decide (0 < cnt 1 (fun _=>true) (ys.take k)))
  lst : ∀ (h : k - 1 < ys.length),0 < k→c.2.1 = ys[k - 1].at_
  can : Can c.2.2.2
  his : ∀ t∈c.2.2.2,t.Hi≤c.2.1
  zro : k = 0→c.2.2.2 = []
  pts : ∀ x,has c.2.2.2 x↔0 < k∧x < c.2.1∧f (decide (has p x)) (decide (has q x)) = true
  len : c.2.2.2.length≤k
theorem qrd (c : List qn) (a b : Int) : (addS c a b).length≤c.length + 1:=by
  rcases qek c with rfl | ⟨d,t,rfl⟩
  · simp [qjh]
  · by_cases h : t.Hi = a
    · subst h;rw [qcg];simp
    · rw [qch h];simp
theorem qki {p q : List qn} {ys : List qq} (hp : ∀ t∈p,vld t) (j : ∀ t∈q,vld t) (b : ys.Perm (evs p 0 ++ evs q 1)) (hs : ys.Pairwise (fun x y=>x.at_≤y.at_)) (k : Nat) (x : Int)
    (m : ∀ i (h : i < ys.length),i < k→ys[i].at_≤x) (g : ∀ i (h : i < ys.length),k≤i→x < ys[i].at_) :
    (0 < cnt 0 (fun _=>true) (ys.take k)↔has p x)∧(0 < cnt 1 (fun _=>true) (ys.take k)↔has q x):=by
  have key : ∀ l,cnt l (fun _=>true) (ys.take k) = cnt l (fun a=>decide (a≤x)) (evs p 0) + cnt l (fun a=>decide (a≤x)) (evs q 1):=by
    intro l;rw [← q2q,← qkm b]
    conv=>rhs;rw [← List.take_append_drop k ys]
    rw [q2q]
    have n : cnt l (fun a=>decide (a≤x)) (ys.drop k) = 0:=by
      refine qkl fun e c=>?_;obtain ⟨i,hi,rfl⟩:=List.mem_iff_getElem.1 c;rw [List.getElem_drop];rw [List.length_drop] at hi;have:=g (k + i) q6 q6;exact Q9 q6
    have o : cnt l (fun a=>decide (a≤x)) (ys.take k) = cnt l (fun _=>true) (ys.take k):=by
      refine qkj fun e c=>?_;obtain ⟨i,hi,rfl⟩:=List.mem_iff_getElem.1 c;rw [List.getElem_take];rw [List.length_take] at hi;exact Qc (m i q6 q6)
    rw [n,o];omega
  rw [key 0,key 1,q9l (l:=0) (l':=1) qz,q9l (l:=1) (l':=0) qz];have d:=qkk (l:=0) hp x;have f:=qkk (l:=1) j x;rw [Int.add_zero,Int.zero_add];exact ⟨d.2,f.2⟩
open Classical in
theorem qmf (f : Bool→Bool→Bool) (hf : f false false = false) (p2 : Bool→Bool→Option Bool) (hp2 : ∀ a b,p2 a b = some (f a b)) (p q : List qn)
    (hp : p.length≤500) (hq : q.length≤500) (vp : ∀ t∈p,vld t) (vq : ∀ t∈q,vld t) :
    ∃ out,q3u p q p2 = some out∧Can out∧∀ x,has out x↔f (decide (has p x)) (decide (has q x)) = true:=by
  obtain ⟨ys,e1,g,hs⟩:=q14l p q hp hq vp vq;have bg : ys.length≤2000:=by rw [g.length_eq,List.length_append,q9w,q9w];omega
  have w : ∀ i j (hi : i < ys.length) (hj : j < ys.length),i≤j→ys[i].at_≤ys[j].at_:=by
    intro i j hi hj bl;rcases Nat.lt_or_ge i j with h | h
    · exact List.pairwise_iff_getElem.1 hs i j hi hj h
    · obtain rfl : i = j:=by omega
      exact Int.le_refl _
  have z : ∀ e∈ys,(e.list_ = 0∨e.list_ = 1)∧(e.by_ = 1∨e.by_ = -1):=by
    intro e he;rcases List.mem_append.1 (g.mem_iff.1 he) with h | h
    · obtain ⟨a,b,_⟩:=qdk h;exact ⟨.inl a,b⟩
    · obtain ⟨a,b,_⟩:=qdk h;exact ⟨.inr a,b⟩
  have:=J2 (f:=q5d ([p,q],ys) p2) (σ:=List Int × Int × Bool × List qn) (fun k c=>((k : Int),c)) ys.length (qra f p q ys) (fun out=>Can out∧∀ x,has out x↔f (decide (has p x)) (decide (has q x)) = true) ?_ ?_ (k0:=0) (c0:=([0,0],0,false,[])) q6 ?_
  · obtain ⟨out,o,m⟩:=this;refine ⟨out,?_,m⟩;unfold q3u;have o : loop (q5d ([p,q],ys) p2) (0,[0,0],0,false,[]) = some out:=o;rw [e1];simp only [qk,o];rfl
  · rintro k ⟨opn,d,inn,out⟩ hk ⟨s1,s2,s3,s4,s5,s6,s7,s8⟩;simp only at s1 s2 s3 s4 s5 s6 s7 s8;have ad : decide ((k : Int) < (ys.length : Int)) = true:=Qc q6;have ba:=qt2 ys[k].at_ d inn out q6;have hm:=z ys[k] (Kp hk);have ar : ys.take (k + 1) = ys.take k ++ [ys[k]]:=List.take_succ_eq_append_getElem hk;have aj : ∀ e∈ys.take k,e.by_ = 1∨e.by_ = -1:=fun e he=>(z e (List.mem_of_mem_take he)).2;have b0:=qg2 (l:=0) (c:=fun _=>true) aj;have b1:=qg2 (l:=1) (c:=fun _=>true) aj;have ax : (ys.take k).length = k:=by rw [List.length_take];omega
    rw [ax] at b0 b1
    have ae : ∃ v,idxA 2 opn ys[k].list_ = some v∧opn.set ys[k].list_.toNat (w64 (v + ys[k].by_)) = [cnt 0 (fun _=>true) (ys.take (k + 1)),cnt 1 (fun _=>true) (ys.take (k + 1))]:=by
      subst s1;rw [ar,q2q,q2q];rcases hm.1 with h | h
      · refine ⟨cnt 0 (fun _=>true) (ys.take k),by rw [h];rfl,?_⟩;rw [h,Qg q6];simp [cnt,h]
      · refine ⟨cnt 1 (fun _=>true) (ys.take k),by rw [h];rfl,?_⟩;rw [h,Qg q6];simp [cnt,h]
    obtain ⟨v,o1,o2⟩:=ae;refine .inl ⟨([cnt 0 (fun _=>true) (ys.take (k + 1)),cnt 1 (fun _=>true) (ys.take (k + 1))],ys[k].at_,f (decide (0 < cnt 0 (fun _=>true) (ys.take (k + 1)))) (decide (0 < cnt 1 (fun _=>true) (ys.take (k + 1)))),if inn = true∧d≠ys[k].at_ then addS out d ys[k].at_ else out),?_,?_⟩
    · have x0 : ∀ a b : Int,idxA 2 [a,b] 0 = some a:=fun a b=>rfl;have x1 : ∀ a b : Int,idxA 2 [a,b] 1 = some b:=fun a b=>rfl;simp only [q5d,ad,Q3,Qv hk,qk,ba,o1,o2,x0,x1,hp2,Bool.not_true,Q0];rw [Qg q6];rfl
    · have ab : ∀ x,(0 < k→d≤x)→∀ i (h : i < ys.length),i < k→ys[i].at_≤x:=by
        intro x r i hi ai;have:=s3 q6 q6;have:=w i (k - 1) hi q6 q6;have:=r q6;omega
      have ac : ∀ x,x < ys[k].at_→∀ i (h : i < ys.length),k≤i→x < ys[i].at_:=by
        intro x r i hi ai;have:=w k i hk hi ai;omega
      have hF : ∀ x,(0 < k→d≤x)→x < ys[k].at_→f (decide (has p x)) (decide (has q x)) = inn:=by
        intro x r aw;obtain ⟨c1,c2⟩:=qki vp vq g hs k x (ab x r) (ac x aw);rw [s2,decide_eq_decide.2 c1,decide_eq_decide.2 c2]
      have n : 0 < k→d≤ys[k].at_:=by
        intro u;rw [s3 q6 u];exact w (k - 1) k q6 hk q6
      have y : k = 0→inn = false:=by
        intro u;subst u;rw [s2];exact hf
      by_cases s : inn = true∧d≠ys[k].at_
      · have am : 0 < k:=by
          rcases Nat.eq_zero_or_pos k with h | h
          · rw [y h] at s;cases s.1
          · exact h
        have hl:=n am;have au : d < ys[k].at_:=by have:=s.2;omega
        obtain ⟨d1,d2,d3,d4⟩:=qji s4 s5 au;constructor
        · rfl
        · rfl
        · intro h _;rfl
        · simp only [qr s];exact d1
        · simp only [qr s];exact d3
        · omega
        · intro x;simp only [qr s];rw [d2,s7];constructor
          · rintro (⟨u,o,m⟩ | ⟨o,m⟩)
            · exact ⟨q6,q6,m⟩
            · exact ⟨q6,m,by rw [hF x (fun _=>o) m];exact s.1⟩
          · rintro ⟨u,o,m⟩;by_cases r : x < d
            · exact .inl ⟨am,r,m⟩
            · exact .inr ⟨q6,o⟩
        · simp only [qr s];have:=qrd out d ys[k].at_;omega
      · constructor
        · rfl
        · rfl
        · intro h _;rfl
        · simp only [qp s];exact s4
        · simp only [qp s];intro t ht;rcases Nat.eq_zero_or_pos k with h | h
          · rw [s6 h] at ht;cases ht
          · have:=s5 t ht;have:=n h;omega
        · omega
        · intro x;simp only [qp s];rw [s7];constructor
          · rintro ⟨u,o,m⟩;exact ⟨q6,by have:=n u;omega,m⟩
          · rintro ⟨u,o,m⟩;by_cases r : 0 < k∧x < d
            · exact ⟨r.1,r.2,m⟩
            · have ao : 0 < k→d≤x:=fun h=>by
                refine Int.not_lt.1 fun h'=>r ⟨h,h'⟩
              have:=hF x ao o;rw [this] at m;refine absurd ⟨m,?_⟩ s;intro e;rcases Nat.eq_zero_or_pos k with h | h
              · rw [y h] at m;cases m
              · have:=ao h;omega
        · simp only [qp s];omega
  · rintro ⟨opn,d,inn,out⟩ ⟨s1,s2,s3,s4,s5,s6,s7,s8⟩;simp only at s1 s2 s3 s4 s5 s6 s7 s8;have ad : decide ((ys.length : Int) < (ys.length : Int)) = false:=Q9 q6;refine ⟨out,by simp only [q5d,ad,Q0],s4,fun x=>?_⟩;rw [s7];constructor
    · rintro ⟨_,_,h⟩;exact h
    · intro h;by_cases r : 0 < ys.length∧x < d
      · exact ⟨r.1,r.2,h⟩
      · obtain ⟨c1, c2⟩ := qki vp vq g hs ys.length x (fun i hi _ => by
            have:=s3 q6 q6;have:=w i (ys.length - 1) hi q6 q6;have : d≤x:=Int.not_lt.1 fun h'=>r ⟨q6,h'⟩
            omega) (fun i hi bu=>q6)
        have av : ∀ l,cnt l (fun _=>true) (ys.take ys.length) = 0:=by
          intro l;rw [List.take_length,qkm g,q2q];by_cases u : l = 0
          · subst u;rw [qkn,q9l qz];rfl
          · rw [q9l u];by_cases o : l = 1
            · subst o;rw [qkn];rfl
            · rw [q9l o];rfl
        rw [av] at c1 c2;have n1 : ¬ has p x:=fun h=>absurd (c1.2 h) qz;have n2 : ¬ has q x:=fun h=>absurd (c2.2 h) qz;rw [Q9 n1,Q9 n2,hf] at h;cases h
  · constructor
    · simp [cnt]
    · simp [cnt,hf]
    · intro h u;omega
    · exact ⟨fun t ht=>(by cases ht),.nil⟩
    · intro t ht;cases ht
    · intro _;rfl
    · intro x;simp [has]
    · simp
end Go.Sh
namespace Go.Sh
open Go Go.Am
theorem qfx {s : List qn} (h : Yx s = 0) : s.length≤400∧Good s:=by
  unfold Yx at h;split at h
  · cases h
  · split at h
    · rename_i b a;exact ⟨q6,a⟩
    · cases h
def dst (x : Int) (t : qn) : Int:=max (max (t.Lo - x) (x - t.Hi + 1)) 0
end Go.Sh
namespace Go.Sh
open Go Go.Am
noncomputable def Jl (kind : Int) (p q : List qn) : List qn:=(qdu kind p q).getD []
theorem q66 (kind : Int) (p q : List qn) (hp : p.length≤100000) (a : q.length≤100000) : qdu kind p q = some (Jl kind p q)∧qfb kind p q (Jl kind p q):=by
  obtain ⟨out,c,b⟩:=qvk kind p q hp a;unfold Jl;rw [c];exact ⟨rfl,b⟩
noncomputable def opS (kind : Int) (p q : List qn) : List qn × Int:=
  if Yx p≠0 then ([],Yx p) else if Yx q≠0 then ([],Yx q) else if 400 < (Jl kind p q).length then ([],4) else (Jl kind p q,0)
open Classical in
theorem qvd (kind : Int) (f : Bool→Bool→Bool) (c : f false false = false) (h : ∀ a b : Prop,(f (decide a) (decide b) = true↔Y9 kind a b)) (p2 : Bool→Bool→Option Bool) (hp2 : ∀ a b,p2 a b = some (f a b))
    (p q : List qn) (hp : p.length≤500) (m : q.length≤500) (l : ∀ t∈p,vld t) (g : ∀ t∈q,vld t) : q3u p q p2 = some (Jl kind p q):=by
  obtain ⟨out,n,k,d⟩:=qmf f c p2 hp2 p q hp m l g;obtain ⟨_,j⟩:=q66 kind p q q6 q6;rw [n];congr 1;refine q5q k j.can fun x=>?_;rw [d,j.pts,h]
open Classical in
theorem qsy (kind : Int) (f : Bool→Bool→Bool) (k : f false false = false) (o : ∀ a b : Prop,(f (decide a) (decide b) = true↔Y9 kind a b)) (p2 : Bool→Bool→Option Bool) (hp2 : ∀ a b,p2 a b = some (f a b))
    (p q : List qn) : qbt p q p2 = some (opS kind p q):=by
  unfold qbt opS;simp only [qfy,qk];by_cases d : Yx p = 0
  · have g : (Yx p != 0) = false:=by simpa using d
    simp only [g,Q0];simp only [d,ne_eq,not_true_eq_false,if_false];by_cases c : Yx q = 0
    · have j : (Yx q != 0) = false:=by simpa using c
      obtain ⟨r,m⟩:=qfx d;obtain ⟨s,n⟩:=qfx c;simp only [j,Q0,c,not_true_eq_false,if_false,qvd kind f k o p2 hp2 p q q6 q6 m.1 n.1,qk];by_cases l : 400 < (Jl kind p q).length
      · have h : decide (((Jl kind p q).length : Int) > 400) = true:=Qc q6;rw [h,qr l];rfl
      · have h : decide (((Jl kind p q).length : Int) > 400) = false:=Q9 q6;rw [h,qp l];rfl
    · have j : (Yx q != 0) = true:=by simpa using c
      simp only [j,Q3,c,not_false_eq_true,if_true]
  · have g : (Yx p != 0) = true:=by simpa using d
    simp only [g,Q3,d,ne_eq,not_false_eq_true,if_true]
theorem q161 (p q : List qn) : q8t p q = some (opS 2 p q):=by
  classical
  unfold q8t;rw [qsy 2 (fun a b=>a || b) rfl (by intro a b;by_cases c : a <;> by_cases hb : b <;> simp [Y9,c,hb]) _ (by intro a b;cases a <;> rfl)];rfl
theorem qv5 (s : List qn) (b : qn→Option Bool) (c : qn→Bool) (h : ∀ t,b t = some (c t)) (q : s.length≤1000000) :
    ∃ r,qau s b = some r∧decide (r ≥ 0) = s.any c:=by
  have:=J2 (f:=q3o s b) (σ:=Unit) (fun k _=>(k : Int)) s.length (fun k _=>∀ i (h : i < s.length),i < k→c s[i] = false)
    (fun m=>∃ r : Int,(match m with | .inl b22=>some (-1) | .inr x1=>some x1) = some r∧decide (r ≥ 0) = s.any c) ?_ ?_ (k0:=0) (c0:=()) q6 (fun i _ hi=>q6)
  · obtain ⟨m,j,r,p,l⟩:=this;have j : loop (q3o s b) 0 = some m:=j;exact ⟨r,by unfold qau;rw [j];exact p,l⟩
  · rintro k _ g hi;have hb : decide ((k : Int) < (s.length : Int)) = true:=Qc q6
    cases d : c s[k] with
    | true=>
      refine .inr ⟨.inr (k : Int),?_,(k : Int),rfl,?_⟩
      · simp only [q3o,hb,Q3,Qv g,qk,h,d]
      · have : s.any c = true:=List.any_eq_true.2 ⟨s[k],Kp g,d⟩;rw [this];exact Qc q6
    | false=>
      refine .inl ⟨(),?_,?_⟩
      · simp only [q3o,hb,Q3,Qv g,qk,h,d,Q0];rw [Qg q6];rfl
      · intro i a o;by_cases e : i = k
        · subst e;exact d
        · exact hi i a q6
  · rintro _ hi;have hb : decide ((s.length : Int) < (s.length : Int)) = false:=Q9 q6;refine ⟨.inl (),by simp only [q3o,hb,Q0],-1,rfl,?_⟩
    have : s.any c = false:=by
      rw [List.any_eq_false];intro t n;obtain ⟨i,a,rfl⟩:=List.mem_iff_getElem.1 n;simp [hi i a a]
    rw [this];rfl
theorem qti (s : List qn) (a : qn→Option Bool) (c : qn→Bool) (h : ∀ t,a t = some (c t)) (d : s.length≤1000000) : qar s a = some (s.any c):=by
  obtain ⟨r,f,b⟩:=qv5 s a c h d;unfold qar;rw [f,qk,b]
open Classical in
noncomputable def qh6 (s : List qn) : List qn × Int:=if 400 < s.length then ([],4) else if ∀ t∈s,vld t then (Jl 2 s [],0) else ([],8)
theorem qw0 (s : List qn) (k : s.length≤400) (f : ∀ t∈s,vld t) (p2 : Bool→Bool→Option Bool) (hp2 : ∀ a b,p2 a b = some a) : q3u s [] p2 = some (Jl 2 s []):=by
  classical
  obtain ⟨out,h,c,d⟩:=qmf (fun a _=>a) rfl p2 hp2 s [] q6 qg f (fun t g=>by cases g);obtain ⟨_,j⟩:=q66 2 s [] q6 qg;rw [h];congr 1;refine q5q c j.can fun x=>?_;rw [d,j.pts];simp [Y9,q22]
theorem qvz (s : List qn) : q8s s = some (qh6 s):=by
  classical
  unfold q8s qh6;by_cases f : 400 < s.length
  · have e : decide ((s.length : Int) > 400) = true:=Qc q6;rw [e,qr f];rfl
  · have e : decide ((s.length : Int) > 400) = false:=Q9 q6;rw [e,qp f,Q0,qti s _ (fun t=>!decide (vld t)) (fun t=>by show (q3v t).bind _ = _;rw [qqz];rfl) q6,qk];by_cases c : ∀ t∈s,vld t
    · have : (s.any fun t=>!decide (vld t)) = false:=by
        rw [List.any_eq_false];intro t d;simp [c t d]
      rw [this,Q0,qr c,qw0 s q6 c (fun j g=>qbs j g) (fun a b=>rfl)];rfl
    · have : (s.any fun t=>!decide (vld t)) = true:=by
        rw [List.any_eq_true];obtain ⟨t,c⟩:=Classical.not_forall.1 c;obtain ⟨d,h⟩:=Classical.not_imp.1 c;exact ⟨t,d,by simp [h]⟩
      rw [this,Q3,qp c]
def lenL : List qn→Int
  | []=>0
  | t::s=>(t.Hi - t.Lo) + lenL s
theorem qmn (a b : List qn) : lenL (a ++ b) = lenL a + lenL b:=by
  induction a with
  | nil=>simp [lenL]
  | cons t a ih=>simp only [List.cons_append,lenL,ih];omega
theorem qmo : ∀ {s : List qn},(∀ t∈s,vld t)→0≤lenL s∧lenL s≤2000000 * (s.length : Int)
  | [],_=>by simp [lenL]
  | t::s,h=>by
    obtain ⟨f,c⟩:=qmo (fun t a=>h t (List.mem_cons_of_mem _ a))
    obtain ⟨g,d,b⟩:=h t qg
    simp only [lenL,List.length_cons]
    omega
noncomputable def qh1 (s : List qn) : Int × Int:=if Yx s = 0 then (lenL s,0) else (0,Yx s)
theorem qvo (s : List qn) (o : s.length≤400) (g : ∀ t∈s,vld t) : loop (qbr s) (0,0) = some (lenL s)∧loop (qaa s) (0,0) = some (lenL s):=by
  have d : ∀ k,0≤lenL (s.take k)∧lenL (s.take k)≤800000000:=by
    intro k;have:=qmo (s:=s.take k) (fun t n=>g t (List.mem_of_mem_take n));have : (s.take k).length≤400:=by rw [List.length_take];omega
    omega
  constructor
  · have:=J2 (f:=qbr s) (σ:=Int) (fun k c=>(c,(k : Int))) s.length (fun k c=>c = lenL (s.take k)) (fun r=>r = lenL s) ?_ ?_ (k0:=0) (c0:=0) q6 (by simp [lenL])
    · obtain ⟨b,h,rfl⟩:=this;exact h
    · rintro k c a rfl;have hb : decide ((k : Int) < (s.length : Int)) = true:=Qc q6;obtain ⟨m,l,j⟩:=g _ (Kp a);have:=d k;refine .inl ⟨lenL (s.take (k + 1)),?_,rfl⟩;simp only [qbr,hb,Q3,Qv a,qk];rw [Qg (x:=s[k].Hi - s[k].Lo) q6,Qg (x:=lenL (s.take k) + _) q6,Qg q6,List.take_succ_eq_append_getElem a,qmn];simp only [lenL,Int.add_zero];rfl
    · rintro c rfl;have hb : decide ((s.length : Int) < (s.length : Int)) = false:=Q9 q6;exact ⟨_,by simp only [qbr,hb,Q0];rfl,by rw [List.take_length]⟩
  · have:=J2 (f:=qaa s) (σ:=Int) (fun k c=>(c,(k : Int))) s.length (fun k c=>c = lenL (s.take k)) (fun r=>r = lenL s) ?_ ?_ (k0:=0) (c0:=0) q6 (by simp [lenL])
    · obtain ⟨b,h,rfl⟩:=this;exact h
    · rintro k c a rfl;have hb : decide ((k : Int) < (s.length : Int)) = true:=Qc q6;obtain ⟨m,l,j⟩:=g _ (Kp a);have:=d k;refine .inl ⟨lenL (s.take (k + 1)),?_,rfl⟩;simp only [qaa,hb,Q3,Qv a,qk];rw [Qg (x:=lenL (s.take k) + s[k].Hi) q6,Qg (x:=lenL (s.take k) + s[k].Hi - _) q6,Qg q6,List.take_succ_eq_append_getElem a,qmn];have : lenL (s.take k) + s[k].Hi - s[k].Lo = lenL (s.take k) + lenL [s[k]]:=by simp only [lenL];omega
      rw [this];rfl
    · rintro c rfl;have hb : decide ((s.length : Int) < (s.length : Int)) = false:=Q9 q6;exact ⟨_,by simp only [qaa,hb,Q0];rfl,by rw [List.take_length]⟩
theorem q16w (s : List qn) : qpt s = some (qh1 s)∧qo3 s = some (qh1 s):=by
  unfold qpt qo3 qh1;simp only [qfy,qyh,qk];by_cases h : Yx s = 0
  · obtain ⟨d,c⟩:=qfx h;obtain ⟨a,b⟩:=qvo s d c.1;have e : (Yx s != 0) = false:=by simpa using h
    simp only [e,Q0,a,b,qk];simp only [h,if_true];exact ⟨trivial,trivial⟩
  · have e : (Yx s != 0) = true:=by simpa using h
    simp only [e,Q3,qp h];exact ⟨trivial,trivial⟩
end Go.Sh
set_option maxHeartbeats 4000000
namespace Go.Sh
open Go Go.Am
def sg (a b : Int) : Int:=if a < b then -1 else 0
theorem Jf {a b : Int} : decide (sg a b < 0) = decide (a < b):=by
  unfold sg;by_cases h : a < b <;> simp [h]
def qO (a b : Int) : Option Int:=some (sg a b)
theorem Jo (a b : Int) : qO a b = some (sg a b):=rfl
theorem Jm (a b : Int) : Zf a b = some (decide (a < b)):=by
  unfold Zf q9k;have : (a != a) = false:=by simp
  simp []
theorem q145 : qes = q61:=rfl
theorem q128 : (fun a=>q3b a) = (fun a=>q49 a):=by
  funext a;simp only [q3b,q49,q145]
  all_goals exact K5
theorem q129  : ∀ a,q3b a = q49 a:=fun a=>(congrFun q128 a)
theorem q127 : (fun a=>q1d a) = (fun a=>q1s a):=by
  funext a;simp only [q1d,q1s,q129]
  all_goals exact K5
theorem qpa  : ∀ a,q1d a = q1s a:=fun a=>(congrFun q127 a)
theorem q12s : (fun a=>q7u a) = (fun a=>Uk a qO):=by
  funext a a443;simp only [q7u,Uk,Jm,Jo,qk,Jf]
  all_goals exact K5
theorem q12t  : ∀ a,q7u a = Uk a qO:=fun a=>(congrFun q12s a)
theorem q12q : (fun p2 a=>q7t p2 a) = (fun p2 a=>q1w p2 a qO):=by
  funext p2 a a270;simp only [q7t,q1w,q12t]
  all_goals exact K5
theorem q12r  : ∀ p2 a,q7t p2 a = q1w p2 a qO:=fun p2 a=>(congrFun (congrFun q12q p2) a)
theorem q12o : (fun a b p2=>q7s a b p2) = (fun a b p2=>q31 qO a b p2):=by
  funext a b p2;simp only [q7s,q31,q12r]
  all_goals exact K5
theorem q12p  : ∀ a b p2,q7s a b p2 = q31 qO a b p2:=fun a b p2=>(congrFun (congrFun (congrFun q12o a) b) p2)
theorem q143 : (fun p2 p3=>q8g p2 p3) = (fun p2 p3=>Un p2 p3 qO):=by
  funext p2 p3 a193;simp only [q8g,Un,Jm,Jo,qk,Jf]
  all_goals exact K5
theorem q144  : ∀ p2 p3,q8g p2 p3 = Un p2 p3 qO:=fun p2 p3=>(congrFun (congrFun q143 p2) p3)
theorem q142 : (fun b a p2 p3=>q58 b a p2 p3) = (fun b a p2 p3=>q1b qO b a p2 p3):=by
  funext b a p2 p3;simp only [q58,q1b,q144]
  all_goals exact K5
theorem qpc  : ∀ b a p2 p3,q58 b a p2 p3 = q1b qO b a p2 p3:=fun b a p2 p3=>(congrFun (congrFun (congrFun (congrFun q142 b) a) p2) p3)
theorem q12k : (fun p2 a=>q7q p2 a) = (fun p2 a=>q1u qO p2 a):=by
  funext p2 a a123;simp only [q7q,q1u,qpc]
  all_goals exact K5
theorem q12l  : ∀ p2 a,q7q p2 a = q1u qO p2 a:=fun p2 a=>(congrFun (congrFun q12k p2) a)
theorem q12m : (fun a=>q7r a) = (fun a=>q1v a qO):=by
  funext a a191;simp only [q7r,q1v,qpc]
  all_goals exact K5
theorem q12n  : ∀ a,q7r a = q1v a qO:=fun a=>(congrFun q12m a)
theorem q12i : (fun a b p2=>q7p a b p2) = (fun a b p2=>q30 qO a b p2):=by
  funext a b p2;simp only [q7p,q30,q12l,q12n]
  all_goals exact K5
theorem q12j  : ∀ a b p2,q7p a b p2 = q30 qO a b p2:=fun a b p2=>(congrFun (congrFun (congrFun q12i a) b) p2)
theorem q12x : (fun a=>q2b a) = (fun a=>q32 a):=by
  funext a;simp only [q2b,q32,qpa]
  all_goals exact K5
theorem q12y  : ∀ a,q2b a = q32 a:=fun a=>(congrFun q12x a)
theorem q146 : (fun a=>q2c a) = (fun a=>q36 a):=by
  funext a;simp only [q2c,q36]
  all_goals exact K5
theorem q147  : ∀ a,q2c a = q36 a:=fun a=>(congrFun q146 a)
theorem q12e : (fun b p2 a=>q7n b p2 a) = (fun b p2 a=>q12 b p2 a):=by
  funext b p2 a a153;simp only [q7n,q12,q147]
  all_goals exact K5
theorem q12f  : ∀ b p2 a,q7n b p2 a = q12 b p2 a:=fun b p2 a=>(congrFun (congrFun (congrFun q12e b) p2) a)
theorem q12c : (fun a b p2=>q7m a b p2) = (fun a b p2=>q1t qO a b p2):=by
  funext a b p2;simp only [q7m,q1t,q12y,q12f]
  all_goals exact K5
theorem q12d  : ∀ a b p2,q7m a b p2 = q1t qO a b p2:=fun a b p2=>(congrFun (congrFun (congrFun q12c a) b) p2)
theorem q12z : (fun b a p2 p3=>q3q b a p2 p3) = (fun b a p2 p3=>q14 qO b a p2 p3):=by
  funext b a p2 p3;simp only [q3q,q14,Jm,Jo,qk,Jf]
  all_goals exact K5
theorem q130  : ∀ b a p2 p3,q3q b a p2 p3 = q14 qO b a p2 p3:=fun b a p2 p3=>(congrFun (congrFun (congrFun (congrFun q12z b) a) p2) p3)
theorem q12u : (fun b a p2 p3 p4=>q52 b a p2 p3 p4) = (fun b a p2 p3 p4=>q13 qO b a p2 p3 p4):=by
  funext b a p2 p3 p4;simp only [q52,q13,q130]
  all_goals exact K5
theorem qpb  : ∀ b a p2 p3 p4,q52 b a p2 p3 p4 = q13 qO b a p2 p3 p4:=fun b a p2 p3 p4=>(congrFun (congrFun (congrFun (congrFun (congrFun q12u b) a) p2) p3) p4)
theorem q12v : (fun a b p2=>q3p a b p2) = (fun a b p2=>Ul qO a b p2):=by
  funext a b p2;simp only [q3p,Ul,qpb]
  all_goals exact K5
theorem q12w  : ∀ a b p2,q3p a b p2 = Ul qO a b p2:=fun a b p2=>(congrFun (congrFun (congrFun q12v a) b) p2)
theorem q12g : (fun a b p2=>q7o a b p2) = (fun a b p2=>q2z a b p2 qO):=by
  funext a b p2;simp only [q7o,q2z,qpb,q12w]
  all_goals exact K5
theorem q12h  : ∀ a b p2,q7o a b p2 = q2z a b p2 qO:=fun a b p2=>(congrFun (congrFun (congrFun q12g a) b) p2)
theorem q141 : qbk = q35:=by
  funext a119;simp only [qbk,q35]
  all_goals exact K5
theorem q13z : (fun a b p2=>q8e a b p2) = (fun a b p2=>q21 qO a b p2):=by
  funext a b p2;simp only [q8e,q21,q141]
  all_goals exact K5
theorem q140  : ∀ a b p2,q8e a b p2 = q21 qO a b p2:=fun a b p2=>(congrFun (congrFun (congrFun q13z a) b) p2)
theorem q135 : (fun p2 a=>q7y p2 a) = (fun p2 a=>q15 p2 a qO):=by
  funext p2 a a667;simp only [q7y,q15,Jm,Jo,qk,Jf]
  all_goals exact K5
theorem q136  : ∀ p2 a,q7y p2 a = q15 p2 a qO:=fun p2 a=>(congrFun (congrFun q135 p2) a)
theorem q137 : qb7 = q16 qO:=by
  funext a822;simp only [qb7,q16,Jm,Jo,qk,Jf]
  all_goals exact K5
theorem q138 : (fun p2 a=>q7z p2 a) = (fun p2 a=>q17 p2 qO a):=by
  funext p2 a a912;simp only [q7z,q17,Jm,Jo,qk,Jf]
  all_goals exact K5
theorem q139  : ∀ p2 a,q7z p2 a = q17 p2 qO a:=fun p2 a=>(congrFun (congrFun q138 p2) a)
theorem q133 : (fun p2 a=>q55 p2 a) = (fun p2 a=>J9 p2 qO a):=by
  funext p2 a a432;have b : @q55.match_1.{1} = @J9.match_1.{1} Int:=by funext motive m f g;cases m <;> rfl
  unfold q55 J9;rw [b];simp only [q136,q137,q139]
  all_goals repeat' first | with_reducible rfl | (congr 1) | funext _
  done
theorem q134  : ∀ p2 a,q55 p2 a = J9 p2 qO a:=fun p2 a=>(congrFun (congrFun q133 p2) a)
theorem q131 : (fun a b p2=>q54 a b p2) = (fun a b p2=>Um qO a b p2):=by
  funext a b p2;have c : @q54.match_1.{1} = @Um.match_1.{1} Int:=by funext motive m f g;cases m <;> rfl
  unfold q54 Um;rw [c];simp only [q134]
  all_goals repeat' first | with_reducible rfl | (congr 1) | funext _
  done
theorem q132  : ∀ a b p2,q54 a b p2 = Um qO a b p2:=fun a b p2=>(congrFun (congrFun (congrFun q131 a) b) p2)
theorem q13f : (fun a b=>q82 a b) = (fun a b=>q18 a b qO):=by
  funext a b a360;simp only [q82,q18,Jm,Jo,qk,Jf]
  all_goals exact K5
theorem q13g  : ∀ a b,q82 a b = q18 a b qO:=fun a b=>(congrFun (congrFun q13f a) b)
theorem q13h : (fun a b c=>q83 a b c) = (fun a b c=>q19 a b c qO):=by
  funext a b c a439;simp only [q83,q19,Jm,Jo,qk,Jf]
  all_goals exact K5
theorem q13i  : ∀ a b c,q83 a b c = q19 a b c qO:=fun a b c=>(congrFun (congrFun (congrFun q13h a) b) c)
theorem q13d : (fun a=>q81 a) = (fun a=>q1z a qO):=by
  funext a a304;simp only [q81,q1z,q13g,q13i]
  all_goals exact K5
theorem q13e  : ∀ a,q81 a = q1z a qO:=fun a=>(congrFun q13d a)
theorem q13b : (fun b a p2 p3=>q80 b a p2 p3) = (fun b a p2 p3=>q1y qO b a p2 p3):=by
  funext b a p2 p3;simp only [q80,q1y,q13e]
  all_goals exact K5
theorem q13c  : ∀ b a p2 p3,q80 b a p2 p3 = q1y qO b a p2 p3:=fun b a p2 p3=>(congrFun (congrFun (congrFun (congrFun q13b b) a) p2) p3)
theorem q13k : (fun p2 d c b p3 a=>q85 p2 d c b p3 a) = (fun p2 d c b p3 a=>q33 p2 d c b p3 a qO):=by
  funext p2 d c b p3 a a159;simp only [q85,q33,Jm,Jo,qk,Jf]
  all_goals exact K5
theorem q13l  : ∀ p2 d c b p3 a,q85 p2 d c b p3 a = q33 p2 d c b p3 a qO:=fun p2 d c b p3 a=>(congrFun (congrFun (congrFun (congrFun (congrFun (congrFun q13k p2) d) c) b) p3) a)
theorem q13m : (fun c f d b p3 a=>q86 c f d b p3 a) = (fun c f d b p3 a=>q34 c f d b p3 a qO):=by
  funext c f d b p3 a a239;simp only [q86,q34,Jm,Jo,qk,Jf]
  all_goals exact K5
theorem q13n  : ∀ c f d b p3 a,q86 c f d b p3 a = q34 c f d b p3 a qO:=fun c f d b p3 a=>(congrFun (congrFun (congrFun (congrFun (congrFun (congrFun q13m c) f) d) b) p3) a)
theorem q13q : (fun a b=>q88 a b) = (fun a b=>Jj a b qO):=by
  funext a b a542;simp only [q88,Jj,Jm,Jo,qk,Jf]
  all_goals exact K5
theorem q13r  : ∀ a b,q88 a b = Jj a b qO:=fun a b=>(congrFun (congrFun q13q a) b)
theorem q13s : (fun a b c=>q89 a b c) = (fun a b c=>Jk a b c qO):=by
  funext a b c a622;simp only [q89,Jk,Jm,Jo,qk,Jf]
  all_goals exact K5
theorem q13t  : ∀ a b c,q89 a b c = Jk a b c qO:=fun a b c=>(congrFun (congrFun (congrFun q13s a) b) c)
theorem q13o : (fun a=>q87 a) = (fun a=>q20 a qO):=by
  funext a a488;simp only [q87,q20,q13r,q13t]
  all_goals exact K5
theorem q13p  : ∀ a,q87 a = q20 a qO:=fun a=>(congrFun q13o a)
theorem q13a : (fun b a p2 p3=>q84 b a p2 p3) = (fun b a p2 p3=>q1x qO b a p2 p3):=by
  funext b a p2 p3;simp only [q84,q1x,q13l,q13n,q13p]
  all_goals exact K5
theorem q13j  : ∀ b a p2 p3,q84 b a p2 p3 = q1x qO b a p2 p3:=fun b a p2 p3=>(congrFun (congrFun (congrFun (congrFun q13a b) a) p2) p3)
theorem q13v : (fun a=>q56 a) = (fun a=>Zx qO a):=by
  funext a a305;have b : @q56.match_1.{1} = @Zx.match_1.{1} Int:=by funext motive m f g;cases m <;> rfl
  unfold q56 Zx;rw [b];simp only [q12p,q12j,q12d,q12h,q140,q132,q13c,q13j,Jm,Jo,qk,Jf]
  all_goals repeat' first | with_reducible rfl | (congr 1) | funext _
  done
theorem q13w  : ∀ a,q56 a = Zx qO a:=fun a=>(congrFun q13v a)
theorem q13x : (fun a c b p2 p3=>q57 a c b p2 p3) = (fun a c b p2 p3=>q1a a qO c b p2 p3):=by
  funext a c b p2 p3;simp only [q57,q1a,q13w]
  all_goals exact K5
theorem q13y  : ∀ a c b p2 p3,q57 a c b p2 p3 = q1a a qO c b p2 p3:=fun a c b p2 p3=>(congrFun (congrFun (congrFun (congrFun (congrFun q13x a) c) b) p2) p3)
theorem q13u : ∀ N,q8d N = Zp N qO:=by
  intro N
  induction N with
  | zero=>rfl
  | succ N ih=>
    funext a b c d;show q57 (q8d N) a b c d = q1a (Zp N qO) qO a b c d;rw [ih,q13y]
theorem q12a : (fun a=>Ud a) = (fun a=>q2y qO a):=by
  funext a;simp only [Ud,q2y,qpa,q13u]
  all_goals exact K5
theorem q12b  : ∀ a,Ud a = q2y qO a:=fun a=>(congrFun q12a a)
end Go.Sh
