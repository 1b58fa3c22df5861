/- Pg4 Pg5 Pg6 Pj1 Pj2 Pl4 Pj3 Po1 -/
import Derived.Test.YtbknppciefodiaaGreatK9
namespace Go.Sh
open Go Go.Am
section
variable {T : Type} [Inhabited T] {P : T→Prop} {lt : T→T→Bool} {q : T→T→Option Int}
theorem qh1 {f : Int→Option (Int ⊕ Int)} (p : T→Bool) (d : Array T) (j : Nat)
    (b : ∀ k : Nat,k≤1000002→f (k : Int) = if (decide (k≤j) && p d[k]!) = true then some (.inl ((k + 1 : Nat) : Int)) else some (.inr (k : Int))) (g : j≤1000000) :
    ∀ (m i : Nat),j + 1 - i = m→i≤1000002→loop f (i : Int) = some ((Sort.scanUp p d j i : Nat) : Int):=by
  intro m
  induction m with
  | zero=>
    intro i c hi;unfold Sort.scanUp;have a : ¬ (decide (i≤j) && p d[i]!) = true:=by simp;omega
    rw [qp a];exact Kh (by rw [b i hi,qp a])
  | succ m ih=>
    intro i c hi;unfold Sort.scanUp;by_cases a : (decide (i≤j) && p d[i]!) = true
    · rw [qr a,Y3 (by rw [b i hi,qr a])];exact ih (i + 1) q6 q6
    · rw [qp a];exact Kh (by rw [b i hi,qp a])
theorem qdb {f : Int→Option (Int ⊕ Int)} (p : T→Bool) (d : Array T) (i n : Nat) (hi : 1≤i)
    (b : ∀ k : Nat,k < n→f (k : Int) = if (decide (i≤k) && p d[k]!) = true then some (.inl ((k - 1 : Nat) : Int)) else some (.inr (k : Int))) :
    ∀ (j : Nat),j < n→loop f (j : Int) = some ((Sort.scanDown p d i j : Nat) : Int)
  | 0,hj=>by
    have a : ¬ (decide (i≤0) && p d[0]!) = true:=by simp;omega
    exact Kh (by rw [b 0 hj,qp a];rfl)
  | j + 1,hj=>by
    unfold Sort.scanDown
    by_cases a : (decide (i≤j + 1) && p d[j + 1]!) = true
    · rw [qr a,Y3 (by rw [b (j + 1) hj,qr a])]
      exact qdb p d i n hi b j q6
    · rw [qp a]
      exact Kh (by rw [b (j + 1) hj,qp a])
theorem qm3 (l : Kx q lt P) {n : Nat} {d : Array T} (hd : AllP n P d) {a j : Nat} (g : a < n) (m : j < n) (x : Int) (k : Nat) (o : k≤1000002) :
    Jb (x,(j : Int),d.toList) (a : Int) q (k : Int) = if (decide (k≤j) && (fun x=>lt x d[a]!) d[k]!) = true then some (.inl ((k + 1 : Nat) : Int)) else some (.inr (k : Int)):=by
  have b:=hd.1;by_cases h : k≤j
  · obtain ⟨r,c,f⟩:=l d[k]! d[a]! (hd.2.2 _ q6) (hd.2.2 _ g);have t : decide ((k : Int)≤(j : Int)) = true:=Q8 q6;simp only [Jb,t,Q1,gx (d:=d) (k:=k) q6,gx (d:=d) (k:=a) q6,qj,c,f,w1p k q6];simp only [Q8 h,Bool.true_and,Bool.cond_eq_ite]
  · have t : decide ((k : Int)≤(j : Int)) = false:=Q7 q6;simp only [Jb,t,qy,qj];simp [h]
theorem qm4 (g : Kx q lt P) {n : Nat} {d : Array T} (hd : AllP n P d) {a i : Nat} (j : a < n) (hi : 1≤i) (x y : Int) (k : Nat) (m : k < n) :
    Jc (i : Int) (x,y,d.toList) (a : Int) q (k : Int) = if (decide (i≤k) && (fun x=>!lt x d[a]!) d[k]!) = true then some (.inl ((k - 1 : Nat) : Int)) else some (.inr (k : Int)):=by
  have b:=hd.1;have l:=hd.2.1;by_cases h : i≤k
  · obtain ⟨r,c,f⟩:=g d[k]! d[a]! (hd.2.2 _ q6) (hd.2.2 _ j);have t : decide ((i : Int)≤(k : Int)) = true:=Q8 q6;have w : w64 ((k : Int) - 1) = ((k - 1 : Nat) : Int):=by rw [Qg q6];omega
    simp only [Jc,t,Q1,gx (d:=d) (k:=k) q6,gx (d:=d) (k:=a) q6,qj,c,f,w];simp only [Q8 h,Bool.true_and,Bool.cond_eq_ite]
  · have t : decide ((i : Int)≤(k : Int)) = false:=Q7 q6;simp only [Jc,t,qy,qj];simp [h]
theorem qvp (l : Kx q lt P) {n : Nat} {d : Array T} (hd : AllP n P d) {a j : Nat} (g : a < n) (m : j < n) (x : Int) (k : Nat) (o : k≤1000002) :
    Ux (x,(j : Int),d.toList) (a : Int) q (k : Int) = if (decide (k≤j) && (fun x=>!lt d[a]! x) d[k]!) = true then some (.inl ((k + 1 : Nat) : Int)) else some (.inr (k : Int)):=by
  have b:=hd.1;by_cases h : k≤j
  · obtain ⟨r,c,f⟩:=l d[a]! d[k]! (hd.2.2 _ g) (hd.2.2 _ q6);have t : decide ((k : Int)≤(j : Int)) = true:=Q8 q6;simp only [Ux,t,Q1,gx (d:=d) (k:=k) q6,gx (d:=d) (k:=a) q6,qj,c,f,w1p k q6];simp only [Q8 h,Bool.true_and,Bool.cond_eq_ite]
  · have t : decide ((k : Int)≤(j : Int)) = false:=Q7 q6;simp only [Ux,t,qy,qj];simp [h]
theorem qvq (g : Kx q lt P) {n : Nat} {d : Array T} (hd : AllP n P d) {a i : Nat} (j : a < n) (hi : 1≤i) (x y : Int) (k : Nat) (m : k < n) :
    Uy (i : Int) (x,y,d.toList) (a : Int) q (k : Int) = if (decide (i≤k) && (fun x=>lt d[a]! x) d[k]!) = true then some (.inl ((k - 1 : Nat) : Int)) else some (.inr (k : Int)):=by
  have b:=hd.1;have l:=hd.2.1;by_cases h : i≤k
  · obtain ⟨r,c,f⟩:=g d[a]! d[k]! (hd.2.2 _ j) (hd.2.2 _ q6);have t : decide ((i : Int)≤(k : Int)) = true:=Q8 q6;have w : w64 ((k : Int) - 1) = ((k - 1 : Nat) : Int):=by rw [Qg q6];omega
    simp only [Uy,t,Q1,gx (d:=d) (k:=k) q6,gx (d:=d) (k:=a) q6,qj,c,f,w];simp only [Q8 h,Bool.true_and,Bool.cond_eq_ite]
  · have t : decide ((i : Int)≤(k : Int)) = false:=Q7 q6;simp only [Uy,t,qy,qj];simp [h]
theorem qvk (r : Kx q lt P) (a n : Nat) (v : a < n) : ∀ (m i j : Nat) (d : Array T),j + 1 - i = m→AllP n P d→1≤i→i≤n + 1→j < n→
    loop (q1l (a : Int) q) ((i : Int),(j : Int),d.toList) = some (((Sort.partLoop lt a i j d).1 : Int),(Sort.partLoop lt a i j d).2.toList)∧AllP n P (Sort.partLoop lt a i j d).2∧(Sort.partLoop lt a i j d).1 < n:=by
  intro m
  induction m using Nat.strongRecOn with
  | _ m ih=>
    intro i j d hm hd hi ac u;have z:=hd.1;have hn:=hd.2.1;rw [Sort.partLoop_eq];have p:=qh1 (f:=Jb ((i : Int),(j : Int),d.toList) (a : Int) q) (fun x=>lt x d[a]!) d j (fun k o=>qm3 r hd v u _ k o) q6 _ i rfl q6;have g1:=Sort.scanUp_ge (fun x=>lt x d[a]!) d j i;have y:=(Sort.scanUp_spec (fun x=>lt x d[a]!) d j _ i rfl).2.1;generalize Sort.scanUp (fun x=>lt x d[a]!) d j i = c at p g1 y ⊢;have l:=qdb (f:=Jc (c : Int) ((i : Int),(j : Int),d.toList) (a : Int) q) (fun x=>!lt x d[a]!) d c n q6 (fun k o=>qm4 r hd v q6 _ _ k o) j u;have g2:=Sort.scanDown_le (fun x=>!lt x d[a]!) d c j;generalize Sort.scanDown (fun x=>!lt x d[a]!) d c j = g at l g2 ⊢;by_cases s : c > g
    · rw [qr s];have t : decide ((c : Int) > (g : Int)) = true:=Q8 q6;refine ⟨Kh ?_,hd,by show g < n;omega⟩;simp only [q1l,p,l,qj,t,Q1]
    · rw [qp s];have t : decide ((c : Int) > (g : Int)) = false:=Q7 q6;have h:=ih ((g - 1) + 1 - (c + 1)) q6 (c + 1) (g - 1) _ rfl (hd.swp (a:=c) (b:=g) q6 q6) q6 q6 q6;refine ⟨?_,h.2⟩;rw [Y3 (a':=(((c + 1 : Nat) : Int),((g - 1 : Nat) : Int),(Sort.swp d c g).toList)) ?_]
      · exact h.1
      · have w : w64 ((g : Int) - 1) = ((g - 1 : Nat) : Int):=by rw [Qg q6];omega
        simp only [q1l,p,l,qj,t,qy,gx (d:=d) (k:=c) q6,gx (d:=d) (k:=g) q6,gxs (d:=d) (k:=g) q6,Int.toNat_natCast,gswp,w,w1p c q6]
theorem qvj (p : Kx q lt P) (a n : Nat) (u : a < n) : ∀ (m i j : Nat) (d : Array T),j + 1 - i = m→AllP n P d→1≤i→i≤n + 1→j < n→
    loop (q1k (a : Int) q) ((i : Int),(j : Int),d.toList) = some (((Sort.partEqLoop lt a i j d).1 : Int),(Sort.partEqLoop lt a i j d).2.toList):=by
  intro m
  induction m using Nat.strongRecOn with
  | _ m ih=>
    intro i j d hm hd hi ab s;have y:=hd.1;have hn:=hd.2.1;rw [Sort.partEqLoop_eq];have o:=qh1 (f:=Ux ((i : Int),(j : Int),d.toList) (a : Int) q) (fun x=>!lt d[a]! x) d j (fun k l=>qvp p hd u s _ k l) q6 _ i rfl q6;have g1:=Sort.scanUp_ge (fun x=>!lt d[a]! x) d j i;have v:=(Sort.scanUp_spec (fun x=>!lt d[a]! x) d j _ i rfl).2.1;generalize Sort.scanUp (fun x=>!lt d[a]! x) d j i = c at o g1 v ⊢;have h:=qdb (f:=Uy (c : Int) ((i : Int),(j : Int),d.toList) (a : Int) q) (fun x=>lt d[a]! x) d c n q6 (fun k l=>qvq p hd u q6 _ _ k l) j s;have z:=Sort.scanDown_le (fun x=>lt d[a]! x) d c j;generalize Sort.scanDown (fun x=>lt d[a]! x) d c j = g at h z ⊢;by_cases r : c > g
    · rw [qr r];have t : decide ((c : Int) > (g : Int)) = true:=Q8 q6;refine Kh ?_;simp only [q1k,o,h,qj,t,Q1]
    · rw [qp r];have t : decide ((c : Int) > (g : Int)) = false:=Q7 q6;rw [Y3 (a':=(((c + 1 : Nat) : Int),((g - 1 : Nat) : Int),(Sort.swp d c g).toList)) ?_]
      · exact ih ((g - 1) + 1 - (c + 1)) q6 (c + 1) (g - 1) _ rfl (hd.swp (a:=c) (b:=g) q6 q6) q6 q6 q6
      · have w : w64 ((g : Int) - 1) = ((g - 1 : Nat) : Int):=by rw [Qg q6];omega
        simp only [q1k,o,h,qj,t,qy,gx (d:=d) (k:=c) q6,gx (d:=d) (k:=g) q6,gxs (d:=d) (k:=g) q6,Int.toNat_natCast,gswp,w,w1p c q6]
theorem qvm (g : Kx q lt P) {a b n p : Nat} (hb : b≤n) (f : a < b) (hp : p < n) {d : Array T} (hd : AllP n P d) :
    q1j q d.toList (a : Int) (b : Int) (p : Int) = some (((Sort.partitionEqual lt d a b p).1 : Int),(Sort.partitionEqual lt d a b p).2.toList):=by
  have c:=hd.1;have h:=hd.2.1;have w : w64 ((b : Int) - 1) = ((b - 1 : Nat) : Int):=by rw [Qg q6];omega
  have s:=qvj g a n q6 _ (a + 1) (b - 1) _ rfl (hd.swp (a:=a) (b:=p) q6 hp) q6 q6 q6;unfold q1j Sort.partitionEqual;simp only [gx (d:=d) (k:=p) q6,gx (d:=d) (k:=a) q6,gxs (d:=d) (k:=p) q6,qj,Int.toNat_natCast,gswp,w,w1p a q6,s]
theorem qvn (j : Kx q lt P) {a b n p : Nat} (hb : b≤n) (aa : a < b) (hp : p < n) {d : Array T} (hd : AllP n P d) :
    q1i q d.toList (a : Int) (b : Int) (p : Int) = some (((Sort.partition lt d a b p).1 : Int),(Sort.partition lt d a b p).2.1,(Sort.partition lt d a b p).2.2.toList):=by
  have z:=hd.1;have hn:=hd.2.1;have w : w64 ((b : Int) - 1) = ((b - 1 : Nat) : Int):=by rw [Qg q6];omega
  have h:=hd.swp (a:=a) (b:=p) q6 hp
  have e1 : q2l (b : Int) d.toList (a : Int) d[p]! (p : Int) d[a]! q = Jb ((0 : Int),((b - 1 : Nat) : Int),(Sort.swp d a p).toList) (a : Int) q:=by
    funext k;simp only [q2l,Jb,w,Int.toNat_natCast,gswp]
  have u : ∀ c : Int,q2m c d.toList (a : Int) d[p]! (p : Int) d[a]! q = Jc c ((0 : Int),(0 : Int),(Sort.swp d a p).toList) (a : Int) q:=by
    intro c;funext k;simp only [q2m,Jc,Int.toNat_natCast,gswp]
  unfold q1i Sort.partition;simp only [gx (d:=d) (k:=p) q6,gx (d:=d) (k:=a) q6,gxs (d:=d) (k:=p) q6,qj,e1,u,Int.toNat_natCast,gswp,w,w1p a q6];generalize Sort.swp d a p = D at h ⊢;have y:=h.1;have s:=qh1 (f:=Jb ((0 : Int),((b - 1 : Nat) : Int),D.toList) (a : Int) q) (fun x=>lt x D[a]!) D (b - 1) (fun k l=>qm3 j h q6 q6 _ k l) q6 _ (a + 1) rfl q6;have g1:=Sort.scanUp_ge (fun x=>lt x D[a]!) D (b - 1) (a + 1);generalize Sort.scanUp (fun x=>lt x D[a]!) D (b - 1) (a + 1) = c at s g1 ⊢;have m:=qdb (f:=Jc (c : Int) ((0 : Int),(0 : Int),D.toList) (a : Int) q) (fun x=>!lt x D[a]!) D c n q6 (fun k l=>qm4 j h q6 q6 _ _ k l) (b - 1) q6;have g2:=Sort.scanDown_le (fun x=>!lt x D[a]!) D c (b - 1);generalize Sort.scanDown (fun x=>!lt x D[a]!) D c (b - 1) = g at m g2 ⊢;simp only [s,m,qj];by_cases r : c > g
  · have t : decide ((c : Int) > (g : Int)) = true:=Q8 q6;simp only [qr r,t,Q1,gx (d:=D) (k:=a) q6,gx (d:=D) (k:=g) q6,gxs (d:=D) (k:=a) q6,qj,Int.toNat_natCast,gswp]
  · have t : decide ((c : Int) > (g : Int)) = false:=Q7 q6;have w2 : w64 ((g : Int) - 1) = ((g - 1 : Nat) : Int):=by rw [Qg q6];omega
    obtain ⟨s3,o,b3⟩:=qvk j a n q6 _ (c + 1) (g - 1) _ rfl (h.swp (a:=c) (b:=g) q6 q6) q6 q6 q6;simp only [qp r,t,qy,gx (d:=D) (k:=c) q6,gx (d:=D) (k:=g) q6,gxs (d:=D) (k:=g) q6,qj,Int.toNat_natCast,gswp,w2,w1p c q6,s3];generalize Sort.partLoop lt a (c + 1) (g - 1) (Sort.swp D c g) = R at o b3 ⊢;have v:=o.1;simp only [gx (d:=R.2) (k:=a) q6,gx (d:=R.2) (k:=R.1) q6,gxs (d:=R.2) (k:=a) q6,qj,Int.toNat_natCast,gswp]
theorem qxn (l : Kx q lt P) {b n : Nat} (hb : b≤n) {d : Array T} (hd : AllP n P d) (x y : Int) : ∀ (m i : Nat),b - i = m→1≤i→i≤b→
    loop (Uu (b : Int) (x,y,d.toList) q) (i : Int) = some ((Sort.scanSorted lt d b i : Nat) : Int)∧i≤Sort.scanSorted lt d b i∧Sort.scanSorted lt d b i≤b:=by
  have j:=hd.1;have p:=hd.2.1;intro m
  induction m with
  | zero=>
    intro i o hi a;unfold Sort.scanSorted;rw [qp (by simp;omega)];have t : decide ((i : Int) < (b : Int)) = false:=Q7 q6;exact ⟨Kh (by simp only [Uu,t,qy,qj]),Nat.le_refl _,a⟩
  | succ m ih=>
    intro i o hi a;unfold Sort.scanSorted;have t : decide ((i : Int) < (b : Int)) = true:=Q8 q6;have w : w64 ((i : Int) - 1) = ((i - 1 : Nat) : Int):=by rw [Qg q6];omega
    obtain ⟨r,g,h⟩:=l d[i]! d[i - 1]! (hd.2.2 _ q6) (hd.2.2 _ q6);by_cases c : lt d[i]! d[i - 1]! = true
    · rw [qp (by simp [c])];refine ⟨Kh ?_,Nat.le_refl _,a⟩;simp only [Uu,t,Q1,w,gx (d:=d) (k:=i) q6,gx (d:=d) (k:=i - 1) q6,qj,g,h,c,Bool.not_true,qy]
    · have c : lt d[i]! d[i - 1]! = false:=by simpa using c
      rw [qr (by simp [c];omega)];have f:=ih (i + 1) q6 q6 q6;refine ⟨?_,q6,f.2.2⟩;rw [Y3 (a':=((i + 1 : Nat) : Int)) ?_]
      · exact f.1
      · simp only [Uu,t,Q1,w,gx (d:=d) (k:=i) q6,gx (d:=d) (k:=i - 1) q6,qj,g,h,c,Bool.not_false,w1p i q6]
theorem qnf (l : Kx q lt P) (n : Nat) : ∀ (j : Nat) (d : Array T),AllP n P d→j < n→loop (Uv q) ((j : Int),d.toList) = some (Sort.shiftDown lt j d).toList∧AllP n P (Sort.shiftDown lt j d)
  | 0,d,hd,hj=>by
    have t : decide (((0 : Nat) : Int) ≥ 1) = false:=Q7 q6
    exact ⟨Kh (by simp only [Uv,t,qy];rfl),hd⟩
  | j + 1,d,hd,hj=>by
    have m:=hd.1
    have o:=hd.2.1
    have t : decide (((j + 1 : Nat) : Int) ≥ 1) = true:=Q8 q6
    obtain ⟨r,f,h⟩:=l d[j + 1]! d[j]! (hd.2.2 _ hj) (hd.2.2 _ q6)
    unfold Sort.shiftDown
    by_cases c : lt d[j + 1]! d[j]! = true
    · rw [qp (by simp [c])]
      have g:=qnf l n j _ (hd.swp (a:=j + 1) (b:=j) hj q6) q6
      refine ⟨?_,g.2⟩
      rw [Y3 (a':=((j : Int),(Sort.swp d (j + 1) j).toList)) ?_]
      · exact g.1
      · simp only [Uv,t,Q1,gx (d:=d) (k:=j + 1) q6,w1m j q6,gx (d:=d) (k:=j) q6,gxs (d:=d) (k:=j) q6,qj,f,h,c,Bool.not_true,qy,Int.toNat_natCast,gswp]
    · have c : lt d[j + 1]! d[j]! = false:=by simpa using c
      rw [qr (by simp [c])]
      refine ⟨Kh ?_,hd⟩
      simp only [Uv,t,Q1,gx (d:=d) (k:=j + 1) q6,w1m j q6,gx (d:=d) (k:=j) q6,qj,f,h,c,Bool.not_false]
theorem qnh (p : Kx q lt P) {b n : Nat} (hb : b≤n) (c : Int) : ∀ (m j : Nat) (d : Array T),b - j = m→AllP n P d→1≤j→loop (Uw (b : Int) q c) ((j : Int),d.toList) = some (c,(Sort.shiftUp lt b j d).toList)∧AllP n P (Sort.shiftUp lt b j d):=by
  intro m
  induction m with
  | zero=>
    intro j d u hd s;unfold Sort.shiftUp;rw [qp q6];have t : decide ((j : Int) < (b : Int)) = false:=Q7 q6;exact ⟨Kh (by simp only [Uw,t,qy]),hd⟩
  | succ m ih=>
    intro j d u hd s;have o:=hd.1;have v:=hd.2.1;unfold Sort.shiftUp;rw [qr q6];have t : decide ((j : Int) < (b : Int)) = true:=Q8 q6;have w : w64 ((j : Int) - 1) = ((j - 1 : Nat) : Int):=by rw [Qg q6];omega
    obtain ⟨r,h,l⟩:=p d[j]! d[j - 1]! (hd.2.2 _ q6) (hd.2.2 _ q6);by_cases f : lt d[j]! d[j - 1]! = true
    · rw [qp (by simp [f])];have g:=ih (j + 1) _ q6 (hd.swp (a:=j) (b:=j - 1) q6 q6) q6;refine ⟨?_,g.2⟩;rw [Y3 (a':=(((j + 1 : Nat) : Int),(Sort.swp d j (j - 1)).toList)) ?_]
      · exact g.1
      · simp only [Uw,t,Q1,w,gx (d:=d) (k:=j) q6,gx (d:=d) (k:=j - 1) q6,gxs (d:=d) (k:=j - 1) q6,qj,h,l,f,Bool.not_true,qy,Int.toNat_natCast,gswp,w1p j q6]
    · have f : lt d[j]! d[j - 1]! = false:=by simpa using f
      rw [qr (by simp [f])];refine ⟨Kh ?_,hd⟩;simp only [Uw,t,Q1,w,gx (d:=d) (k:=j) q6,gx (d:=d) (k:=j - 1) q6,qj,h,l,f,Bool.not_false]
theorem qm6 (h : Kx q lt P) {a b n : Nat} (hb : b≤n) : ∀ (s i : Nat) (d : Array T),s≤5→AllP n P d→a < i→i≤b→
    ∃ m,loop (J3 (b : Int) q (a : Int)) ((i : Int),((5 - s : Nat) : Int),d.toList) = some m∧(match m with | .inl b441=>some (false,b441) | .inr x1=>some x1) = some ((Sort.partialIns lt a b s i d).2,(Sort.partialIns lt a b s i d).1.toList)
  | 0,i,d,hs,hd,hi,hib=>by
    have t : decide (((5 - 0 : Nat) : Int) < 5) = false:=Q7 q6
    refine ⟨.inl d.toList,Kh (by simp only [J3,t,qy]),rfl⟩
  | s + 1,i,d,hs,hd,hi,hib=>by
    have ag:=hd.1
    have hn:=hd.2.1
    have t : decide (((5 - (s + 1) : Nat) : Int) < 5) = true:=Q8 q6
    rw [Sort.partialIns_succ]
    obtain ⟨p,l1,z⟩:=qxn h hb hd (i : Int) ((5 - (s + 1) : Nat) : Int) _ i rfl q6 hib
    generalize Sort.scanSorted lt d b i = k at p l1 z ⊢
    by_cases hk : k = b
    · subst hk
      rw [qr rfl]
      refine ⟨.inr (true,d.toList),Kh ?_,rfl⟩
      simp only [J3,t,Q1,p,qj,beq_self_eq_true]
    · rw [qp hk]
      have tk : ((k : Int) == (b : Int)) = false:=by simp;omega
      have w : w64 ((b : Int) - (a : Int)) = ((b - a : Nat) : Int):=wsub q6 q6
      by_cases o : b - a < 50
      · rw [qr o]
        have f : decide (((b - a : Nat) : Int) < 50) = true:=Q8 q6
        refine ⟨.inr (false,d.toList),Kh ?_,rfl⟩
        simp only [J3,t,Q1,p,qj,tk,qy,w,f]
      · rw [qp o]
        have f : decide (((b - a : Nat) : Int) < 50) = false:=Q7 q6
        have wk : w64 ((k : Int) - 1) = ((k - 1 : Nat) : Int):=by rw [Qg q6];omega
        have wa : w64 ((k : Int) - (a : Int)) = ((k - a : Nat) : Int):=wsub q6 q6
        have wb : w64 ((b : Int) - (k : Int)) = ((b - k : Nat) : Int):=wsub q6 q6
        have l:=hd.swp (a:=k) (b:=k - 1) q6 q6
        have down : (cond (decide (((k - a : Nat) : Int) ≥ 2)) ((loop (Uv q) (((k - 1 : Nat) : Int),(Sort.swp d k (k - 1)).toList)).bind fun x0=>some x0) (some (Sort.swp d k (k - 1)).toList)) = some (Sort.fixDown lt a k (Sort.swp d k (k - 1))).toList∧AllP n P (Sort.fixDown lt a k (Sort.swp d k (k - 1))):=by
          unfold Sort.fixDown;by_cases j : k - a ≥ 2
          · have g : decide (((k - a : Nat) : Int) ≥ 2) = true:=Q8 q6;obtain ⟨x,y⟩:=qnf h n (k - 1) _ l q6;rw [qr j,g,Q1,x];exact ⟨rfl,y⟩
          · have g : decide (((k - a : Nat) : Int) ≥ 2) = false:=Q7 q6;rw [qp j,g,qy];exact ⟨rfl,l⟩
        obtain ⟨dn,c⟩:=down
        have r : AllP n P (Sort.fixUp lt b k (Sort.fixDown lt a k (Sort.swp d k (k - 1)))):=by
          unfold Sort.fixUp;split
          · exact (qnh h hb 0 _ (k + 1) _ rfl c q6).2
          · exact c
        obtain ⟨m,u,v⟩:=qm6 (a:=a) h hb s k _ q6 r q6 z
        refine ⟨m,?_,v⟩
        rw [Y3 (a':=((k : Int),((5 - s : Nat) : Int),(Sort.fixUp lt b k (Sort.fixDown lt a k (Sort.swp d k (k - 1)))).toList)) ?_]
        · exact u
        · have w5 : w64 (((5 - (s + 1) : Nat) : Int) + 1) = ((5 - s : Nat) : Int):=by rw [Qg q6];omega
          simp only [J3,t,Q1,p,qj,tk,qy,w,f,wk,gx (d:=d) (k:=k) q6,gx (d:=d) (k:=k - 1) q6,gxs (d:=d) (k:=k - 1) q6,Int.toNat_natCast,gswp,wa,dn,wb,w1p k q6]
          unfold Sort.fixUp
          by_cases j : b - k ≥ 2
          · have g : decide (((b - k : Nat) : Int) ≥ 2) = true:=Q8 q6
            obtain ⟨x,y⟩:=qnh h hb (k : Int) _ (k + 1) _ rfl c q6
            rw [qr j,g,Q1,x]
            simp only [qj,w5]
          · have g : decide (((b - k : Nat) : Int) ≥ 2) = false:=Q7 q6
            rw [qp j,g,qy]
            simp only [qj,w5]
theorem qvl (h : Kx q lt P) {a b n : Nat} (hb : b≤n) (f : a < b) {d : Array T} (hd : AllP n P d) :
    Uf q d.toList (a : Int) (b : Int) = some ((Sort.partialInsertionSort lt d a b).2,(Sort.partialInsertionSort lt d a b).1.toList):=by
  have j:=hd.2.1;obtain ⟨m,c,g⟩:=qm6 (a:=a) h hb 5 (a + 1) d q6 hd q6 q6;have c : loop (J3 (b : Int) q (a : Int)) (((a + 1 : Nat) : Int),0,d.toList) = some m:=c;unfold Uf Sort.partialInsertionSort;rw [w1p a q6,c];exact g
end
end Go.Sh
namespace Go.Sh
open Go Go.Am
theorem ql8 {α β : Type} {f : α→Option (α ⊕ β)} {a : α} (h : f a = none) : loop f a = none:=by
  apply Option.ext;intro b;rw [q92];constructor
  · rintro ⟨n,c⟩
    cases n with
    | zero=>simp [iter] at c
    | succ n=>simp [iter,h] at c
  · intro h;cases h
section
variable {T : Type} [Inhabited T] {P : T→Prop} {lt : T→T→Bool} {q : T→T→Option Int}
def Srt (lt : T→T→Bool) (a b : Nat) (d : Array T) (o : Option (List T)) : Prop:=∃ d' : Array T,o = some d'.toList∧Sort.PermIn a b d d'∧Sort.SortedIn lt a b d'
theorem qvo (hq : Kx q lt P) (hS : Sort.SWO lt) {n N : Nat} (ae : List T→Int→Int→Int→Option (List T))
    (am : ∀ (a b f : Nat) (d : Array T),AllP n P d→a≤b→b≤n→f≤1000→Sort.Below lt a b d→Srt lt a b d (ae d.toList (a : Int) (b : Int) (f : Int))∨(N≤b - a∧ae d.toList (a : Int) (b : Int) (f : Int) = none)) :
    ∀ (m a b f : Nat) (wb wp : Bool) (d : Array T),b - a = m→AllP n P d→a≤b→b≤n→f≤1000→Sort.Below lt a b d→
      Srt lt a b d (loop (Zr q ae) ((a : Int),(b : Int),(f : Int),wb,wp,d.toList))∨(N + 1≤b - a∧loop (Zr q ae) ((a : Int),(b : Int),(f : Int),wb,wp,d.toList) = none):=by
  intro m
  induction m using Nat.strongRecOn with
  | _ m ih=>
    intro a b f wb wp d hm hd o hb hl hB;have dn:=hd.1;have hn:=hd.2.1;have e0 : w64 ((b : Int) - (a : Int)) = ((b - a : Nat) : Int):=wsub o q6;by_cases ds : b - a≤12
    ·
      have t : decide (((b - a : Nat) : Int)≤12) = true:=Q8 q6;obtain ⟨x,y⟩:=Sort.insertionSort_holds (lt:=lt) hS d a b o q6;have s:=qsr hq hb o hd;refine .inl ⟨_,Kh ?_,x,y⟩;simp only [Zr,e0,t,Q1,s,qj,Uk hd (hd.perm o hb x)]
    have bs : decide (((b - a : Nat) : Int)≤12) = false:=Q7 q6;by_cases h0 : f = 0
    ·
      have t : ((f : Int) == 0) = true:=by simp [h0]
      obtain ⟨x,y⟩:=Sort.heapSort_holds (lt:=lt) hS d a b o q6;have s:=qsl hq hb (by omega : a < b) hd;refine .inl ⟨_,Kh ?_,x,y⟩;simp only [Zr,e0,bs,qy,t,Q1,s,qj,Uk hd (hd.perm o hb x)]
    have t0 : ((f : Int) == 0) = false:=by simp [h0]
    have hA : ∃ (l1 : Nat) (d1 : Array T),(cond (!wb) ((q1e q d.toList (a : Int) (b : Int)).bind fun bb=>(K4 bb.length d.toList.length).bind fun de=>some (w64 ((f : Int) - 1),bb)) (some ((f : Int),d.toList))) = some ((l1 : Int),d1.toList)∧l1≤1000∧AllP n P d1∧Sort.PermIn a b d d1:=by
      cases wb with
      | true=>exact ⟨f,d,rfl,hl,hd,Sort.permIn_refl _ _ _⟩
      | false=>
        have x:=Sort.breakPatterns_holds d a b o q6;have z:=hd.perm o hb x;have w : w64 ((f : Int) - 1) = ((f - 1 : Nat) : Int):=by rw [Qg q6];omega
        refine ⟨f - 1,_,?_,q6,z,x⟩;simp only [Bool.not_false,Q1,qpv (q:=q) hb (by omega : a < b) hd,qj,Uk hd z,w]
    obtain ⟨l1,d1,eA,ar,z,p1⟩:=hA;have hC:=qqu hq z (by omega : a < b) hb;obtain ⟨c1,c2⟩:=Sort.choosePivot_holds lt d1 a b q6;generalize (Sort.choosePivot lt d1 a b).1 = c at hC c1 c2;generalize qfq (Sort.choosePivot lt d1 a b).2 = h at hC
    have hR : ∃ (p : Nat) (h2 : Int) (d2 : Array T),(cond (h == 2) ((q1m q d1.toList (a : Int) (b : Int)).bind fun bc=>(K4 bc.length d1.toList.length).bind fun cy=>some (w64 ((w64 ((b : Int) - 1)) - (w64 ((c : Int) - (a : Int)))),(1 : Int),bc)) (some ((c : Int),h,d1.toList))) = some ((p : Int),h2,d2.toList)∧a≤p∧p < b∧AllP n P d2∧Sort.PermIn a b d1 d2:=by
      cases hh : (h == 2) with
      | false=>exact ⟨c,h,d1,rfl,c1,c2,z,Sort.permIn_refl _ _ _⟩
      | true=>
        have x:=Sort.reverseRange_holds d1 a b o (by rw [z.1];exact hb);have ac:=z.perm o hb x;have w1 : w64 ((b : Int) - 1) = ((b - 1 : Nat) : Int):=by rw [Qg q6];omega
        have w2 : w64 ((c : Int) - (a : Int)) = ((c - a : Nat) : Int):=wsub c1 q6;have w3 : w64 (((b - 1 : Nat) : Int) - ((c - a : Nat) : Int)) = ((b - 1 - (c - a) : Nat) : Int):=wsub q6 q6;refine ⟨b - 1 - (c - a),1,_,?_,q6,q6,ac,x⟩;simp only [Q1,qxg (q:=q) hb (by omega : a < b) z,qj,Uk z ac,w1,w2,w3]
    obtain ⟨p,h2,d2,eR,hp1,hp2,ac,p2⟩:=hR;have br : Sort.Below lt a b d2:=(hB.perm q6 p1).perm (by rw [z.1];exact hb) p2;have bv:=Sort.permIn_trans _ _ _ a b p1 p2
    have hP : ∀ cc : Bool,∃ ab : (List T) ⊕ (List T),(cond cc ((Uf q d2.toList (a : Int) (b : Int)).bind fun ag=>(K4 ag.2.length d2.toList.length).bind fun da=>cond ag.1 (some (.inr ag.2)) (some (.inl ag.2))) (some (.inl d2.toList)) : Option ((List T) ⊕ (List T))) = some ab∧
        ((∃ l : Array T,ab = .inr l.toList∧Sort.PermIn a b d2 l∧Sort.SortedIn lt a b l)∨(∃ l : Array T,ab = .inl l.toList∧AllP n P l∧Sort.PermIn a b d2 l)):=by
      intro cc
      cases cc with
      | false=>exact ⟨_,rfl,.inr ⟨d2,rfl,ac,Sort.permIn_refl _ _ _⟩⟩
      | true=>
        obtain ⟨x,y⟩:=Sort.partialInsertionSort_holds (lt:=lt) hS d2 a b q6 (by rw [ac.1];exact hb) br;have u:=ac.perm o hb x;have s:=qvl hq hb (by omega : a < b) ac;simp only [Q1,s,qj,Uk ac u]
        cases hz : (Sort.partialInsertionSort lt d2 a b).2 with
        | true=>exact ⟨_,rfl,.inl ⟨_,rfl,x,y hz⟩⟩
        | false=>exact ⟨_,rfl,.inr ⟨_,rfl,u,x⟩⟩
    obtain ⟨ab,eP,bm⟩:=hP (wb && wp && (h2 == 1))
    have cp : ∀ {γ : Type} (X : Bool→Option γ),((cond wb (some wp) (some false)).bind fun bq=>(cond bq (some (h2 == 1)) (some false)).bind X) = X (wb && wp && (h2 == 1)):=by
      intro γ X;cases wb <;> cases wp <;> rfl
    have head : Zr q ae ((a : Int),(b : Int),(f : Int),wb,wp,d.toList) = (match (generalizing:=false) ab with | .inl b377=>(cond (decide ((a : Int) > 0)) ((idx b377 (w64 ((a : Int) - 1))).bind fun ao=>(idx b377 (p : Int)).bind fun an=>(q ao an).bind fun aq=>some (!(decide (aq < 0)))) (some false)).bind fun bu=>cond bu ((q1j q b377 (a : Int) (b : Int) (p : Int)).bind fun al=>(K4 al.2.length b377.length).bind fun cv=>some (.inl (al.1,(b : Int),(l1 : Int),wb,wp,al.2))) ((q1i q b377 (a : Int) (b : Int) (p : Int)).bind fun g=>(K4 g.2.2.length b377.length).bind fun dd=>cond (decide ((w64 (g.1 - (a : Int))) < (w64 ((b : Int) - g.1)))) ((ae g.2.2 (a : Int) g.1 (l1 : Int)).bind fun ba=>(K4 ba.length g.2.2.length).bind fun dc=>some (.inl (w64 (g.1 + 1),(b : Int),(l1 : Int),decide ((w64 (g.1 - (a : Int))) ≥ (w64 (Int.tdiv ((b - a : Nat) : Int) 8))),g.2.1,ba))) ((ae g.2.2 (w64 (g.1 + 1)) (b : Int) (l1 : Int)).bind fun be=>(K4 be.length g.2.2.length).bind fun cs=>some (.inl ((a : Int),g.1,(l1 : Int),decide ((w64 ((b : Int) - g.1)) ≥ (w64 (Int.tdiv ((b - a : Nat) : Int) 8))),g.2.1,be)))) | .inr x1=>some (.inr x1)):=by
      simp only [Zr,e0,bs,qy,t0,eA,qj,hC,eR,cp,eP]
      clear eP bm hP am ih
      cases ab <;> rfl
    rcases bm with ⟨l,rfl,x,y⟩ | ⟨l,rfl,u,p3⟩
    · refine .inl ⟨l,Kh ?_,Sort.permIn_trans _ _ _ a b bv x,y⟩;rw [head]
    have ax:=u.1;have P3:=Sort.permIn_trans _ _ _ a b bv p3;have B3 : Sort.Below lt a b l:=br.perm (by rw [ac.1];exact hb) p3
    have bi : (cond (decide ((a : Int) > 0)) ((idx l.toList (w64 ((a : Int) - 1))).bind fun ao=>(idx l.toList (p : Int)).bind fun an=>(q ao an).bind fun aq=>some (!(decide (aq < 0)))) (some false)) = some (decide (a > 0) && !lt l[a - 1]! l[p]!):=by
      by_cases ha : a > 0
      · have ta : decide ((a : Int) > 0) = true:=Q8 q6;have w : w64 ((a : Int) - 1) = ((a - 1 : Nat) : Int):=by rw [Qg q6];omega
        obtain ⟨r,h1,h2⟩:=hq l[a - 1]! l[p]! (u.2.2 _ q6) (u.2.2 _ q6);simp only [ta,Q1,w,gx (d:=l) (k:=a - 1) q6,gx (d:=l) (k:=p) q6,qj,h1,h2,Q8 ha,Bool.true_and]
      · have ta : decide ((a : Int) > 0) = false:=Q7 q6;simp only [ta,qy,Q7 ha,Bool.false_and]
    simp only [bi,qj] at head;by_cases hc : (decide (a > 0) && !lt l[a - 1]! l[p]!) = true
    ·
      rw [hc] at head;have s:=qvm hq hb (by omega : a < b) (by omega : p < n) u;simp only [Bool.and_eq_true,decide_eq_true_eq,Bool.not_eq_true'] at hc
      cases hx : Sort.partitionEqual lt l a b p with
      | mk j d4=>
        obtain ⟨g1,g2,bw,cg,ad⟩:=Sort.round_eq hS (Sort.partitionEqual_holds lt) hc.1 hp1 hp2 (by rw [ax];exact hb) B3 hc.2 hx
        have ci : ∀ i,a≤i→i < b→lt l[i]! l[p]! = false:=fun i hi ck=>by
          rcases B3 with h0 | hB
          · omega
          · exact hS.ntrans _ _ _ (hB i hi ck) hc.2
        obtain ⟨_,_,v,_,_⟩:=Sort.partitionEqual_holds lt hS l a b p hp1 hp2 (by rw [ax];exact hb) ci;rw [hx] at v s;have aa:=u.perm o hb v;simp only [Q1,s,qj,Uk u aa] at head;rw [Y3 head];rcases ih (b - j) q6 j b l1 wb wp d4 rfl aa g2 hb ar cg with ⟨R,r0,r1,r2⟩ | ⟨r1,r2⟩
        · obtain ⟨q1,q2⟩:=ad _ r1 r2;exact .inl ⟨R,r0,Sort.permIn_trans _ _ _ a b P3 q1,q2⟩
        · exact .inr ⟨q6,r2⟩
    ·
      have hc : (decide (a > 0) && !lt l[a - 1]! l[p]!) = false:=by simpa using hc
      rw [hc] at head;have s:=qvn hq hb (by omega : a < b) (by omega : p < n) u
      cases hx : Sort.partition lt l a b p with
      | mk j r=>
      cases r with
      | mk ap d4=>
        obtain ⟨g1,g2,bw,bz,cd,bh,ay⟩:=Sort.round_part hS (Sort.partition_holds lt) hp1 hp2 (by rw [ax];exact hb) B3 hx;obtain ⟨_,_,v,_,_⟩:=Sort.partition_holds lt hS l a b p hp1 hp2 (by rw [ax];exact hb);rw [hx] at v s;have aa:=u.perm o hb v;have w1 : w64 ((j : Int) - (a : Int)) = ((j - a : Nat) : Int):=wsub g1 q6;have w2 : w64 ((b : Int) - (j : Int)) = ((b - j : Nat) : Int):=wsub q6 q6;simp only [qy,s,qj,Uk u aa,w1,w2,w1p j q6] at head;by_cases df : j - a < b - j
        · have tl : decide (((j - a : Nat) : Int) < ((b - j : Nat) : Int)) = true:=Q8 q6;simp only [tl,Q1] at head;rcases am a j l1 d4 aa g1 q6 ar bz with ⟨L,e,av,bk⟩ | ⟨r1,r2⟩
          · have au:=aa.perm g1 q6 av;obtain ⟨bf,ad⟩:=bh _ av bk;simp only [e,qj,Uk aa au] at head;rw [Y3 head];rcases ih (b - (j + 1)) q6 (j + 1) b l1 _ _ L rfl au q6 hb ar bf with ⟨R,r0,r1,r2⟩ | ⟨r1,r2⟩
            · obtain ⟨q1,q2⟩:=ad _ r1 r2;exact .inl ⟨R,r0,Sort.permIn_trans _ _ _ a b P3 q1,q2⟩
            · exact .inr ⟨q6,r2⟩
          · simp only [r2,Option.bind_none] at head;exact .inr ⟨q6,ql8 head⟩
        · have tl : decide (((j - a : Nat) : Int) < ((b - j : Nat) : Int)) = false:=Q7 q6;simp only [tl,qy] at head;rcases am (j + 1) b l1 d4 aa q6 hb ar cd with ⟨L,e,av,bk⟩ | ⟨r1,r2⟩
          · have au:=aa.perm (by omega : j + 1≤b) hb av;obtain ⟨bf,ad⟩:=ay _ av bk;simp only [e,qj,Uk aa au] at head;rw [Y3 head];rcases ih (j - a) q6 a j l1 _ _ L rfl au g1 q6 ar bf with ⟨R,r0,r1,r2⟩ | ⟨r1,r2⟩
            · obtain ⟨q1,q2⟩:=ad _ r1 r2;exact .inl ⟨R,r0,Sort.permIn_trans _ _ _ a b P3 q1,q2⟩
            · exact .inr ⟨q6,r2⟩
          · simp only [r2,Option.bind_none] at head;exact .inr ⟨q6,ql8 head⟩
theorem qm7 (g : Kx q lt P) (f : Sort.SWO lt) {n : Nat} : ∀ (N a b c : Nat) (d : Array T),AllP n P d→a≤b→b≤n→c≤1000→Sort.Below lt a b d→
    Srt lt a b d (Zk N q d.toList (a : Int) (b : Int) (c : Int))∨(N≤b - a∧Zk N q d.toList (a : Int) (b : Int) (c : Int) = none)
  | 0,a,b,c,d,_,_,_,_,_=>.inr ⟨q6,rfl⟩
  | N + 1,a,b,c,d,hd,hab,hb,hl,hB=>by
    have h:=qvo g f (N:=N) (Zk N q) (fun a b c d j l o k m=>qm7 g f N a b c d j l o k m) _ a b c true true d rfl hd hab hb hl hB
    have e : Zk (N + 1) q d.toList (a : Int) (b : Int) (c : Int) = loop (Zr q (Zk N q)) ((a : Int),(b : Int),(c : Int),true,true,d.toList):=by
      show Uz (Zk N q) q d.toList (a : Int) (b : Int) (c : Int) = _;unfold Uz;cases loop (Zr q (Zk N q)) ((a : Int),(b : Int),(c : Int),true,true,d.toList) <;> rfl
    rw [e]
    exact h
theorem qo1 (v : Kx q lt P) (s : Sort.SWO lt) (xs : List T) (n : xs.length≤1000000) (u : ∀ x∈xs,P x) :
    ∃ ys,q2g q xs = some ys∧ys.Perm xs∧ys.Pairwise (fun x y=>lt y x = false):=by
  have hd : AllP xs.length P xs.toArray:=by
    refine ⟨qe,n,fun i hi=>?_⟩;have : xs.toArray[i]! = xs[i]:=by simp [hi]
    rw [this];exact u _ (Kq hi)
  have hk : Sort.bitsLen xs.length≤20:=(Sort.bitsLen_le_iff _ 20).2 q6;have c : ∀ N,_:=fun N=>qm7 v s N 0 xs.length (Sort.bitsLen xs.length) xs.toArray hd q6 q6 q6 (.inl rfl);have t:=c (xs.length + 1);rcases t with ⟨d',e,_,_⟩ | ⟨h,_⟩
  · obtain ⟨r,o⟩:=qt8 (f:=fun N=>Zk N q xs 0 (xs.length : Int) ((Sort.bitsLen xs.length : Nat) : Int)) e;obtain ⟨N,g⟩:=qfy o;have g : Zk N q xs 0 (xs.length : Int) ((Sort.bitsLen xs.length : Nat) : Int) = some r:=g;rcases c N with ⟨a,b,x,y⟩ | ⟨_,b⟩
    · have b : Zk N q xs 0 (xs.length : Int) ((Sort.bitsLen xs.length : Nat) : Int) = some a.toList:=b;rw [g] at b;obtain rfl : r = a.toList:=qe9 b;have d : a.size = xs.length:=by rw [x.1];simp
      refine ⟨a.toList,?_,?_,?_⟩
      · unfold q2g;rw [q28,show ((xs.length : Int) % 18446744073709551616) = (xs.length : Int) by omega,ql5 _ n];simp only [qj,o];unfold K4;rw [qr (by simp [d])];rfl
      · have:=x.2.2;have p : a.extract 0 xs.length = a:=by rw [← d];simp
        have w : xs.toArray.extract 0 xs.length = xs.toArray:=by simp
        rw [p,w] at this;exact this
      · rw [List.pairwise_iff_getElem];intro i j hi z m;have k : i < a.size:=by simpa using hi
        have l : j < a.size:=by simpa using z
        have:=y i j q6 m q6;rw [getElem!_pos a i k,getElem!_pos a j l] at this;simpa using this
    · have b : Zk N q xs 0 (xs.length : Int) ((Sort.bitsLen xs.length : Nat) : Int) = none:=b;rw [g] at b;cases b
  · omega
end
end Go.Sh
namespace Go.Sh
open Go Go.Am
theorem qyo : qe1 = q59:=rfl
theorem qxp : q2t = q3k:=by
  funext p0;simp only [q2t,q3k,qyo]
  all_goals exact K3
theorem qn8 : q12 = q1d:=by
  funext p0;simp only [q12,q1d,qxp]
  all_goals exact K3
theorem qxz : qa9 = Ud:=by
  funext p1 q1 a459;simp only [qa9,Ud]
  all_goals exact K3
theorem qxy : qa8 = q1h:=by
  funext p2 p1 q1 a278;simp only [qa8,q1h,qxz]
  all_goals exact K3
theorem qxx : qa7 = q2j:=by
  funext q1 p0 p1 p2;simp only [qa7,q2j,qxy]
  all_goals exact K3
theorem qyn : qar = Ug:=by
  funext p2 p3 q1 a197;simp only [qar,Ug]
  all_goals exact K3
theorem qna : q7n = q10:=by
  funext q1 p0 p1 p2 p3;simp only [q7n,q10,qyn]
  all_goals exact K3
theorem qxv : qa5 = q1f:=by
  funext q1 p2 p1 a123;simp only [qa5,q1f,qna]
  all_goals exact K3
theorem qxw : qa6 = q1g:=by
  funext p1 q1 a191;simp only [qa6,q1g,qna]
  all_goals exact K3
theorem qxu : qa4 = q2i:=by
  funext q1 p0 p1 p2;simp only [qa4,q2i,qxv,qxw]
  all_goals exact K3
theorem qy1 : q20 = q2k:=by
  funext p0;simp only [q20,q2k,qn8]
  all_goals exact K3
theorem qyp : q21 = q2o:=by
  funext p0;simp only [q21,q2o]
  all_goals exact K3
theorem qxs : qa2 = Ur:=by
  funext p1 p2 r101 a153;simp only [qa2,Ur,qyp]
  all_goals exact K3
theorem qxr : qa1 = q1e:=by
  funext q1 p0 p1 p2;simp only [qa1,q1e,qy1,qxs]
  all_goals exact K3
theorem qy2 : q4f = Ut:=by
  funext q1 p0 p1 p2 p3;simp only [q4f,Ut]
  all_goals exact K3
theorem qn9 : q73 = Us:=by
  funext q1 p0 p1 p2 p3 p4;simp only [q73,Us,qy2]
  all_goals exact K3
theorem qy0 : q4d = Ue:=by
  funext q1 p0 p1 p2;simp only [q4d,Ue,qn9]
  all_goals exact K3
theorem qxt : qa3 = q2h:=by
  funext p0 p1 p2 p3;simp only [qa3,q2h,qn9,qy0]
  all_goals exact K3
theorem qym : qap = q2n:=by
  funext a119;simp only [qap,q2n]
  all_goals exact K3
theorem qyl : qao = q1m:=by
  funext q1 p0 p1 p2;simp only [qao,q1m,qym]
  all_goals exact K3
theorem qy5 : qaa = Uu:=by
  funext p2 a438 q1 a681;simp only [qaa,Uu]
  all_goals exact K3
theorem qy6 : qab = Uv:=by
  funext q1 a838;simp only [qab,Uv]
  all_goals exact K3
theorem qy7 : qac = Uw:=by
  funext p2 q1 b684 a928;simp only [qac,Uw]
  all_goals exact K3
theorem qy4 : q75 = J3:=by
  funext p2 q1 p1 a438;have a : @q75.match_1.{1} = @J3.match_1.{1} qn:=by funext motive m f g;cases m <;> rfl
  unfold q75 J3;rw [a];simp only [qy5,qy6,qy7]
theorem qy3 : q74 = Uf:=by
  funext q1 p0 p1 p2;have a : @q74.match_1.{1} = @Uf.match_1.{1} qn:=by funext motive m f g;cases m <;> rfl
  unfold q74 Uf;rw [a];simp only [qy4]
theorem qyb : qam = Ux:=by
  funext a318 p1 q1 a378;simp only [qam,Ux]
  all_goals exact K3
theorem qyc : qan = Uy:=by
  funext b381 a318 p1 q1 a463;simp only [qan,Uy]
  all_goals exact K3
theorem qya : qal = q1k:=by
  funext p1 q1 a318;simp only [qal,q1k,qyb,qyc]
  all_goals exact K3
theorem qy9 : qak = q1j:=by
  funext q1 p0 p1 p2 p3;simp only [qak,q1j,qya]
  all_goals exact K3
theorem qyd : qaf = q2l:=by
  funext p2 p0 p1 v101 p3 v103 q1 a163;simp only [qaf,q2l]
  all_goals exact K3
theorem qye : qag = q2m:=by
  funext b166 p0 p1 v101 p3 v103 q1 a249;simp only [qag,q2m]
  all_goals exact K3
theorem qyg : qai = Jb:=by
  funext a514 p1 q1 a572;simp only [qai,Jb]
  all_goals exact K3
theorem qyh : qaj = Jc:=by
  funext b575 a514 p1 q1 a658;simp only [qaj,Jc]
  all_goals exact K3
theorem qyf : qah = q1l:=by
  funext p1 q1 a514;simp only [qah,q1l,qyg,qyh]
  all_goals exact K3
theorem qy8 : qae = q1i:=by
  funext q1 p0 p1 p2 p3;simp only [qae,q1i,qyd,qye,qyf]
  all_goals exact K3
theorem qyj : q7j = Zr:=by
  funext q1 rec a309;have a : @q7j.match_1.{1} = @Zr.match_1.{1} qn:=by funext motive m f g;cases m <;> rfl
  unfold q7j Zr;rw [a];simp only [qxx,qxu,qxr,qxt,qyl,qy3,qy9,qy8]
theorem qyk : q7k = Uz:=by
  funext rec q1 p0 p1 p2 p3;simp only [q7k,Uz,qyj]
  all_goals exact K3
theorem qyi : ∀ N q,q7i N q = Zk N q:=by
  intro N q
  induction N with
  | zero=>rfl
  | succ N ih=>
    funext a b c d;show q7k (q7i N q) q a b c d = Uz (Zk N q) q a b c d;rw [ih,qyk]
theorem qxq : q6t = q2g:=by
  funext q1 p0;simp only [q6t,q2g,qn8,qyi]
  all_goals exact K3
end Go.Sh
namespace Go.Sh
open Go Go.Am
instance : Inhabited qn:=⟨⟨0,0,0⟩⟩
theorem q12h (q : qn→qn→Option Int) (xs : List qn) : q6t q xs = q2g q xs:=by rw [qxq]
def evs (s : List qk) (l : Int) : List qn:=s.flatMap fun t=>[{at_:=t.Lo,list_:=l,by_:=1},{at_:=t.Hi,list_:=l,by_:=-1}]
theorem q8y (s : List qk) (l : Int) : (evs s l).length = 2 * s.length:=by
  induction s with
  | nil=>rfl
  | cons t s ih=>simp only [evs,List.flatMap_cons,List.length_append,List.length_cons,List.length_nil] at ih ⊢;omega
theorem qcr {s : List qk} {l : Int} {e : qn} (h : e∈evs s l) : e.list_ = l∧(e.by_ = 1∨e.by_ = -1)∧∃ t∈s,e.at_ = t.Lo∨e.at_ = t.Hi:=by
  simp only [evs,List.mem_flatMap] at h;obtain ⟨t,a,h⟩:=h;simp only [List.mem_cons,List.not_mem_nil,or_false] at h;rcases h with rfl | rfl
  · exact ⟨rfl,.inl rfl,t,a,.inl rfl⟩
  · exact ⟨rfl,.inr rfl,t,a,.inr rfl⟩
theorem qjj (s : List qk) (l : Int) (y : List qn) (hs : s.length≤1000) (base : List qn) (hb : base.length≤10000) :
    loop (q4n s (l,y)) (0,base) = some (base ++ evs s l):=by
  have:=J5 (f:=q4n s (l,y)) (σ:=List qn) (fun k c=>((k : Int),c)) s.length (fun k c=>c = base ++ evs (s.take k) l) (fun t=>t = base ++ evs s l) ?_ ?_ (k0:=0) (c0:=base) q6 (by simp [evs])
  · obtain ⟨b,h,rfl⟩:=this;exact h
  · rintro k c g rfl;have a : decide ((k : Int) < (s.length : Int)) = true:=Q8 q6;refine .inl ⟨base ++ evs (s.take (k + 1)) l,?_,rfl⟩;have d : (evs (s.take k) l).length≤2000:=by rw [q8y,List.length_take];omega
    simp only [q4n,a,Q1,Qt g,qj];rw [Y7 (by rw [List.length_append];simp only [List.length_cons,List.length_nil];omega),qj,Qg q6,List.take_succ_eq_append_getElem g,List.append_assoc];have : evs (s.take k ++ [s[k]]) l = evs (s.take k) l ++ [{at_:=s[k].Lo,list_:=l,by_:=1},{at_:=s[k].Hi,list_:=l,by_:=-1}]:=by simp only [evs,List.flatMap_append,List.flatMap_cons,List.flatMap_nil,List.append_nil]
    rw [this];rfl
  · rintro c rfl;have a : decide ((s.length : Int) < (s.length : Int)) = false:=Q7 q6;exact ⟨_,by simp only [q4n,a,qy];rfl,by rw [List.take_length]⟩
def ltE (a b : qn) : Bool:=decide (a.at_ < b.at_)
def inE (e : qn) : Prop:=-1000000≤e.at_∧e.at_≤1000000
theorem swoE : Sort.SWO ltE where
  irrefl:=by intro x;simp [ltE]
  trans:=by intro x y z;simp only [ltE,decide_eq_true_eq];omega
  ntrans:=by intro x y z;simp only [ltE,decide_eq_false_iff_not];omega
theorem cmpE : Kx (fun a b=>qb2 a b) ltE inE:=by
  rintro x y ⟨g,d⟩ ⟨c,f⟩;refine ⟨x.at_ - y.at_,?_,?_⟩
  · show some (w64 (x.at_ - y.at_)) = _;rw [Qg q6]
  · unfold ltE;exact decide_eq_decide.2 q6
theorem q12g (p q : List qk) (hp : p.length≤500) (z : q.length≤500) (m : ∀ t∈p,vld t) (o : ∀ t∈q,vld t) :
    ∃ ys,qb3 [p,q] = some ([p,q],ys)∧ys.Perm (evs p 0 ++ evs q 1)∧ys.Pairwise (fun x y=>x.at_≤y.at_):=by
  have n : ∀ x∈evs p 0 ++ evs q 1,inE x:=by
    intro x r;rcases List.mem_append.1 r with h | h
    · obtain ⟨_,_,t,g,h⟩:=qcr h;obtain ⟨a,b,c⟩:=m t g;unfold inE;rcases h with h | h <;> omega
    · obtain ⟨_,_,t,g,h⟩:=qcr h;obtain ⟨a,b,c⟩:=o t g;unfold inE;rcases h with h | h <;> omega
  have w:=q8y p 0;have v:=q8y q 1;obtain ⟨ys,l,j,u⟩:=qo1 cmpE swoE (evs p 0 ++ evs q 1) (by rw [List.length_append];omega) n;refine ⟨ys,?_,j,u.imp (fun {x y} h=>by simp only [ltE,decide_eq_false_iff_not] at h;omega)⟩
  have d : loop (q15 [p,q]) (0,[]) = some (evs p 0 ++ evs q 1):=by
    have s0 : q15 [p,q] (0,[]) = some (.inl (1,evs p 0)):=by
      have t : decide ((0 : Int) < (([p,q] : List (List qk)).length : Int)) = true:=rfl;simp only [q15,t,Q1];have : idx [p,q] 0 = some p:=rfl;rw [this];simp only [qj,qjj p 0 [] q6 [] qe,List.nil_append];rfl
    have s : q15 [p,q] (1,evs p 0) = some (.inl (2,evs p 0 ++ evs q 1)):=by
      have t : decide ((1 : Int) < (([p,q] : List (List qk)).length : Int)) = true:=rfl;simp only [q15,t,Q1];have : idx [p,q] 1 = some q:=rfl;rw [this];simp only [qj,qjj q 1 (evs p 0) q6 (evs p 0) q6];rfl
    have k : q15 [p,q] (2,evs p 0 ++ evs q 1) = some (.inr (evs p 0 ++ evs q 1)):=by
      have t : decide ((2 : Int) < (([p,q] : List (List qk)).length : Int)) = false:=rfl;simp only [q15,t,qy]
    rw [Y3 s0,Y3 s,Kh k]
  unfold qb3;rw [d];simp only [qj,q12h,l];have le : K4 ys.length (evs p 0 ++ evs q 1).length = some ():=by unfold K4;rw [qr j.length_eq]
  have f : K4 ys.length ys.length = some ():=by unfold K4;rw [qr rfl]
  simp only [le,qj,qdr,f]
def cnt (l : Int) (c : Int→Bool) : List qn→Int
  | []=>0
  | e::es=>(if e.list_ = l∧c e.at_ = true then e.by_ else 0) + cnt l c es
theorem q2e (l : Int) (c : Int→Bool) (a b : List qn) : cnt l c (a ++ b) = cnt l c a + cnt l c b:=by
  induction a with
  | nil=>simp [cnt]
  | cons e a ih=>simp only [List.cons_append,cnt,ih];omega
theorem qj5 {l : Int} {c : Int→Bool} {a b : List qn} (h : a.Perm b) : cnt l c a = cnt l c b:=by
  induction h with
  | nil=>rfl
  | cons x _ ih=>simp only [cnt,ih]
  | swap x y l=>simp only [cnt];omega
  | trans _ _ ih1 ih2=>rw [ih1,ih2]
theorem qj2 {l : Int} {c b : Int→Bool} : ∀ {a : List qn},(∀ e∈a,c e.at_ = b e.at_)→cnt l c a = cnt l b a
  | [],_=>rfl
  | e::a,h=>by simp only [cnt,h e qe,qj2 (fun e d=>h e (List.mem_cons_of_mem _ d))]
theorem qj4 {l : Int} {c : Int→Bool} : ∀ {a : List qn},(∀ e∈a,c e.at_ = false)→cnt l c a = 0
  | [],_=>rfl
  | e::a,h=>by
    simp only [cnt,qj4 (fun e b=>h e (List.mem_cons_of_mem _ b)),h e qe]
    simp
theorem q8o {s : List qk} {l l' : Int} {c : Int→Bool} (h : l≠l') : cnt l c (evs s l') = 0:=by
  induction s with
  | nil=>rfl
  | cons t s ih=>
    have : evs (t::s) l' = [{at_:=t.Lo,list_:=l',by_:=1},{at_:=t.Hi,list_:=l',by_:=-1}] ++ evs s l':=rfl;rw [this,q2e,ih];have a : ¬ l' = l:=fun e=>h e.symm;simp [cnt,a]
theorem qj3 {s : List qk} {l : Int} (v : ∀ t∈s,vld t) (x : Int) : 0≤cnt l (fun a=>decide (a≤x)) (evs s l)∧(0 < cnt l (fun a=>decide (a≤x)) (evs s l)↔has s x):=by
  induction s with
  | nil=>exact ⟨Int.le_refl 0,by simp [evs,cnt,has]⟩
  | cons t s ih=>
    obtain ⟨h,c⟩:=ih (fun t d=>v t (List.mem_cons_of_mem _ d));have b:=v t qe;have : evs (t::s) l = [{at_:=t.Lo,list_:=l,by_:=1},{at_:=t.Hi,list_:=l,by_:=-1}] ++ evs s l:=rfl;rw [this,q2e,Zt,← c];obtain ⟨g,f,j⟩:=b;simp only [cnt,true_and,decide_eq_true_eq];split <;> split <;> omega
theorem qj6 {s : List qk} {l : Int} : cnt l (fun _=>true) (evs s l) = 0:=by
  induction s with
  | nil=>rfl
  | cons t s ih=>
    have : evs (t::s) l = [{at_:=t.Lo,list_:=l,by_:=1},{at_:=t.Hi,list_:=l,by_:=-1}] ++ evs s l:=rfl;rw [this,q2e,ih];simp [cnt]
theorem qf2 {l : Int} {c : Int→Bool} : ∀ {a : List qn},(∀ e∈a,e.by_ = 1∨e.by_ = -1)→-(a.length : Int)≤cnt l c a∧cnt l c a≤(a.length : Int)
  | [],_=>by simp [cnt]
  | e::a,h=>by
    obtain ⟨f,d⟩:=qf2 (l:=l) (c:=c) (fun e b=>h e (List.mem_cons_of_mem _ b))
    have:=h e qe
    simp only [cnt,List.length_cons]
    split <;> omega
end Go.Sh
namespace Go.Sh
open Go Go.Am
theorem qqx (at_ a : Int) (inn : Bool) (out : List qk) (h : out.length≤10000) :
    qb4 at_ inn a out = some (inn,a,if inn = true∧a≠at_ then addS out a at_ else out):=by
  unfold qb4
  cases inn with
  | false=>rfl
  | true=>
    by_cases b : a = at_
    · simp [b]
    · have hb : (a == at_) = false:=by simpa using b
      simp only [Bool.not_true,qy,qj,hb];rw [qr ⟨trivial,b⟩];rcases qds out with rfl | ⟨d,t,rfl⟩
      · rfl
      · have l : (d ++ [t]).length = d.length + 1:=by simp
        have k : decide (((d ++ [t]).length : Int) > 0) = true:=Q8 q6;have j : w64 (((d ++ [t]).length : Int) - 1) = (d.length : Int):=by rw [Qg q6];omega
        have g : idx (d ++ [t]) (d.length : Int) = some t:=by
          rw [Qt q6];simp
        simp only [k,Q1,j,g,qj];by_cases f : t.Hi = a
        · subst f;simp only [beq_self_eq_true,Q1,qbr,Int.toNat_natCast,qnd]
        · have c : (t.Hi == a) = false:=by simpa using f
          simp only [c,qy,qbs f];rw [Y7 (by simp;omega)];rfl
open Classical in
structure qpa (f : Bool→Bool→Bool) (p q : List qk) (ys : List qn) (k : Nat) (c : List Int × Int × Bool × List qk) : Prop where
  opn : c.1 = [cnt 0 (fun _=>true) (ys.take k),cnt 1 (fun _=>true) (ys.take k)]
  inn : c.2.2.1 = f (decide (0 < cnt 0 (fun _=>true) (ys.take k))) (decide (0 < cnt 1 (fun _=>true) (ys.take k)))
  lst : ∀ (h : k - 1 < ys.length),0 < k→c.2.1 = ys[k - 1].at_
  can : Can c.2.2.2
  his : ∀ t∈c.2.2.2,t.Hi≤c.2.1
  zro : k = 0→c.2.2.2 = []
  pts : ∀ x,has c.2.2.2 x↔0 < k∧x < c.2.1∧f (decide (has p x)) (decide (has q x)) = true
  len : c.2.2.2.length≤k
theorem qpc (c : List qk) (a b : Int) : (addS c a b).length≤c.length + 1:=by
  rcases qds c with rfl | ⟨d,t,rfl⟩
  · simp [qhz]
  · by_cases h : t.Hi = a
    · subst h;rw [qbr];simp
    · rw [qbs h];simp
theorem qj1 {p q : List qk} {ys : List qn} (hp : ∀ t∈p,vld t) (f : ∀ t∈q,vld t) (b : ys.Perm (evs p 0 ++ evs q 1)) (hs : ys.Pairwise (fun x y=>x.at_≤y.at_)) (k : Nat) (x : Int)
    (j : ∀ i (h : i < ys.length),i < k→ys[i].at_≤x) (n : ∀ i (h : i < ys.length),k≤i→x < ys[i].at_) :
    (0 < cnt 0 (fun _=>true) (ys.take k)↔has p x)∧(0 < cnt 1 (fun _=>true) (ys.take k)↔has q x):=by
  have key : ∀ l,cnt l (fun _=>true) (ys.take k) = cnt l (fun a=>decide (a≤x)) (evs p 0) + cnt l (fun a=>decide (a≤x)) (evs q 1):=by
    intro l;rw [← q2e,← qj5 b]
    conv=>rhs;rw [← List.take_append_drop k ys]
    rw [q2e]
    have g : cnt l (fun a=>decide (a≤x)) (ys.drop k) = 0:=by
      refine qj4 fun e c=>?_;obtain ⟨i,hi,rfl⟩:=List.mem_iff_getElem.1 c;rw [List.getElem_drop];rw [List.length_drop] at hi;have:=n (k + i) q6 q6;exact Q7 q6
    have o : cnt l (fun a=>decide (a≤x)) (ys.take k) = cnt l (fun _=>true) (ys.take k):=by
      refine qj2 fun e c=>?_;obtain ⟨i,hi,rfl⟩:=List.mem_iff_getElem.1 c;rw [List.getElem_take];rw [List.length_take] at hi;exact Q8 (j i q6 q6)
    rw [g,o];omega
  rw [key 0,key 1,q8o (l:=0) (l':=1) qx,q8o (l:=1) (l':=0) qx];have m:=qj3 (l:=0) hp x;have d:=qj3 (l:=1) f x;rw [Int.add_zero,Int.zero_add];exact ⟨m.2,d.2⟩
open Classical in
theorem qkv (f : Bool→Bool→Bool) (hf : f false false = false) (p2 : Bool→Bool→Option Bool) (hp2 : ∀ a b,p2 a b = some (f a b)) (p q : List qk)
    (hp : p.length≤500) (hq : q.length≤500) (vp : ∀ t∈p,vld t) (vq : ∀ t∈q,vld t) :
    ∃ out,q3a p q p2 = some out∧Can out∧∀ x,has out x↔f (decide (has p x)) (decide (has q x)) = true:=by
  obtain ⟨ys,e1,g,hs⟩:=q12g p q hp hq vp vq;have bg : ys.length≤2000:=by rw [g.length_eq,List.length_append,q8y,q8y];omega
  have w : ∀ i j (hi : i < ys.length) (hj : j < ys.length),i≤j→ys[i].at_≤ys[j].at_:=by
    intro i j hi hj bs;rcases Nat.lt_or_ge i j with h | h
    · exact List.pairwise_iff_getElem.1 hs i j hi hj h
    · obtain rfl : i = j:=by omega
      exact Int.le_refl _
  have y : ∀ e∈ys,(e.list_ = 0∨e.list_ = 1)∧(e.by_ = 1∨e.by_ = -1):=by
    intro e he;rcases List.mem_append.1 (g.mem_iff.1 he) with h | h
    · obtain ⟨a,b,_⟩:=qcr h;exact ⟨.inl a,b⟩
    · obtain ⟨a,b,_⟩:=qcr h;exact ⟨.inr a,b⟩
  have:=J5 (f:=q4o ([p,q],ys) p2) (σ:=List Int × Int × Bool × List qk) (fun k c=>((k : Int),c)) ys.length (qpa f p q ys) (fun out=>Can out∧∀ x,has out x↔f (decide (has p x)) (decide (has q x)) = true) ?_ ?_ (k0:=0) (c0:=([0,0],0,false,[])) q6 ?_
  · obtain ⟨out,r,m⟩:=this;refine ⟨out,?_,m⟩;unfold q3a;have r : loop (q4o ([p,q],ys) p2) (0,[0,0],0,false,[]) = some out:=r;rw [e1];simp only [qj,r];rfl
  · rintro k ⟨opn,d,inn,out⟩ hk ⟨s1,s2,s3,s4,s5,s6,s7,s8⟩;simp only at s1 s2 s3 s4 s5 s6 s7 s8;have ab : decide ((k : Int) < (ys.length : Int)) = true:=Q8 q6;have bd:=qqx ys[k].at_ d inn out q6;have hm:=y ys[k] (Kq hk);have av : ys.take (k + 1) = ys.take k ++ [ys[k]]:=List.take_succ_eq_append_getElem hk;have ao : ∀ e∈ys.take k,e.by_ = 1∨e.by_ = -1:=fun e he=>(y e (List.mem_of_mem_take he)).2;have b0:=qf2 (l:=0) (c:=fun _=>true) ao;have b1:=qf2 (l:=1) (c:=fun _=>true) ao;have ax : (ys.take k).length = k:=by rw [List.length_take];omega
    rw [ax] at b0 b1
    have ad : ∃ v,idxA 2 opn ys[k].list_ = some v∧opn.set ys[k].list_.toNat (w64 (v + ys[k].by_)) = [cnt 0 (fun _=>true) (ys.take (k + 1)),cnt 1 (fun _=>true) (ys.take (k + 1))]:=by
      subst s1;rw [av,q2e,q2e];rcases hm.1 with h | h
      · refine ⟨cnt 0 (fun _=>true) (ys.take k),by rw [h];rfl,?_⟩;rw [h,Qg q6];simp [cnt,h]
      · refine ⟨cnt 1 (fun _=>true) (ys.take k),by rw [h];rfl,?_⟩;rw [h,Qg q6];simp [cnt,h]
    obtain ⟨v,o1,o2⟩:=ad;refine .inl ⟨([cnt 0 (fun _=>true) (ys.take (k + 1)),cnt 1 (fun _=>true) (ys.take (k + 1))],ys[k].at_,f (decide (0 < cnt 0 (fun _=>true) (ys.take (k + 1)))) (decide (0 < cnt 1 (fun _=>true) (ys.take (k + 1)))),if inn = true∧d≠ys[k].at_ then addS out d ys[k].at_ else out),?_,?_⟩
    · have x0 : ∀ a b : Int,idxA 2 [a,b] 0 = some a:=fun a b=>rfl;have x1 : ∀ a b : Int,idxA 2 [a,b] 1 = some b:=fun a b=>rfl;simp only [q4o,ab,Q1,Qt hk,qj,bd,o1,o2,x0,x1,hp2,Bool.not_true,qy];rw [Qg q6];rfl
    · have aa : ∀ x,(0 < k→d≤x)→∀ i (h : i < ys.length),i < k→ys[i].at_≤x:=by
        intro x o i hi al;have:=s3 q6 q6;have:=w i (k - 1) hi q6 q6;have:=o q6;omega
      have ac : ∀ x,x < ys[k].at_→∀ i (h : i < ys.length),k≤i→x < ys[i].at_:=by
        intro x o i hi al;have:=w k i hk hi al;omega
      have hF : ∀ x,(0 < k→d≤x)→x < ys[k].at_→f (decide (has p x)) (decide (has q x)) = inn:=by
        intro x o aw;obtain ⟨c1,c2⟩:=qj1 vp vq g hs k x (aa x o) (ac x aw);rw [s2,decide_eq_decide.2 c1,decide_eq_decide.2 c2]
      have n : 0 < k→d≤ys[k].at_:=by
        intro u;rw [s3 q6 u];exact w (k - 1) k q6 hk q6
      have z : k = 0→inn = false:=by
        intro u;subst u;rw [s2];exact hf
      by_cases s : inn = true∧d≠ys[k].at_
      · have aj : 0 < k:=by
          rcases Nat.eq_zero_or_pos k with h | h
          · rw [z h] at s;cases s.1
          · exact h
        have hl:=n aj;have be : d < ys[k].at_:=by have:=s.2;omega
        obtain ⟨d1,d2,d3,d4⟩:=qi0 s4 s5 be;constructor
        · rfl
        · rfl
        · intro h _;rfl
        · simp only [qr s];exact d1
        · simp only [qr s];exact d3
        · omega
        · intro x;simp only [qr s];rw [d2,s7];constructor
          · rintro (⟨u,r,m⟩ | ⟨r,m⟩)
            · exact ⟨q6,q6,m⟩
            · exact ⟨q6,m,by rw [hF x (fun _=>r) m];exact s.1⟩
          · rintro ⟨u,r,m⟩;by_cases o : x < d
            · exact .inl ⟨aj,o,m⟩
            · exact .inr ⟨q6,r⟩
        · simp only [qr s];have:=qpc out d ys[k].at_;omega
      · constructor
        · rfl
        · rfl
        · intro h _;rfl
        · simp only [qp s];exact s4
        · simp only [qp s];intro t ht;rcases Nat.eq_zero_or_pos k with h | h
          · rw [s6 h] at ht;cases ht
          · have:=s5 t ht;have:=n h;omega
        · omega
        · intro x;simp only [qp s];rw [s7];constructor
          · rintro ⟨u,r,m⟩;exact ⟨q6,by have:=n u;omega,m⟩
          · rintro ⟨u,r,m⟩;by_cases o : 0 < k∧x < d
            · exact ⟨o.1,o.2,m⟩
            · have ak : 0 < k→d≤x:=fun h=>by
                refine Int.not_lt.1 fun h'=>o ⟨h,h'⟩
              have:=hF x ak r;rw [this] at m;refine absurd ⟨m,?_⟩ s;intro e;rcases Nat.eq_zero_or_pos k with h | h
              · rw [z h] at m;cases m
              · have:=ak h;omega
        · simp only [qp s];omega
  · rintro ⟨opn,d,inn,out⟩ ⟨s1,s2,s3,s4,s5,s6,s7,s8⟩;simp only at s1 s2 s3 s4 s5 s6 s7 s8;have ab : decide ((ys.length : Int) < (ys.length : Int)) = false:=Q7 q6;refine ⟨out,by simp only [q4o,ab,qy],s4,fun x=>?_⟩;rw [s7];constructor
    · rintro ⟨_,_,h⟩;exact h
    · intro h;by_cases o : 0 < ys.length∧x < d
      · exact ⟨o.1,o.2,h⟩
      · obtain ⟨c1, c2⟩ := qj1 vp vq g hs ys.length x (fun i hi _ => by
            have:=s3 q6 q6;have:=w i (ys.length - 1) hi q6 q6;have : d≤x:=Int.not_lt.1 fun h'=>o ⟨q6,h'⟩
            omega) (fun i hi bw=>q6)
        have ay : ∀ l,cnt l (fun _=>true) (ys.take ys.length) = 0:=by
          intro l;rw [List.take_length,qj5 g,q2e];by_cases u : l = 0
          · subst u;rw [qj6,q8o qx];rfl
          · rw [q8o u];by_cases r : l = 1
            · subst r;rw [qj6];rfl
            · rw [q8o r];rfl
        rw [ay] at c1 c2;have n1 : ¬ has p x:=fun h=>absurd (c1.2 h) qx;have n2 : ¬ has q x:=fun h=>absurd (c2.2 h) qx;rw [Q7 n1,Q7 n2,hf] at h;cases h
  · constructor
    · simp [cnt]
    · simp [cnt,hf]
    · intro h u;omega
    · exact ⟨fun t ht=>(by cases ht),.nil⟩
    · intro t ht;cases ht
    · intro _;rfl
    · intro x;simp [has]
    · simp
end Go.Sh
namespace Go.Sh
open Go Go.Am
theorem qex {s : List qk} (h : Yt s = 0) : s.length≤400∧Good s:=by
  unfold Yt at h;split at h
  · cases h
  · split at h
    · rename_i b a;exact ⟨q6,a⟩
    · cases h
def dst (x : Int) (t : qk) : Int:=max (max (t.Lo - x) (x - t.Hi + 1)) 0
end Go.Sh
namespace Go.Sh
open Go Go.Am
noncomputable def Jd (kind : Int) (p q : List qk) : List qk:=(qcz kind p q).getD []
theorem q5c (kind : Int) (p q : List qk) (hp : p.length≤100000) (a : q.length≤100000) : qcz kind p q = some (Jd kind p q)∧qed kind p q (Jd kind p q):=by
  obtain ⟨out,c,b⟩:=qt3 kind p q hp a;unfold Jd;rw [c];exact ⟨rfl,b⟩
noncomputable def opS (kind : Int) (p q : List qk) : List qk × Int:=
  if Yt p≠0 then ([],Yt p) else if Yt q≠0 then ([],Yt q) else if 400 < (Jd kind p q).length then ([],4) else (Jd kind p q,0)
open Classical in
theorem qsw (kind : Int) (f : Bool→Bool→Bool) (c : f false false = false) (l : ∀ a b : Prop,(f (decide a) (decide b) = true↔Y2 kind a b)) (p2 : Bool→Bool→Option Bool) (hp2 : ∀ a b,p2 a b = some (f a b))
    (p q : List qk) (hp : p.length≤500) (m : q.length≤500) (g : ∀ t∈p,vld t) (k : ∀ t∈q,vld t) : q3a p q p2 = some (Jd kind p q):=by
  obtain ⟨out,d,h,n⟩:=qkv f c p2 hp2 p q hp m g k;obtain ⟨_,j⟩:=q5c kind p q q6 q6;rw [d];congr 1;refine q52 h j.can fun x=>?_;rw [n,j.pts,l]
open Classical in
theorem qqt (kind : Int) (f : Bool→Bool→Bool) (j : f false false = false) (o : ∀ a b : Prop,(f (decide a) (decide b) = true↔Y2 kind a b)) (p2 : Bool→Bool→Option Bool) (hp2 : ∀ a b,p2 a b = some (f a b))
    (p q : List qk) : qb1 p q p2 = some (opS kind p q):=by
  unfold qb1 opS;simp only [qey,qj];by_cases c : Yt p = 0
  · have g : (Yt p != 0) = false:=by simpa using c
    simp only [g,qy];simp only [c,ne_eq,not_true_eq_false,if_false];by_cases d : Yt q = 0
    · have h : (Yt q != 0) = false:=by simpa using d
      obtain ⟨s,n⟩:=qex c;obtain ⟨r,m⟩:=qex d;simp only [h,qy,d,not_true_eq_false,if_false,qsw kind f j o p2 hp2 p q q6 q6 n.1 m.1,qj];by_cases l : 400 < (Jd kind p q).length
      · have k : decide (((Jd kind p q).length : Int) > 400) = true:=Q8 q6;rw [k,qr l];rfl
      · have k : decide (((Jd kind p q).length : Int) > 400) = false:=Q7 q6;rw [k,qp l];rfl
    · have h : (Yt q != 0) = true:=by simpa using d
      simp only [h,Q1,d,not_false_eq_true,if_true]
  · have g : (Yt p != 0) = true:=by simpa using c
    simp only [g,Q1,c,ne_eq,not_false_eq_true,if_true]
theorem q13y (p q : List qk) : q7y p q = some (opS 2 p q):=by
  classical
  unfold q7y;rw [qqt 2 (fun a b=>a || b) rfl (by intro a b;by_cases c : a <;> by_cases hb : b <;> simp [Y2,c,hb]) _ (by intro a b;cases a <;> rfl)];rfl
theorem qso (s : List qk) (b : qk→Option Bool) (c : qk→Bool) (h : ∀ t,b t = some (c t)) (q : s.length≤1000000) :
    ∃ r,qa0 s b = some r∧decide (r ≥ 0) = s.any c:=by
  have:=J5 (f:=q34 s b) (σ:=Unit) (fun k _=>(k : Int)) s.length (fun k _=>∀ i (h : i < s.length),i < k→c s[i] = false)
    (fun m=>∃ r : Int,(match m with | .inl b22=>some (-1) | .inr x1=>some x1) = some r∧decide (r ≥ 0) = s.any c) ?_ ?_ (k0:=0) (c0:=()) q6 (fun i _ hi=>q6)
  · obtain ⟨m,g,r,l,o⟩:=this;have g : loop (q34 s b) 0 = some m:=g;exact ⟨r,by unfold qa0;rw [g];exact l,o⟩
  · rintro k _ j hi;have hb : decide ((k : Int) < (s.length : Int)) = true:=Q8 q6
    cases d : c s[k] with
    | true=>
      refine .inr ⟨.inr (k : Int),?_,(k : Int),rfl,?_⟩
      · simp only [q34,hb,Q1,Qt j,qj,h,d]
      · have : s.any c = true:=List.any_eq_true.2 ⟨s[k],Kq j,d⟩;rw [this];exact Q8 q6
    | false=>
      refine .inl ⟨(),?_,?_⟩
      · simp only [q34,hb,Q1,Qt j,qj,h,d,qy];rw [Qg q6];rfl
      · intro i a n;by_cases e : i = k
        · subst e;exact d
        · exact hi i a q6
  · rintro _ hi;have hb : decide ((s.length : Int) < (s.length : Int)) = false:=Q7 q6;refine ⟨.inl (),by simp only [q34,hb,qy],-1,rfl,?_⟩
    have : s.any c = false:=by
      rw [List.any_eq_false];intro t p;obtain ⟨i,a,rfl⟩:=List.mem_iff_getElem.1 p;simp [hi i a a]
    rw [this];rfl
theorem qr5 (s : List qk) (a : qk→Option Bool) (c : qk→Bool) (h : ∀ t,a t = some (c t)) (d : s.length≤1000000) : q9y s a = some (s.any c):=by
  obtain ⟨r,b,f⟩:=qso s a c h d;unfold q9y;rw [b,qj,f]
open Classical in
noncomputable def qg2 (s : List qk) : List qk × Int:=if 400 < s.length then ([],4) else if ∀ t∈s,vld t then (Jd 2 s [],0) else ([],8)
theorem qtj (s : List qk) (k : s.length≤400) (c : ∀ t∈s,vld t) (p2 : Bool→Bool→Option Bool) (hp2 : ∀ a b,p2 a b = some a) : q3a s [] p2 = some (Jd 2 s []):=by
  classical
  obtain ⟨out,d,g,f⟩:=qkv (fun a _=>a) rfl p2 hp2 s [] q6 qe c (fun t h=>by cases h);obtain ⟨_,j⟩:=q5c 2 s [] q6 qe;rw [d];congr 1;refine q52 g j.can fun x=>?_;rw [f,j.pts];simp [Y2,q1n]
theorem qti (s : List qk) : q7x s = some (qg2 s):=by
  classical
  unfold q7x qg2;by_cases f : 400 < s.length
  · have e : decide ((s.length : Int) > 400) = true:=Q8 q6;rw [e,qr f];rfl
  · have e : decide ((s.length : Int) > 400) = false:=Q7 q6;rw [e,qp f,qy,qr5 s _ (fun t=>!decide (vld t)) (fun t=>by show (q3b t).bind _ = _;rw [qp1];rfl) q6,qj];by_cases c : ∀ t∈s,vld t
    · have : (s.any fun t=>!decide (vld t)) = false:=by
        rw [List.any_eq_false];intro t d;simp [c t d]
      rw [this,qy,qr c,qtj s q6 c (fun j g=>qb0 j g) (fun a b=>rfl)];rfl
    · have : (s.any fun t=>!decide (vld t)) = true:=by
        rw [List.any_eq_true];obtain ⟨t,c⟩:=Classical.not_forall.1 c;obtain ⟨d,h⟩:=Classical.not_imp.1 c;exact ⟨t,d,by simp [h]⟩
      rw [this,Q1,qp c]
def lenL : List qk→Int
  | []=>0
  | t::s=>(t.Hi - t.Lo) + lenL s
theorem ql3 (a b : List qk) : lenL (a ++ b) = lenL a + lenL b:=by
  induction a with
  | nil=>simp [lenL]
  | cons t a ih=>simp only [List.cons_append,lenL,ih];omega
theorem ql4 : ∀ {s : List qk},(∀ t∈s,vld t)→0≤lenL s∧lenL s≤2000000 * (s.length : Int)
  | [],_=>by simp [lenL]
  | t::s,h=>by
    obtain ⟨d,f⟩:=ql4 (fun t a=>h t (List.mem_cons_of_mem _ a))
    obtain ⟨c,b,g⟩:=h t qe
    simp only [lenL,List.length_cons]
    omega
noncomputable def qfx (s : List qk) : Int × Int:=if Yt s = 0 then (lenL s,0) else (0,Yt s)
theorem qt7 (s : List qk) (o : s.length≤400) (g : ∀ t∈s,vld t) : loop (qaz s) (0,0) = some (lenL s)∧loop (q9d s) (0,0) = some (lenL s):=by
  have d : ∀ k,0≤lenL (s.take k)∧lenL (s.take k)≤800000000:=by
    intro k;have:=ql4 (s:=s.take k) (fun t n=>g t (List.mem_of_mem_take n));have : (s.take k).length≤400:=by rw [List.length_take];omega
    omega
  constructor
  · have:=J5 (f:=qaz s) (σ:=Int) (fun k c=>(c,(k : Int))) s.length (fun k c=>c = lenL (s.take k)) (fun r=>r = lenL s) ?_ ?_ (k0:=0) (c0:=0) q6 (by simp [lenL])
    · obtain ⟨b,h,rfl⟩:=this;exact h
    · rintro k c a rfl;have hb : decide ((k : Int) < (s.length : Int)) = true:=Q8 q6;obtain ⟨l,j,m⟩:=g _ (Kq a);have:=d k;refine .inl ⟨lenL (s.take (k + 1)),?_,rfl⟩;simp only [qaz,hb,Q1,Qt a,qj];rw [Qg (x:=s[k].Hi - s[k].Lo) q6,Qg (x:=lenL (s.take k) + _) q6,Qg q6,List.take_succ_eq_append_getElem a,ql3];simp only [lenL,Int.add_zero];rfl
    · rintro c rfl;have hb : decide ((s.length : Int) < (s.length : Int)) = false:=Q7 q6;exact ⟨_,by simp only [qaz,hb,qy];rfl,by rw [List.take_length]⟩
  · have:=J5 (f:=q9d s) (σ:=Int) (fun k c=>(c,(k : Int))) s.length (fun k c=>c = lenL (s.take k)) (fun r=>r = lenL s) ?_ ?_ (k0:=0) (c0:=0) q6 (by simp [lenL])
    · obtain ⟨b,h,rfl⟩:=this;exact h
    · rintro k c a rfl;have hb : decide ((k : Int) < (s.length : Int)) = true:=Q8 q6;obtain ⟨l,j,m⟩:=g _ (Kq a);have:=d k;refine .inl ⟨lenL (s.take (k + 1)),?_,rfl⟩;simp only [q9d,hb,Q1,Qt a,qj];rw [Qg (x:=lenL (s.take k) + s[k].Hi) q6,Qg (x:=lenL (s.take k) + s[k].Hi - _) q6,Qg q6,List.take_succ_eq_append_getElem a,ql3];have : lenL (s.take k) + s[k].Hi - s[k].Lo = lenL (s.take k) + lenL [s[k]]:=by simp only [lenL];omega
      rw [this];rfl
    · rintro c rfl;have hb : decide ((s.length : Int) < (s.length : Int)) = false:=Q7 q6;exact ⟨_,by simp only [q9d,hb,qy];rfl,by rw [List.take_length]⟩
theorem q14t (s : List qk) : qo6 s = some (qfx s)∧qmd s = some (qfx s):=by
  unfold qo6 qmd qfx;simp only [qey,qw0,qj];by_cases h : Yt s = 0
  · obtain ⟨d,c⟩:=qex h;obtain ⟨a,b⟩:=qt7 s d c.1;have e : (Yt s != 0) = false:=by simpa using h
    simp only [e,qy,a,b,qj];simp only [h,if_true];exact ⟨trivial,trivial⟩
  · have e : (Yt s != 0) = true:=by simpa using h
    simp only [e,Q1,qp h];exact ⟨trivial,trivial⟩
end Go.Sh
set_option maxHeartbeats 4000000
namespace Go.Sh
open Go Go.Am
def sg (a b : Int) : Int:=if a < b then -1 else 0
theorem J7 {a b : Int} : decide (sg a b < 0) = decide (a < b):=by
  unfold sg;by_cases h : a < b <;> simp [h]
def qO (a b : Int) : Option Int:=some (sg a b)
theorem Jg (a b : Int) : qO a b = some (sg a b):=rfl
theorem Je (a b : Int) : Zc a b = some (decide (a < b)):=by
  unfold Zc q8n;have : (a != a) = false:=by simp
  simp []
theorem q11u : qe1 = q59:=rfl
theorem qzx : (fun a=>q2t a) = (fun a=>q3k a):=by
  funext a;simp only [q2t,q3k,q11u]
  all_goals exact K3
theorem qzy  : ∀ a,q2t a = q3k a:=fun a=>(congrFun qzx a)
theorem qzw : (fun a=>q12 a) = (fun a=>q1d a):=by
  funext a;simp only [q12,q1d,qzy]
  all_goals exact K3
theorem qnr  : ∀ a,q12 a = q1d a:=fun a=>(congrFun qzw a)
theorem q10h : (fun a=>q72 a) = (fun a=>Ud a qO):=by
  funext a a443;simp only [q72,Ud,Je,Jg,qj,J7]
  all_goals exact K3
theorem q10i  : ∀ a,q72 a = Ud a qO:=fun a=>(congrFun q10h a)
theorem q10f : (fun p2 a=>q71 p2 a) = (fun p2 a=>q1h p2 a qO):=by
  funext p2 a a270;simp only [q71,q1h,q10i]
  all_goals exact K3
theorem q10g  : ∀ p2 a,q71 p2 a = q1h p2 a qO:=fun p2 a=>(congrFun (congrFun q10f p2) a)
theorem q10d : (fun b a p2=>q70 b a p2) = (fun b a p2=>q2j qO b a p2):=by
  funext b a p2;simp only [q70,q2j,q10g]
  all_goals exact K3
theorem q10e  : ∀ b a p2,q70 b a p2 = q2j qO b a p2:=fun b a p2=>(congrFun (congrFun (congrFun q10d b) a) p2)
theorem q11s : (fun p2 p3=>q7o p2 p3) = (fun p2 p3=>Ug p2 p3 qO):=by
  funext p2 p3 a193;simp only [q7o,Ug,Je,Jg,qj,J7]
  all_goals exact K3
theorem q11t  : ∀ p2 p3,q7o p2 p3 = Ug p2 p3 qO:=fun p2 p3=>(congrFun (congrFun q11s p2) p3)
theorem q11r : (fun b a p2 p3=>q4k b a p2 p3) = (fun b a p2 p3=>q10 qO b a p2 p3):=by
  funext b a p2 p3;simp only [q4k,q10,q11t]
  all_goals exact K3
theorem qnt  : ∀ b a p2 p3,q4k b a p2 p3 = q10 qO b a p2 p3:=fun b a p2 p3=>(congrFun (congrFun (congrFun (congrFun q11r b) a) p2) p3)
theorem q109 : (fun p2 a=>q6y p2 a) = (fun p2 a=>q1f qO p2 a):=by
  funext p2 a a123;simp only [q6y,q1f,qnt]
  all_goals exact K3
theorem q10a  : ∀ p2 a,q6y p2 a = q1f qO p2 a:=fun p2 a=>(congrFun (congrFun q109 p2) a)
theorem q10b : (fun a=>q6z a) = (fun a=>q1g a qO):=by
  funext a a191;simp only [q6z,q1g,qnt]
  all_goals exact K3
theorem q10c  : ∀ a,q6z a = q1g a qO:=fun a=>(congrFun q10b a)
theorem q107 : (fun b a p2=>q6x b a p2) = (fun b a p2=>q2i qO b a p2):=by
  funext b a p2;simp only [q6x,q2i,q10a,q10c]
  all_goals exact K3
theorem q108  : ∀ b a p2,q6x b a p2 = q2i qO b a p2:=fun b a p2=>(congrFun (congrFun (congrFun q107 b) a) p2)
theorem q10m : (fun a=>q20 a) = (fun a=>q2k a):=by
  funext a;simp only [q20,q2k,qnr]
  all_goals exact K3
theorem q10n  : ∀ a,q20 a = q2k a:=fun a=>(congrFun q10m a)
theorem q11v : (fun a=>q21 a) = (fun a=>q2o a):=by
  funext a;simp only [q21,q2o]
  all_goals exact K3
theorem q11w  : ∀ a,q21 a = q2o a:=fun a=>(congrFun q11v a)
theorem q103 : (fun b p2 a=>q6v b p2 a) = (fun b p2 a=>Ur b p2 a):=by
  funext b p2 a a153;simp only [q6v,Ur,q11w]
  all_goals exact K3
theorem q104  : ∀ b p2 a,q6v b p2 a = Ur b p2 a:=fun b p2 a=>(congrFun (congrFun (congrFun q103 b) p2) a)
theorem q101 : (fun b a p2=>q6u b a p2) = (fun b a p2=>q1e qO b a p2):=by
  funext b a p2;simp only [q6u,q1e,q10n,q104]
  all_goals exact K3
theorem q102  : ∀ b a p2,q6u b a p2 = q1e qO b a p2:=fun b a p2=>(congrFun (congrFun (congrFun q101 b) a) p2)
theorem q10o : (fun b a p2 p3=>q36 b a p2 p3) = (fun b a p2 p3=>Ut qO b a p2 p3):=by
  funext b a p2 p3;simp only [q36,Ut,Je,Jg,qj,J7]
  all_goals exact K3
theorem q10p  : ∀ b a p2 p3,q36 b a p2 p3 = Ut qO b a p2 p3:=fun b a p2 p3=>(congrFun (congrFun (congrFun (congrFun q10o b) a) p2) p3)
theorem q10j : (fun b a p2 p3 p4=>q4e b a p2 p3 p4) = (fun b a p2 p3 p4=>Us qO b a p2 p3 p4):=by
  funext b a p2 p3 p4;simp only [q4e,Us,q10p]
  all_goals exact K3
theorem qns  : ∀ b a p2 p3 p4,q4e b a p2 p3 p4 = Us qO b a p2 p3 p4:=fun b a p2 p3 p4=>(congrFun (congrFun (congrFun (congrFun (congrFun q10j b) a) p2) p3) p4)
theorem q10k : (fun b a p2=>q35 b a p2) = (fun b a p2=>Ue qO b a p2):=by
  funext b a p2;simp only [q35,Ue,qns]
  all_goals exact K3
theorem q10l  : ∀ b a p2,q35 b a p2 = Ue qO b a p2:=fun b a p2=>(congrFun (congrFun (congrFun q10k b) a) p2)
theorem q105 : (fun b a p2=>q6w b a p2) = (fun b a p2=>q2h b a p2 qO):=by
  funext b a p2;simp only [q6w,q2h,qns,q10l]
  all_goals exact K3
theorem q106  : ∀ b a p2,q6w b a p2 = q2h b a p2 qO:=fun b a p2=>(congrFun (congrFun (congrFun q105 b) a) p2)
theorem q11q : qaq = q2n:=by
  funext a119;simp only [qaq,q2n]
  all_goals exact K3
theorem q11o : (fun b a p2=>q7m b a p2) = (fun b a p2=>q1m qO b a p2):=by
  funext b a p2;simp only [q7m,q1m,q11q]
  all_goals exact K3
theorem q11p  : ∀ b a p2,q7m b a p2 = q1m qO b a p2:=fun b a p2=>(congrFun (congrFun (congrFun q11o b) a) p2)
theorem q10u : (fun p2 a=>q76 p2 a) = (fun p2 a=>Uu p2 a qO):=by
  funext p2 a a667;simp only [q76,Uu,Je,Jg,qj,J7]
  all_goals exact K3
theorem q10v  : ∀ p2 a,q76 p2 a = Uu p2 a qO:=fun p2 a=>(congrFun (congrFun q10u p2) a)
theorem q10w : qad = Uv qO:=by
  funext a822;simp only [qad,Uv,Je,Jg,qj,J7]
  all_goals exact K3
theorem q10x : (fun p2 a=>q77 p2 a) = (fun p2 a=>Uw p2 qO a):=by
  funext p2 a a912;simp only [q77,Uw,Je,Jg,qj,J7]
  all_goals exact K3
theorem q10y  : ∀ p2 a,q77 p2 a = Uw p2 qO a:=fun p2 a=>(congrFun (congrFun q10x p2) a)
theorem q10s : (fun p2 a=>q4h p2 a) = (fun p2 a=>J3 p2 qO a):=by
  funext p2 a a432;have b : @q4h.match_1.{1} = @J3.match_1.{1} Int:=by funext motive m f g;cases m <;> rfl
  unfold q4h J3;rw [b];simp only [q10v,q10w,q10y]
  all_goals repeat' first | with_reducible rfl | (congr 1) | funext _
  done
theorem q10t  : ∀ p2 a,q4h p2 a = J3 p2 qO a:=fun p2 a=>(congrFun (congrFun q10s p2) a)
theorem q10q : (fun b a p2=>q4g b a p2) = (fun b a p2=>Uf qO b a p2):=by
  funext b a p2;have c : @q4g.match_1.{1} = @Uf.match_1.{1} Int:=by funext motive m f g;cases m <;> rfl
  unfold q4g Uf;rw [c];simp only [q10t]
  all_goals repeat' first | with_reducible rfl | (congr 1) | funext _
  done
theorem q10r  : ∀ b a p2,q4g b a p2 = Uf qO b a p2:=fun b a p2=>(congrFun (congrFun (congrFun q10q b) a) p2)
theorem q114 : (fun a b=>q7a a b) = (fun a b=>Ux a b qO):=by
  funext a b a360;simp only [q7a,Ux,Je,Jg,qj,J7]
  all_goals exact K3
theorem q115  : ∀ a b,q7a a b = Ux a b qO:=fun a b=>(congrFun (congrFun q114 a) b)
theorem q116 : (fun a b c=>q7b a b c) = (fun a b c=>Uy a b c qO):=by
  funext a b c a439;simp only [q7b,Uy,Je,Jg,qj,J7]
  all_goals exact K3
theorem q117  : ∀ a b c,q7b a b c = Uy a b c qO:=fun a b c=>(congrFun (congrFun (congrFun q116 a) b) c)
theorem q112 : (fun a=>q79 a) = (fun a=>q1k a qO):=by
  funext a a304;simp only [q79,q1k,q115,q117]
  all_goals exact K3
theorem q113  : ∀ a,q79 a = q1k a qO:=fun a=>(congrFun q112 a)
theorem q110 : (fun b a p2 p3=>q78 b a p2 p3) = (fun b a p2 p3=>q1j qO b a p2 p3):=by
  funext b a p2 p3;simp only [q78,q1j,q113]
  all_goals exact K3
theorem q111  : ∀ b a p2 p3,q78 b a p2 p3 = q1j qO b a p2 p3:=fun b a p2 p3=>(congrFun (congrFun (congrFun (congrFun q110 b) a) p2) p3)
theorem q119 : (fun p2 d c b p3 a=>q7d p2 d c b p3 a) = (fun p2 d c b p3 a=>q2l p2 d c b p3 a qO):=by
  funext p2 d c b p3 a a159;simp only [q7d,q2l,Je,Jg,qj,J7]
  all_goals exact K3
theorem q11a  : ∀ p2 d c b p3 a,q7d p2 d c b p3 a = q2l p2 d c b p3 a qO:=fun p2 d c b p3 a=>(congrFun (congrFun (congrFun (congrFun (congrFun (congrFun q119 p2) d) c) b) p3) a)
theorem q11b : (fun a f d c p3 b=>q7e a f d c p3 b) = (fun a f d c p3 b=>q2m a f d c p3 b qO):=by
  funext a f d c p3 b a239;simp only [q7e,q2m,Je,Jg,qj,J7]
  all_goals exact K3
theorem q11c  : ∀ a f d c p3 b,q7e a f d c p3 b = q2m a f d c p3 b qO:=fun a f d c p3 b=>(congrFun (congrFun (congrFun (congrFun (congrFun (congrFun q11b a) f) d) c) p3) b)
theorem q11f : (fun a b=>q7g a b) = (fun a b=>Jb a b qO):=by
  funext a b a542;simp only [q7g,Jb,Je,Jg,qj,J7]
  all_goals exact K3
theorem q11g  : ∀ a b,q7g a b = Jb a b qO:=fun a b=>(congrFun (congrFun q11f a) b)
theorem q11h : (fun a b c=>q7h a b c) = (fun a b c=>Jc a b c qO):=by
  funext a b c a622;simp only [q7h,Jc,Je,Jg,qj,J7]
  all_goals exact K3
theorem q11i  : ∀ a b c,q7h a b c = Jc a b c qO:=fun a b c=>(congrFun (congrFun (congrFun q11h a) b) c)
theorem q11d : (fun a=>q7f a) = (fun a=>q1l a qO):=by
  funext a a488;simp only [q7f,q1l,q11g,q11i]
  all_goals exact K3
theorem q11e  : ∀ a,q7f a = q1l a qO:=fun a=>(congrFun q11d a)
theorem q10z : (fun b a p2 p3=>q7c b a p2 p3) = (fun b a p2 p3=>q1i qO b a p2 p3):=by
  funext b a p2 p3;simp only [q7c,q1i,q11a,q11c,q11e]
  all_goals exact K3
theorem q118  : ∀ b a p2 p3,q7c b a p2 p3 = q1i qO b a p2 p3:=fun b a p2 p3=>(congrFun (congrFun (congrFun (congrFun q10z b) a) p2) p3)
theorem q11k : (fun a=>q4i a) = (fun a=>Zr qO a):=by
  funext a a305;have b : @q4i.match_1.{1} = @Zr.match_1.{1} Int:=by funext motive m f g;cases m <;> rfl
  unfold q4i Zr;rw [b];simp only [q10e,q108,q102,q106,q11p,q10r,q111,q118,Je,Jg,qj,J7]
  all_goals repeat' first | with_reducible rfl | (congr 1) | funext _
  done
theorem q11l  : ∀ a,q4i a = Zr qO a:=fun a=>(congrFun q11k a)
theorem q11m : (fun a c b p2 p3=>q4j a c b p2 p3) = (fun a c b p2 p3=>Uz a qO c b p2 p3):=by
  funext a c b p2 p3;simp only [q4j,Uz,q11l]
  all_goals exact K3
theorem q11n  : ∀ a c b p2 p3,q4j a c b p2 p3 = Uz a qO c b p2 p3:=fun a c b p2 p3=>(congrFun (congrFun (congrFun (congrFun (congrFun q11m a) c) b) p2) p3)
theorem q11j : ∀ N,q7l N = Zk N qO:=by
  intro N
  induction N with
  | zero=>rfl
  | succ N ih=>
    funext a b c d;show q4j (q7l N) a b c d = Uz (Zk N qO) qO a b c d;rw [ih,q11n]
theorem qzz : (fun a=>U7 a) = (fun a=>q2g qO a):=by
  funext a;simp only [U7,q2g,qnr,q11j]
  all_goals exact K3
theorem q100  : ∀ a,U7 a = q2g qO a:=fun a=>(congrFun qzz a)
end Go.Sh
