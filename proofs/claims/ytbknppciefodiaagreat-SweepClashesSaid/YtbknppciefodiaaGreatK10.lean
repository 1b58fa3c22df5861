/- Pg4 Pg5 Pg6 Pj1 Pj2 Pl4 Pj3 Po1 -/
import Derived.Test.YtbknppciefodiaaGreatK9
namespace Go.Sh
open Go Go.Am
section
variable {T : Type} [Inhabited T] {P : T→Prop} {lt : T→T→Bool} {q : T→T→Option Int}
theorem qg7 {f : Int→Option (Int ⊕ Int)} (p : T→Bool) (d : Array T) (j : Nat)
    (b : ∀ k : Nat,k≤1000002→f (k : Int) = if (decide (k≤j) && p d[k]!) = true then some (.inl ((k + 1 : Nat) : Int)) else some (.inr (k : Int))) (g : j≤1000000) :
    ∀ (m i : Nat),j + 1 - i = m→i≤1000002→loop f (i : Int) = some ((Sort.scanUp p d j i : Nat) : Int):=by
  intro m
  induction m with
  | zero=>
    intro i c hi
    unfold Sort.scanUp
    have a : ¬ (decide (i≤j) && p d[i]!) = true:=by simp;omega
    rw [if_neg a]
    exact K7 (by rw [b i hi,if_neg a])
  | succ m ih=>
    intro i c hi
    unfold Sort.scanUp
    by_cases a : (decide (i≤j) && p d[i]!) = true
    · rw [if_pos a,Kr (by rw [b i hi,if_pos a])]
      exact ih (i + 1) q0 q0
    · rw [if_neg a]
      exact K7 (by rw [b i hi,if_neg a])
theorem qcj {f : Int→Option (Int ⊕ Int)} (p : T→Bool) (d : Array T) (i n : Nat) (hi : 1≤i)
    (b : ∀ k : Nat,k < n→f (k : Int) = if (decide (i≤k) && p d[k]!) = true then some (.inl ((k - 1 : Nat) : Int)) else some (.inr (k : Int))) :
    ∀ (j : Nat),j < n→loop f (j : Int) = some ((Sort.scanDown p d i j : Nat) : Int)
  | 0,hj=>by
    have a : ¬ (decide (i≤0) && p d[0]!) = true:=by simp;omega
    exact K7 (by rw [b 0 hj,if_neg a];rfl)
  | j + 1,hj=>by
    unfold Sort.scanDown
    by_cases a : (decide (i≤j + 1) && p d[j + 1]!) = true
    · rw [if_pos a,Kr (by rw [b (j + 1) hj,if_pos a])]
      exact qcj p d i n hi b j q0
    · rw [if_neg a]
      exact K7 (by rw [b (j + 1) hj,if_neg a])
theorem qlc (g : Ko q lt P) {n : Nat} {d : Array T} (hd : AllP n P d) {a j : Nat} (l : a < n) (m : j < n) (x : Int) (k : Nat) (o : k≤1000002) :
    Zz (x,(j : Int),d.toList) (a : Int) q (k : Int) = if (decide (k≤j) && (fun x=>lt x d[a]!) d[k]!) = true then some (.inl ((k + 1 : Nat) : Int)) else some (.inr (k : Int)):=by
  have b:=hd.1
  by_cases h : k≤j
  · obtain ⟨r,f,c⟩:=g d[k]! d[a]! (hd.2.2 _ q0) (hd.2.2 _ l)
    have t : decide ((k : Int)≤(j : Int)) = true:=decide_eq_true q0
    simp only [Zz,t,cond_true,gx (d:=d) (k:=k) q0,gx (d:=d) (k:=a) q0,Option.bind_some,f,c,w1p k q0]
    simp only [decide_eq_true h,Bool.true_and,Bool.cond_eq_ite]
  · have t : decide ((k : Int)≤(j : Int)) = false:=decide_eq_false q0
    simp only [Zz,t,cond_false,Option.bind_some]
    simp [h]
theorem qld (g : Ko q lt P) {n : Nat} {d : Array T} (hd : AllP n P d) {a i : Nat} (j : a < n) (hi : 1≤i) (x y : Int) (k : Nat) (l : k < n) :
    J0 (i : Int) (x,y,d.toList) (a : Int) q (k : Int) = if (decide (i≤k) && (fun x=>!lt x d[a]!) d[k]!) = true then some (.inl ((k - 1 : Nat) : Int)) else some (.inr (k : Int)):=by
  have b:=hd.1
  have m:=hd.2.1
  by_cases h : i≤k
  · obtain ⟨r,f,c⟩:=g d[k]! d[a]! (hd.2.2 _ q0) (hd.2.2 _ j)
    have t : decide ((i : Int)≤(k : Int)) = true:=decide_eq_true q0
    have w : w64 ((k : Int) - 1) = ((k - 1 : Nat) : Int):=by rw [Qe q0];omega
    simp only [J0,t,cond_true,gx (d:=d) (k:=k) q0,gx (d:=d) (k:=a) q0,Option.bind_some,f,c,w]
    simp only [decide_eq_true h,Bool.true_and,Bool.cond_eq_ite]
  · have t : decide ((i : Int)≤(k : Int)) = false:=decide_eq_false q0
    simp only [J0,t,cond_false,Option.bind_some]
    simp [h]
theorem qux (g : Ko q lt P) {n : Nat} {d : Array T} (hd : AllP n P d) {a j : Nat} (l : a < n) (m : j < n) (x : Int) (k : Nat) (o : k≤1000002) :
    Uk (x,(j : Int),d.toList) (a : Int) q (k : Int) = if (decide (k≤j) && (fun x=>!lt d[a]! x) d[k]!) = true then some (.inl ((k + 1 : Nat) : Int)) else some (.inr (k : Int)):=by
  have b:=hd.1
  by_cases h : k≤j
  · obtain ⟨r,f,c⟩:=g d[a]! d[k]! (hd.2.2 _ l) (hd.2.2 _ q0)
    have t : decide ((k : Int)≤(j : Int)) = true:=decide_eq_true q0
    simp only [Uk,t,cond_true,gx (d:=d) (k:=k) q0,gx (d:=d) (k:=a) q0,Option.bind_some,f,c,w1p k q0]
    simp only [decide_eq_true h,Bool.true_and,Bool.cond_eq_ite]
  · have t : decide ((k : Int)≤(j : Int)) = false:=decide_eq_false q0
    simp only [Uk,t,cond_false,Option.bind_some]
    simp [h]
theorem quy (g : Ko q lt P) {n : Nat} {d : Array T} (hd : AllP n P d) {a i : Nat} (j : a < n) (hi : 1≤i) (x y : Int) (k : Nat) (l : k < n) :
    Ul (i : Int) (x,y,d.toList) (a : Int) q (k : Int) = if (decide (i≤k) && (fun x=>lt d[a]! x) d[k]!) = true then some (.inl ((k - 1 : Nat) : Int)) else some (.inr (k : Int)):=by
  have b:=hd.1
  have m:=hd.2.1
  by_cases h : i≤k
  · obtain ⟨r,f,c⟩:=g d[a]! d[k]! (hd.2.2 _ j) (hd.2.2 _ q0)
    have t : decide ((i : Int)≤(k : Int)) = true:=decide_eq_true q0
    have w : w64 ((k : Int) - 1) = ((k - 1 : Nat) : Int):=by rw [Qe q0];omega
    simp only [Ul,t,cond_true,gx (d:=d) (k:=k) q0,gx (d:=d) (k:=a) q0,Option.bind_some,f,c,w]
    simp only [decide_eq_true h,Bool.true_and,Bool.cond_eq_ite]
  · have t : decide ((i : Int)≤(k : Int)) = false:=decide_eq_false q0
    simp only [Ul,t,cond_false,Option.bind_some]
    simp [h]
theorem qus (s : Ko q lt P) (a n : Nat) (u : a < n) : ∀ (m i j : Nat) (d : Array T),j + 1 - i = m→AllP n P d→1≤i→i≤n + 1→j < n→
    loop (q19 (a : Int) q) ((i : Int),(j : Int),d.toList) = some (((Sort.partLoop lt a i j d).1 : Int),(Sort.partLoop lt a i j d).2.toList)∧AllP n P (Sort.partLoop lt a i j d).2∧(Sort.partLoop lt a i j d).1 < n:=by
  intro m
  induction m using Nat.strongRecOn with
  | _ m ih=>
    intro i j d hm hd hi z r
    have ab:=hd.1
    have hn:=hd.2.1
    rw [Sort.partLoop_eq]
    have l:=qg7 (f:=Zz ((i : Int),(j : Int),d.toList) (a : Int) q) (fun x=>lt x d[a]!) d j (fun k p=>qlc s hd u r _ k p) q0 _ i rfl q0
    have g1:=Sort.scanUp_ge (fun x=>lt x d[a]!) d j i
    have y:=(Sort.scanUp_spec (fun x=>lt x d[a]!) d j _ i rfl).2.1
    generalize Sort.scanUp (fun x=>lt x d[a]!) d j i = c at l g1 y ⊢
    have o:=qcj (f:=J0 (c : Int) ((i : Int),(j : Int),d.toList) (a : Int) q) (fun x=>!lt x d[a]!) d c n q0 (fun k p=>qld s hd u q0 _ _ k p) j r
    have g2:=Sort.scanDown_le (fun x=>!lt x d[a]!) d c j
    generalize Sort.scanDown (fun x=>!lt x d[a]!) d c j = g at o g2 ⊢
    by_cases v : c > g
    · rw [if_pos v]
      have t : decide ((c : Int) > (g : Int)) = true:=decide_eq_true q0
      refine ⟨K7 ?_,hd,by show g < n;omega⟩
      simp only [q19,l,o,Option.bind_some,t,cond_true]
    · rw [if_neg v]
      have t : decide ((c : Int) > (g : Int)) = false:=decide_eq_false q0
      have h:=ih ((g - 1) + 1 - (c + 1)) q0 (c + 1) (g - 1) _ rfl (hd.swp (a:=c) (b:=g) q0 q0) q0 q0 q0
      refine ⟨?_,h.2⟩
      rw [Kr (a':=(((c + 1 : Nat) : Int),((g - 1 : Nat) : Int),(Sort.swp d c g).toList)) ?_]
      · exact h.1
      · have w : w64 ((g : Int) - 1) = ((g - 1 : Nat) : Int):=by rw [Qe q0];omega
        simp only [q19,l,o,Option.bind_some,t,cond_false,gx (d:=d) (k:=c) q0,gx (d:=d) (k:=g) q0,gxs (d:=d) (k:=g) q0,Int.toNat_natCast,gswp,w,w1p c q0]
theorem qur (r : Ko q lt P) (a n : Nat) (s : a < n) : ∀ (m i j : Nat) (d : Array T),j + 1 - i = m→AllP n P d→1≤i→i≤n + 1→j < n→
    loop (q18 (a : Int) q) ((i : Int),(j : Int),d.toList) = some (((Sort.partEqLoop lt a i j d).1 : Int),(Sort.partEqLoop lt a i j d).2.toList):=by
  intro m
  induction m using Nat.strongRecOn with
  | _ m ih=>
    intro i j d hm hd hi y p
    have aa:=hd.1
    have hn:=hd.2.1
    rw [Sort.partEqLoop_eq]
    have h:=qg7 (f:=Uk ((i : Int),(j : Int),d.toList) (a : Int) q) (fun x=>!lt d[a]! x) d j (fun k o=>qux r hd s p _ k o) q0 _ i rfl q0
    have z:=Sort.scanUp_ge (fun x=>!lt d[a]! x) d j i
    have v:=(Sort.scanUp_spec (fun x=>!lt d[a]! x) d j _ i rfl).2.1
    generalize Sort.scanUp (fun x=>!lt d[a]! x) d j i = c at h z v ⊢
    have l:=qcj (f:=Ul (c : Int) ((i : Int),(j : Int),d.toList) (a : Int) q) (fun x=>lt d[a]! x) d c n q0 (fun k o=>quy r hd s q0 _ _ k o) j p
    have g2:=Sort.scanDown_le (fun x=>lt d[a]! x) d c j
    generalize Sort.scanDown (fun x=>lt d[a]! x) d c j = g at l g2 ⊢
    by_cases u : c > g
    · rw [if_pos u]
      have t : decide ((c : Int) > (g : Int)) = true:=decide_eq_true q0
      refine K7 ?_
      simp only [q18,h,l,Option.bind_some,t,cond_true]
    · rw [if_neg u]
      have t : decide ((c : Int) > (g : Int)) = false:=decide_eq_false q0
      rw [Kr (a':=(((c + 1 : Nat) : Int),((g - 1 : Nat) : Int),(Sort.swp d c g).toList)) ?_]
      · exact ih ((g - 1) + 1 - (c + 1)) q0 (c + 1) (g - 1) _ rfl (hd.swp (a:=c) (b:=g) q0 q0) q0 q0 q0
      · have w : w64 ((g : Int) - 1) = ((g - 1 : Nat) : Int):=by rw [Qe q0];omega
        simp only [q18,h,l,Option.bind_some,t,cond_false,gx (d:=d) (k:=c) q0,gx (d:=d) (k:=g) q0,gxs (d:=d) (k:=g) q0,Int.toNat_natCast,gswp,w,w1p c q0]
theorem quu (g : Ko q lt P) {a b n p : Nat} (hb : b≤n) (f : a < b) (hp : p < n) {d : Array T} (hd : AllP n P d) :
    q17 q d.toList (a : Int) (b : Int) (p : Int) = some (((Sort.partitionEqual lt d a b p).1 : Int),(Sort.partitionEqual lt d a b p).2.toList):=by
  have c:=hd.1
  have h:=hd.2.1
  have w : w64 ((b : Int) - 1) = ((b - 1 : Nat) : Int):=by rw [Qe q0];omega
  have s:=qur g a n q0 _ (a + 1) (b - 1) _ rfl (hd.swp (a:=a) (b:=p) q0 hp) q0 q0 q0
  unfold q17 Sort.partitionEqual
  simp only [gx (d:=d) (k:=p) q0,gx (d:=d) (k:=a) q0,gxs (d:=d) (k:=p) q0,Option.bind_some,Int.toNat_natCast,gswp,w,w1p a q0,s]
theorem quv (j : Ko q lt P) {a b n p : Nat} (hb : b≤n) (y : a < b) (hp : p < n) {d : Array T} (hd : AllP n P d) :
    q16 q d.toList (a : Int) (b : Int) (p : Int) = some (((Sort.partition lt d a b p).1 : Int),(Sort.partition lt d a b p).2.1,(Sort.partition lt d a b p).2.2.toList):=by
  have ac:=hd.1
  have hn:=hd.2.1
  have w : w64 ((b : Int) - 1) = ((b - 1 : Nat) : Int):=by rw [Qe q0];omega
  have h:=hd.swp (a:=a) (b:=p) q0 hp
  have e1 : q26 (b : Int) d.toList (a : Int) d[p]! (p : Int) d[a]! q = Zz ((0 : Int),((b - 1 : Nat) : Int),(Sort.swp d a p).toList) (a : Int) q:=by
    funext k
    simp only [q26,Zz,w,Int.toNat_natCast,gswp]
  have e2 : ∀ c : Int,q27 c d.toList (a : Int) d[p]! (p : Int) d[a]! q = J0 c ((0 : Int),(0 : Int),(Sort.swp d a p).toList) (a : Int) q:=by
    intro c;funext k
    simp only [q27,J0,Int.toNat_natCast,gswp]
  unfold q16 Sort.partition
  simp only [gx (d:=d) (k:=p) q0,gx (d:=d) (k:=a) q0,gxs (d:=d) (k:=p) q0,Option.bind_some,e1,e2,Int.toNat_natCast,gswp,w,w1p a q0]
  generalize Sort.swp d a p = D at h ⊢
  have z:=h.1
  have m:=qg7 (f:=Zz ((0 : Int),((b - 1 : Nat) : Int),D.toList) (a : Int) q) (fun x=>lt x D[a]!) D (b - 1) (fun k l=>qlc j h q0 q0 _ k l) q0 _ (a + 1) rfl q0
  have g1:=Sort.scanUp_ge (fun x=>lt x D[a]!) D (b - 1) (a + 1)
  generalize Sort.scanUp (fun x=>lt x D[a]!) D (b - 1) (a + 1) = c at m g1 ⊢
  have o:=qcj (f:=J0 (c : Int) ((0 : Int),(0 : Int),D.toList) (a : Int) q) (fun x=>!lt x D[a]!) D c n q0 (fun k l=>qld j h q0 q0 _ _ k l) (b - 1) q0
  have g2:=Sort.scanDown_le (fun x=>!lt x D[a]!) D c (b - 1)
  generalize Sort.scanDown (fun x=>!lt x D[a]!) D c (b - 1) = g at o g2 ⊢
  simp only [m,o,Option.bind_some]
  by_cases s : c > g
  · have t : decide ((c : Int) > (g : Int)) = true:=decide_eq_true q0
    simp only [if_pos s,t,cond_true,gx (d:=D) (k:=a) q0,gx (d:=D) (k:=g) q0,gxs (d:=D) (k:=a) q0,Option.bind_some,Int.toNat_natCast,gswp]
  · have t : decide ((c : Int) > (g : Int)) = false:=decide_eq_false q0
    have u : w64 ((g : Int) - 1) = ((g - 1 : Nat) : Int):=by rw [Qe q0];omega
    obtain ⟨v,r,b3⟩:=qus j a n q0 _ (c + 1) (g - 1) _ rfl (h.swp (a:=c) (b:=g) q0 q0) q0 q0 q0
    simp only [if_neg s,t,cond_false,gx (d:=D) (k:=c) q0,gx (d:=D) (k:=g) q0,gxs (d:=D) (k:=g) q0,Option.bind_some,Int.toNat_natCast,gswp,u,w1p c q0,v]
    generalize Sort.partLoop lt a (c + 1) (g - 1) (Sort.swp D c g) = R at r b3 ⊢
    have ad:=r.1
    simp only [gx (d:=R.2) (k:=a) q0,gx (d:=R.2) (k:=R.1) q0,gxs (d:=R.2) (k:=a) q0,Option.bind_some,Int.toNat_natCast,gswp]
theorem qwq (o : Ko q lt P) {b n : Nat} (hb : b≤n) {d : Array T} (hd : AllP n P d) (x y : Int) : ∀ (m i : Nat),b - i = m→1≤i→i≤b→
    loop (Uh (b : Int) (x,y,d.toList) q) (i : Int) = some ((Sort.scanSorted lt d b i : Nat) : Int)∧i≤Sort.scanSorted lt d b i∧Sort.scanSorted lt d b i≤b:=by
  have l:=hd.1
  have p:=hd.2.1
  intro m
  induction m with
  | zero=>
    intro i j hi a
    unfold Sort.scanSorted
    rw [if_neg (by simp;omega)]
    have t : decide ((i : Int) < (b : Int)) = false:=decide_eq_false q0
    exact ⟨K7 (by simp only [Uh,t,cond_false,Option.bind_some]),Nat.le_refl _,a⟩
  | succ m ih=>
    intro i j hi a
    unfold Sort.scanSorted
    have t : decide ((i : Int) < (b : Int)) = true:=decide_eq_true q0
    have w : w64 ((i : Int) - 1) = ((i - 1 : Nat) : Int):=by rw [Qe q0];omega
    obtain ⟨r,h,g⟩:=o d[i]! d[i - 1]! (hd.2.2 _ q0) (hd.2.2 _ q0)
    by_cases c : lt d[i]! d[i - 1]! = true
    · rw [if_neg (by simp [c])]
      refine ⟨K7 ?_,Nat.le_refl _,a⟩
      simp only [Uh,t,cond_true,w,gx (d:=d) (k:=i) q0,gx (d:=d) (k:=i - 1) q0,Option.bind_some,h,g,c,Bool.not_true,cond_false]
    · have c : lt d[i]! d[i - 1]! = false:=by simpa using c
      rw [if_pos (by simp [c];omega)]
      have f:=ih (i + 1) q0 q0 q0
      refine ⟨?_,q0,f.2.2⟩
      rw [Kr (a':=((i + 1 : Nat) : Int)) ?_]
      · exact f.1
      · simp only [Uh,t,cond_true,w,gx (d:=d) (k:=i) q0,gx (d:=d) (k:=i - 1) q0,Option.bind_some,h,g,c,Bool.not_false,w1p i q0]
theorem qmn (l : Ko q lt P) (n : Nat) : ∀ (j : Nat) (d : Array T),AllP n P d→j < n→loop (Ui q) ((j : Int),d.toList) = some (Sort.shiftDown lt j d).toList∧AllP n P (Sort.shiftDown lt j d)
  | 0,d,hd,hj=>by
    have t : decide (((0 : Nat) : Int) ≥ 1) = false:=decide_eq_false q0
    exact ⟨K7 (by simp only [Ui,t,cond_false];rfl),hd⟩
  | j + 1,d,hd,hj=>by
    have m:=hd.1
    have o:=hd.2.1
    have t : decide (((j + 1 : Nat) : Int) ≥ 1) = true:=decide_eq_true q0
    obtain ⟨r,h,g⟩:=l d[j + 1]! d[j]! (hd.2.2 _ hj) (hd.2.2 _ q0)
    unfold Sort.shiftDown
    by_cases c : lt d[j + 1]! d[j]! = true
    · rw [if_neg (by simp [c])]
      have f:=qmn l n j _ (hd.swp (a:=j + 1) (b:=j) hj q0) q0
      refine ⟨?_,f.2⟩
      rw [Kr (a':=((j : Int),(Sort.swp d (j + 1) j).toList)) ?_]
      · exact f.1
      · simp only [Ui,t,cond_true,gx (d:=d) (k:=j + 1) q0,w1m j q0,gx (d:=d) (k:=j) q0,gxs (d:=d) (k:=j) q0,Option.bind_some,h,g,c,Bool.not_true,cond_false,Int.toNat_natCast,gswp]
    · have c : lt d[j + 1]! d[j]! = false:=by simpa using c
      rw [if_pos (by simp [c])]
      refine ⟨K7 ?_,hd⟩
      simp only [Ui,t,cond_true,gx (d:=d) (k:=j + 1) q0,w1m j q0,gx (d:=d) (k:=j) q0,Option.bind_some,h,g,c,Bool.not_false]
theorem qmp (u : Ko q lt P) {b n : Nat} (hb : b≤n) (c : Int) : ∀ (m j : Nat) (d : Array T),b - j = m→AllP n P d→1≤j→loop (Uj (b : Int) q c) ((j : Int),d.toList) = some (c,(Sort.shiftUp lt b j d).toList)∧AllP n P (Sort.shiftUp lt b j d):=by
  intro m
  induction m with
  | zero=>
    intro j d o hd s
    unfold Sort.shiftUp
    rw [if_neg q0]
    have t : decide ((j : Int) < (b : Int)) = false:=decide_eq_false q0
    exact ⟨K7 (by simp only [Uj,t,cond_false]),hd⟩
  | succ m ih=>
    intro j d o hd s
    have p:=hd.1
    have v:=hd.2.1
    unfold Sort.shiftUp
    rw [if_pos q0]
    have t : decide ((j : Int) < (b : Int)) = true:=decide_eq_true q0
    have w : w64 ((j : Int) - 1) = ((j - 1 : Nat) : Int):=by rw [Qe q0];omega
    obtain ⟨r,l,h⟩:=u d[j]! d[j - 1]! (hd.2.2 _ q0) (hd.2.2 _ q0)
    by_cases f : lt d[j]! d[j - 1]! = true
    · rw [if_neg (by simp [f])]
      have g:=ih (j + 1) _ q0 (hd.swp (a:=j) (b:=j - 1) q0 q0) q0
      refine ⟨?_,g.2⟩
      rw [Kr (a':=(((j + 1 : Nat) : Int),(Sort.swp d j (j - 1)).toList)) ?_]
      · exact g.1
      · simp only [Uj,t,cond_true,w,gx (d:=d) (k:=j) q0,gx (d:=d) (k:=j - 1) q0,gxs (d:=d) (k:=j - 1) q0,Option.bind_some,l,h,f,Bool.not_true,cond_false,Int.toNat_natCast,gswp,w1p j q0]
    · have f : lt d[j]! d[j - 1]! = false:=by simpa using f
      rw [if_pos (by simp [f])]
      refine ⟨K7 ?_,hd⟩
      simp only [Uj,t,cond_true,w,gx (d:=d) (k:=j) q0,gx (d:=d) (k:=j - 1) q0,Option.bind_some,l,h,f,Bool.not_false]
theorem qlf (j : Ko q lt P) {a b n : Nat} (hb : b≤n) : ∀ (s i : Nat) (d : Array T),s≤5→AllP n P d→a < i→i≤b→
    ∃ m,loop (Zq (b : Int) q (a : Int)) ((i : Int),((5 - s : Nat) : Int),d.toList) = some m∧(match m with | .inl b441=>some (false,b441) | .inr x1=>some x1) = some ((Sort.partialIns lt a b s i d).2,(Sort.partialIns lt a b s i d).1.toList)
  | 0,i,d,hs,hd,hi,hib=>by
    have t : decide (((5 - 0 : Nat) : Int) < 5) = false:=decide_eq_false q0
    refine ⟨.inl d.toList,K7 (by simp only [Zq,t,cond_false]),rfl⟩
  | s + 1,i,d,hs,hd,hi,hib=>by
    have ag:=hd.1
    have hn:=hd.2.1
    have t : decide (((5 - (s + 1) : Nat) : Int) < 5) = true:=decide_eq_true q0
    rw [Sort.partialIns_succ]
    obtain ⟨p,l1,w⟩:=qwq j hb hd (i : Int) ((5 - (s + 1) : Nat) : Int) _ i rfl q0 hib
    generalize Sort.scanSorted lt d b i = k at p l1 w ⊢
    by_cases hk : k = b
    · subst hk
      rw [if_pos rfl]
      refine ⟨.inr (true,d.toList),K7 ?_,rfl⟩
      simp only [Zq,t,cond_true,p,Option.bind_some,beq_self_eq_true]
    · rw [if_neg hk]
      have z : ((k : Int) == (b : Int)) = false:=by simp;omega
      have e0 : w64 ((b : Int) - (a : Int)) = ((b - a : Nat) : Int):=wsub q0 q0
      by_cases o : b - a < 50
      · rw [if_pos o]
        have c : decide (((b - a : Nat) : Int) < 50) = true:=decide_eq_true q0
        refine ⟨.inr (false,d.toList),K7 ?_,rfl⟩
        simp only [Zq,t,cond_true,p,Option.bind_some,z,cond_false,e0,c]
      · rw [if_neg o]
        have c : decide (((b - a : Nat) : Int) < 50) = false:=decide_eq_false q0
        have wk : w64 ((k : Int) - 1) = ((k - 1 : Nat) : Int):=by rw [Qe q0];omega
        have wa : w64 ((k : Int) - (a : Int)) = ((k - a : Nat) : Int):=wsub q0 q0
        have wb : w64 ((b : Int) - (k : Int)) = ((b - k : Nat) : Int):=wsub q0 q0
        have l:=hd.swp (a:=k) (b:=k - 1) q0 q0
        have down : (cond (decide (((k - a : Nat) : Int) ≥ 2)) ((loop (Ui q) (((k - 1 : Nat) : Int),(Sort.swp d k (k - 1)).toList)).bind fun x0=>some x0) (some (Sort.swp d k (k - 1)).toList)) = some (Sort.fixDown lt a k (Sort.swp d k (k - 1))).toList∧AllP n P (Sort.fixDown lt a k (Sort.swp d k (k - 1))):=by
          unfold Sort.fixDown
          by_cases h : k - a ≥ 2
          · have f : decide (((k - a : Nat) : Int) ≥ 2) = true:=decide_eq_true q0
            obtain ⟨x,y⟩:=qmn j n (k - 1) _ l q0
            rw [if_pos h,f,cond_true,x];exact ⟨rfl,y⟩
          · have f : decide (((k - a : Nat) : Int) ≥ 2) = false:=decide_eq_false q0
            rw [if_neg h,f,cond_false];exact ⟨rfl,l⟩
        obtain ⟨dn,g⟩:=down
        have u : AllP n P (Sort.fixUp lt b k (Sort.fixDown lt a k (Sort.swp d k (k - 1)))):=by
          unfold Sort.fixUp
          split
          · exact (qmp j hb 0 _ (k + 1) _ rfl g q0).2
          · exact g
        obtain ⟨m,v,r⟩:=qlf (a:=a) j hb s k _ q0 u q0 w
        refine ⟨m,?_,r⟩
        rw [Kr (a':=((k : Int),((5 - s : Nat) : Int),(Sort.fixUp lt b k (Sort.fixDown lt a k (Sort.swp d k (k - 1)))).toList)) ?_]
        · exact v
        · have w5 : w64 (((5 - (s + 1) : Nat) : Int) + 1) = ((5 - s : Nat) : Int):=by rw [Qe q0];omega
          simp only [Zq,t,cond_true,p,Option.bind_some,z,cond_false,e0,c,wk,gx (d:=d) (k:=k) q0,gx (d:=d) (k:=k - 1) q0,gxs (d:=d) (k:=k - 1) q0,Int.toNat_natCast,gswp,wa,dn,wb,w1p k q0]
          unfold Sort.fixUp
          by_cases h : b - k ≥ 2
          · have f : decide (((b - k : Nat) : Int) ≥ 2) = true:=decide_eq_true q0
            obtain ⟨x,y⟩:=qmp j hb (k : Int) _ (k + 1) _ rfl g q0
            rw [if_pos h,f,cond_true,x]
            simp only [Option.bind_some,w5]
          · have f : decide (((b - k : Nat) : Int) ≥ 2) = false:=decide_eq_false q0
            rw [if_neg h,f,cond_false]
            simp only [Option.bind_some,w5]
theorem qut (h : Ko q lt P) {a b n : Nat} (hb : b≤n) (g : a < b) {d : Array T} (hd : AllP n P d) :
    U1 q d.toList (a : Int) (b : Int) = some ((Sort.partialInsertionSort lt d a b).2,(Sort.partialInsertionSort lt d a b).1.toList):=by
  have j:=hd.2.1
  obtain ⟨m,c,f⟩:=qlf (a:=a) h hb 5 (a + 1) d q0 hd q0 q0
  have c : loop (Zq (b : Int) q (a : Int)) (((a + 1 : Nat) : Int),0,d.toList) = some m:=c
  unfold U1 Sort.partialInsertionSort
  rw [w1p a q0,c]
  exact f
end
end Go.Sh
namespace Go.Sh
open Go Go.Am
theorem qkh {α β : Type} {f : α→Option (α ⊕ β)} {a : α} (h : f a = none) : loop f a = none:=by
  apply Option.ext
  intro b
  rw [q8p]
  constructor
  · rintro ⟨n,c⟩
    cases n with
    | zero=>simp [iter] at c
    | succ n=>simp [iter,h] at c
  · intro h;cases h
section
variable {T : Type} [Inhabited T] {P : T→Prop} {lt : T→T→Bool} {q : T→T→Option Int}
def Srt (lt : T→T→Bool) (a b : Nat) (d : Array T) (o : Option (List T)) : Prop:=∃ d' : Array T,o = some d'.toList∧Sort.PermIn a b d d'∧Sort.SortedIn lt a b d'
theorem quw (hq : Ko q lt P) (hS : Sort.SWO lt) {n N : Nat} (ae : List T→Int→Int→Int→Option (List T))
    (an : ∀ (a b f : Nat) (d : Array T),AllP n P d→a≤b→b≤n→f≤1000→Sort.Below lt a b d→Srt lt a b d (ae d.toList (a : Int) (b : Int) (f : Int))∨(N≤b - a∧ae d.toList (a : Int) (b : Int) (f : Int) = none)) :
    ∀ (m a b f : Nat) (wb wp : Bool) (d : Array T),b - a = m→AllP n P d→a≤b→b≤n→f≤1000→Sort.Below lt a b d→
      Srt lt a b d (loop (Ze q ae) ((a : Int),(b : Int),(f : Int),wb,wp,d.toList))∨(N + 1≤b - a∧loop (Ze q ae) ((a : Int),(b : Int),(f : Int),wb,wp,d.toList) = none):=by
  intro m
  induction m using Nat.strongRecOn with
  | _ m ih=>
    intro a b f wb wp d hm hd o hb hl hB
    have dk:=hd.1
    have hn:=hd.2.1
    have e0 : w64 ((b : Int) - (a : Int)) = ((b - a : Nat) : Int):=wsub o q0
    by_cases dm : b - a≤12
    ·
      have t : decide (((b - a : Nat) : Int)≤12) = true:=decide_eq_true q0
      obtain ⟨x,y⟩:=Sort.insertionSort_holds (lt:=lt) hS d a b o q0
      have s:=qrz hq hb o hd
      refine .inl ⟨_,K7 ?_,x,y⟩
      simp only [Ze,e0,t,cond_true,s,Option.bind_some,U6 hd (hd.perm o hb x)]
    have bs : decide (((b - a : Nat) : Int)≤12) = false:=decide_eq_false q0
    by_cases h0 : f = 0
    ·
      have t : ((f : Int) == 0) = true:=by simp [h0]
      obtain ⟨x,y⟩:=Sort.heapSort_holds (lt:=lt) hS d a b o q0
      have s:=qru hq hb (by omega : a < b) hd
      refine .inl ⟨_,K7 ?_,x,y⟩
      simp only [Ze,e0,bs,cond_false,t,cond_true,s,Option.bind_some,U6 hd (hd.perm o hb x)]
    have t0 : ((f : Int) == 0) = false:=by simp [h0]
    have hA : ∃ (l1 : Nat) (d1 : Array T),(cond (!wb) ((q12 q d.toList (a : Int) (b : Int)).bind fun az=>(Qu az.length d.toList.length).bind fun cu=>some (w64 ((f : Int) - 1),az)) (some ((f : Int),d.toList))) = some ((l1 : Int),d1.toList)∧l1≤1000∧AllP n P d1∧Sort.PermIn a b d d1:=by
      cases wb with
      | true=>exact ⟨f,d,rfl,hl,hd,Sort.permIn_refl _ _ _⟩
      | false=>
        have x:=Sort.breakPatterns_holds d a b o q0
        have z:=hd.perm o hb x
        have w : w64 ((f : Int) - 1) = ((f - 1 : Nat) : Int):=by rw [Qe q0];omega
        refine ⟨f - 1,_,?_,q0,z,x⟩
        simp only [Bool.not_false,cond_true,qp5 (q:=q) hb (by omega : a < b) hd,Option.bind_some,U6 hd z,w]
    obtain ⟨l1,d1,eA,al,z,p1⟩:=hA
    have hC:=qq3 hq z (by omega : a < b) hb
    obtain ⟨c1,c2⟩:=Sort.choosePivot_holds lt d1 a b q0
    generalize (Sort.choosePivot lt d1 a b).1 = c at hC c1 c2
    generalize qey (Sort.choosePivot lt d1 a b).2 = h at hC
    have hR : ∃ (p : Nat) (h2 : Int) (d2 : Array T),(cond (h == 2) ((q1a q d1.toList (a : Int) (b : Int)).bind fun be=>(Qu be.length d1.toList.length).bind fun de=>some (w64 ((w64 ((b : Int) - 1)) - (w64 ((c : Int) - (a : Int)))),(1 : Int),be)) (some ((c : Int),h,d1.toList))) = some ((p : Int),h2,d2.toList)∧a≤p∧p < b∧AllP n P d2∧Sort.PermIn a b d1 d2:=by
      cases hh : (h == 2) with
      | false=>exact ⟨c,h,d1,rfl,c1,c2,z,Sort.permIn_refl _ _ _⟩
      | true=>
        have x:=Sort.reverseRange_holds d1 a b o (by rw [z.1];exact hb)
        have ac:=z.perm o hb x
        have w1 : w64 ((b : Int) - 1) = ((b - 1 : Nat) : Int):=by rw [Qe q0];omega
        have w2 : w64 ((c : Int) - (a : Int)) = ((c - a : Nat) : Int):=wsub c1 q0
        have w3 : w64 (((b - 1 : Nat) : Int) - ((c - a : Nat) : Int)) = ((b - 1 - (c - a) : Nat) : Int):=wsub q0 q0
        refine ⟨b - 1 - (c - a),1,_,?_,q0,q0,ac,x⟩
        simp only [cond_true,qwi (q:=q) hb (by omega : a < b) z,Option.bind_some,U6 z ac,w1,w2,w3]
    obtain ⟨p,h2,d2,eR,hp1,hp2,ac,p2⟩:=hR
    have bq : Sort.Below lt a b d2:=(hB.perm q0 p1).perm (by rw [z.1];exact hb) p2
    have bl:=Sort.permIn_trans _ _ _ a b p1 p2
    have hP : ∀ cc : Bool,∃ ab : (List T) ⊕ (List T),(cond cc ((U1 q d2.toList (a : Int) (b : Int)).bind fun ag=>(Qu ag.2.length d2.toList.length).bind fun cy=>cond ag.1 (some (.inr ag.2)) (some (.inl ag.2))) (some (.inl d2.toList)) : Option ((List T) ⊕ (List T))) = some ab∧
        ((∃ l : Array T,ab = .inr l.toList∧Sort.PermIn a b d2 l∧Sort.SortedIn lt a b l)∨(∃ l : Array T,ab = .inl l.toList∧AllP n P l∧Sort.PermIn a b d2 l)):=by
      intro cc
      cases cc with
      | false=>exact ⟨_,rfl,.inr ⟨d2,rfl,ac,Sort.permIn_refl _ _ _⟩⟩
      | true=>
        obtain ⟨x,y⟩:=Sort.partialInsertionSort_holds (lt:=lt) hS d2 a b q0 (by rw [ac.1];exact hb) bq
        have u:=ac.perm o hb x
        have s:=qut hq hb (by omega : a < b) ac
        simp only [cond_true,s,Option.bind_some,U6 ac u]
        cases hz : (Sort.partialInsertionSort lt d2 a b).2 with
        | true=>exact ⟨_,rfl,.inl ⟨_,rfl,x,y hz⟩⟩
        | false=>exact ⟨_,rfl,.inr ⟨_,rfl,u,x⟩⟩
    obtain ⟨ab,eP,bo⟩:=hP (wb && wp && (h2 == 1))
    have cg : ∀ {γ : Type} (X : Bool→Option γ),((cond wb (some wp) (some false)).bind fun bp=>(cond bp (some (h2 == 1)) (some false)).bind X) = X (wb && wp && (h2 == 1)):=by
      intro γ X;cases wb <;> cases wp <;> rfl
    have head : Ze q ae ((a : Int),(b : Int),(f : Int),wb,wp,d.toList) = (match (generalizing:=false) ab with | .inl b377=>(cond (decide ((a : Int) > 0)) ((idx b377 (w64 ((a : Int) - 1))).bind fun au=>(idx b377 (p : Int)).bind fun ao=>(q au ao).bind fun aq=>some (!(decide (aq < 0)))) (some false)).bind fun bn=>cond bn ((q17 q b377 (a : Int) (b : Int) (p : Int)).bind fun av=>(Qu av.2.length b377.length).bind fun dc=>some (.inl (av.1,(b : Int),(l1 : Int),wb,wp,av.2))) ((q16 q b377 (a : Int) (b : Int) (p : Int)).bind fun g=>(Qu g.2.2.length b377.length).bind fun cw=>cond (decide ((w64 (g.1 - (a : Int))) < (w64 ((b : Int) - g.1)))) ((ae g.2.2 (a : Int) g.1 (l1 : Int)).bind fun bd=>(Qu bd.length g.2.2.length).bind fun da=>some (.inl (w64 (g.1 + 1),(b : Int),(l1 : Int),decide ((w64 (g.1 - (a : Int))) ≥ (w64 (Int.tdiv ((b - a : Nat) : Int) 8))),g.2.1,bd))) ((ae g.2.2 (w64 (g.1 + 1)) (b : Int) (l1 : Int)).bind fun bc=>(Qu bc.length g.2.2.length).bind fun cs=>some (.inl ((a : Int),g.1,(l1 : Int),decide ((w64 ((b : Int) - g.1)) ≥ (w64 (Int.tdiv ((b - a : Nat) : Int) 8))),g.2.1,bc)))) | .inr x1=>some (.inr x1)):=by
      simp only [Ze,e0,bs,cond_false,t0,eA,Option.bind_some,hC,eR,cg,eP]
      clear eP bo hP an ih
      cases ab <;> rfl
    rcases bo with ⟨l,rfl,x,y⟩ | ⟨l,rfl,u,p3⟩
    · refine .inl ⟨l,K7 ?_,Sort.permIn_trans _ _ _ a b bl x,y⟩
      rw [head]
    have ay:=u.1
    have P3:=Sort.permIn_trans _ _ _ a b bl p3
    have B3 : Sort.Below lt a b l:=bq.perm (by rw [ac.1];exact hb) p3
    have bk : (cond (decide ((a : Int) > 0)) ((idx l.toList (w64 ((a : Int) - 1))).bind fun au=>(idx l.toList (p : Int)).bind fun ao=>(q au ao).bind fun aq=>some (!(decide (aq < 0)))) (some false)) = some (decide (a > 0) && !lt l[a - 1]! l[p]!):=by
      by_cases ha : a > 0
      · have ta : decide ((a : Int) > 0) = true:=decide_eq_true q0
        have w : w64 ((a : Int) - 1) = ((a - 1 : Nat) : Int):=by rw [Qe q0];omega
        obtain ⟨r,h1,h2⟩:=hq l[a - 1]! l[p]! (u.2.2 _ q0) (u.2.2 _ q0)
        simp only [ta,cond_true,w,gx (d:=l) (k:=a - 1) q0,gx (d:=l) (k:=p) q0,Option.bind_some,h1,h2,decide_eq_true ha,Bool.true_and]
      · have ta : decide ((a : Int) > 0) = false:=decide_eq_false q0
        simp only [ta,cond_false,decide_eq_false ha,Bool.false_and]
    simp only [bk,Option.bind_some] at head
    by_cases hc : (decide (a > 0) && !lt l[a - 1]! l[p]!) = true
    ·
      rw [hc] at head
      have s:=quu hq hb (by omega : a < b) (by omega : p < n) u
      simp only [Bool.and_eq_true,decide_eq_true_eq,Bool.not_eq_true'] at hc
      cases hx : Sort.partitionEqual lt l a b p with
      | mk j d4=>
        obtain ⟨g1,g2,cp,ce,ad⟩:=Sort.round_eq hS (Sort.partitionEqual_holds lt) hc.1 hp1 hp2 (by rw [ay];exact hb) B3 hc.2 hx
        have cf : ∀ i,a≤i→i < b→lt l[i]! l[p]! = false:=fun i hi ck=>by
          rcases B3 with h0 | hB
          · omega
          · exact hS.ntrans _ _ _ (hB i hi ck) hc.2
        obtain ⟨_,_,v,_,_⟩:=Sort.partitionEqual_holds lt hS l a b p hp1 hp2 (by rw [ay];exact hb) cf
        rw [hx] at v s
        have aa:=u.perm o hb v
        simp only [cond_true,s,Option.bind_some,U6 u aa] at head
        rw [Kr head]
        rcases ih (b - j) q0 j b l1 wb wp d4 rfl aa g2 hb al ce with ⟨R,r0,r1,r2⟩ | ⟨r1,r2⟩
        · obtain ⟨q1,q2⟩:=ad _ r1 r2
          exact .inl ⟨R,r0,Sort.permIn_trans _ _ _ a b P3 q1,q2⟩
        · exact .inr ⟨q0,r2⟩
    ·
      have hc : (decide (a > 0) && !lt l[a - 1]! l[p]!) = false:=by simpa using hc
      rw [hc] at head
      have s:=quv hq hb (by omega : a < b) (by omega : p < n) u
      cases hx : Sort.partition lt l a b p with
      | mk j r=>
      cases r with
      | mk ap d4=>
        obtain ⟨g1,g2,cp,cr,co,bh,ax⟩:=Sort.round_part hS (Sort.partition_holds lt) hp1 hp2 (by rw [ay];exact hb) B3 hx
        obtain ⟨_,_,v,_,_⟩:=Sort.partition_holds lt hS l a b p hp1 hp2 (by rw [ay];exact hb)
        rw [hx] at v s
        have aa:=u.perm o hb v
        have w1 : w64 ((j : Int) - (a : Int)) = ((j - a : Nat) : Int):=wsub g1 q0
        have w2 : w64 ((b : Int) - (j : Int)) = ((b - j : Nat) : Int):=wsub q0 q0
        simp only [cond_false,s,Option.bind_some,U6 u aa,w1,w2,w1p j q0] at head
        by_cases dq : j - a < b - j
        · have tl : decide (((j - a : Nat) : Int) < ((b - j : Nat) : Int)) = true:=decide_eq_true q0
          simp only [tl,cond_true] at head
          rcases an a j l1 d4 aa g1 q0 al cr with ⟨L,e,ar,bf⟩ | ⟨r1,r2⟩
          · have am:=aa.perm g1 q0 ar
            obtain ⟨bj,ad⟩:=bh _ ar bf
            simp only [e,Option.bind_some,U6 aa am] at head
            rw [Kr head]
            rcases ih (b - (j + 1)) q0 (j + 1) b l1 _ _ L rfl am q0 hb al bj with ⟨R,r0,r1,r2⟩ | ⟨r1,r2⟩
            · obtain ⟨q1,q2⟩:=ad _ r1 r2
              exact .inl ⟨R,r0,Sort.permIn_trans _ _ _ a b P3 q1,q2⟩
            · exact .inr ⟨q0,r2⟩
          · simp only [r2,Option.bind_none] at head
            exact .inr ⟨q0,qkh head⟩
        · have tl : decide (((j - a : Nat) : Int) < ((b - j : Nat) : Int)) = false:=decide_eq_false q0
          simp only [tl,cond_false] at head
          rcases an (j + 1) b l1 d4 aa q0 hb al co with ⟨L,e,ar,bf⟩ | ⟨r1,r2⟩
          · have am:=aa.perm (by omega : j + 1≤b) hb ar
            obtain ⟨bj,ad⟩:=ax _ ar bf
            simp only [e,Option.bind_some,U6 aa am] at head
            rw [Kr head]
            rcases ih (j - a) q0 a j l1 _ _ L rfl am g1 q0 al bj with ⟨R,r0,r1,r2⟩ | ⟨r1,r2⟩
            · obtain ⟨q1,q2⟩:=ad _ r1 r2
              exact .inl ⟨R,r0,Sort.permIn_trans _ _ _ a b P3 q1,q2⟩
            · exact .inr ⟨q0,r2⟩
          · simp only [r2,Option.bind_none] at head
            exact .inr ⟨q0,qkh head⟩
theorem qlg (g : Ko q lt P) (f : Sort.SWO lt) {n : Nat} : ∀ (N a b c : Nat) (d : Array T),AllP n P d→a≤b→b≤n→c≤1000→Sort.Below lt a b d→
    Srt lt a b d (Z9 N q d.toList (a : Int) (b : Int) (c : Int))∨(N≤b - a∧Z9 N q d.toList (a : Int) (b : Int) (c : Int) = none)
  | 0,a,b,c,d,_,_,_,_,_=>.inr ⟨q0,rfl⟩
  | N + 1,a,b,c,d,hd,hab,hb,hl,hB=>by
    have h:=quw g f (N:=N) (Z9 N q) (fun a b c d o l m k j=>qlg g f N a b c d o l m k j) _ a b c true true d rfl hd hab hb hl hB
    have e : Z9 (N + 1) q d.toList (a : Int) (b : Int) (c : Int) = loop (Ze q (Z9 N q)) ((a : Int),(b : Int),(c : Int),true,true,d.toList):=by
      show Um (Z9 N q) q d.toList (a : Int) (b : Int) (c : Int) = _
      unfold Um
      cases loop (Ze q (Z9 N q)) ((a : Int),(b : Int),(c : Int),true,true,d.toList) <;> rfl
    rw [e]
    exact h
theorem qna (w : Ko q lt P) (u : Sort.SWO lt) (xs : List T) (o : xs.length≤1000000) (p : ∀ x∈xs,P x) :
    ∃ ys,q21 q xs = some ys∧ys.Perm xs∧ys.Pairwise (fun x y=>lt y x = false):=by
  have hd : AllP xs.length P xs.toArray:=by
    refine ⟨qe,o,fun i hi=>?_⟩
    have : xs.toArray[i]! = xs[i]:=by simp [hi]
    rw [this];exact p _ (List.getElem_mem hi)
  have hk : Sort.bitsLen xs.length≤20:=(Sort.bitsLen_le_iff _ 20).2 q0
  have c : ∀ N,_:=fun N=>qlg w u N 0 xs.length (Sort.bitsLen xs.length) xs.toArray hd q0 q0 q0 (.inl rfl)
  have v:=c (xs.length + 1)
  rcases v with ⟨d',e,_,_⟩ | ⟨h,_⟩
  · obtain ⟨r,n⟩:=qse (f:=fun N=>Z9 N q xs 0 (xs.length : Int) ((Sort.bitsLen xs.length : Nat) : Int)) e
    obtain ⟨N,g⟩:=qf6 n
    have g : Z9 N q xs 0 (xs.length : Int) ((Sort.bitsLen xs.length : Nat) : Int) = some r:=g
    rcases c N with ⟨a,b,x,y⟩ | ⟨_,b⟩
    · have b : Z9 N q xs 0 (xs.length : Int) ((Sort.bitsLen xs.length : Nat) : Int) = some a.toList:=b
      rw [g] at b
      obtain rfl : r = a.toList:=Option.some.inj b
      have d : a.size = xs.length:=by rw [x.1];simp
      refine ⟨a.toList,?_,?_,?_⟩
      · unfold q21
        rw [q1t,show ((xs.length : Int) % 18446744073709551616) = (xs.length : Int) by omega,qke _ o]
        simp only [Option.bind_some,n]
        unfold Qu
        rw [if_pos (by simp [d])]
        rfl
      · have:=x.2.2
        have z : a.extract 0 xs.length = a:=by rw [← d];simp
        have t : xs.toArray.extract 0 xs.length = xs.toArray:=by simp
        rw [z,t] at this
        exact this
      · rw [List.pairwise_iff_getElem]
        intro i j hi s l
        have k : i < a.size:=by simpa using hi
        have m : j < a.size:=by simpa using s
        have:=y i j q0 l q0
        rw [getElem!_pos a i k,getElem!_pos a j m] at this
        simpa using this
    · have b : Z9 N q xs 0 (xs.length : Int) ((Sort.bitsLen xs.length : Nat) : Int) = none:=b
      rw [g] at b;cases b
  · omega
end
end Go.Sh
namespace Go.Sh
open Go Go.Am
theorem qxr : qd8 = q4z:=rfl
theorem qws : q2d = q38:=by
  funext p0
  simp only [q2d,q38,qxr]
  all_goals exact Qt
theorem qmg : Up = q11:=by
  funext p0
  simp only [Up,q11,qws]
  all_goals exact Qt
theorem qx2 : q9s = Jz:=by
  funext p1 q1 a459
  simp only [q9s,Jz]
  all_goals exact Qt
theorem qx1 : q9r = q15:=by
  funext p2 p1 q1 a278
  simp only [q9r,q15,qx2]
  all_goals exact Qt
theorem qx0 : q9q = q24:=by
  funext q1 p0 p1 p2
  simp only [q9q,q24,qx1]
  all_goals exact Qt
theorem qxq : qaa = U2:=by
  funext p2 p3 q1 a197
  simp only [qaa,U2]
  all_goals exact Qt
theorem qmi : q7a = Un:=by
  funext q1 p0 p1 p2 p3
  simp only [q7a,Un,qxq]
  all_goals exact Qt
theorem qwy : q9o = q13:=by
  funext q1 p2 p1 a123
  simp only [q9o,q13,qmi]
  all_goals exact Qt
theorem qwz : q9p = q14:=by
  funext p1 q1 a191
  simp only [q9p,q14,qmi]
  all_goals exact Qt
theorem qwx : q9n = q23:=by
  funext q1 p0 p1 p2
  simp only [q9n,q23,qwy,qwz]
  all_goals exact Qt
theorem qx4 : q1l = q25:=by
  funext p0
  simp only [q1l,q25,qmg]
  all_goals exact Qt
theorem qxs : q1m = q29:=by
  funext p0
  simp only [q1m,q29]
  all_goals exact Qt
theorem qwv : q9l = Ue:=by
  funext p1 p2 r101 a153
  simp only [q9l,Ue,qxs]
  all_goals exact Qt
theorem qwu : q9k = q12:=by
  funext q1 p0 p1 p2
  simp only [q9k,q12,qx4,qwv]
  all_goals exact Qt
theorem qx5 : q44 = Ug:=by
  funext q1 p0 p1 p2 p3
  simp only [q44,Ug]
  all_goals exact Qt
theorem qmh : q6q = Uf:=by
  funext q1 p0 p1 p2 p3 p4
  simp only [q6q,Uf,qx5]
  all_goals exact Qt
theorem qx3 : q42 = U0:=by
  funext q1 p0 p1 p2
  simp only [q42,U0,qmh]
  all_goals exact Qt
theorem qww : q9m = q22:=by
  funext p0 p1 p2 p3
  simp only [q9m,q22,qmh,qx3]
  all_goals exact Qt
theorem qxp : qa8 = q28:=by
  funext a119
  simp only [qa8,q28]
  all_goals exact Qt
theorem qxo : qa7 = q1a:=by
  funext q1 p0 p1 p2
  simp only [qa7,q1a,qxp]
  all_goals exact Qt
theorem qx8 : q9t = Uh:=by
  funext p2 a438 q1 a681
  simp only [q9t,Uh]
  all_goals exact Qt
theorem qx9 : q9u = Ui:=by
  funext q1 a838
  simp only [q9u,Ui]
  all_goals exact Qt
theorem qxa : q9v = Uj:=by
  funext p2 q1 b684 a928
  simp only [q9v,Uj]
  all_goals exact Qt
theorem qx7 : q6s = Zq:=by
  funext p2 q1 p1 a438
  have a : @q6s.match_1.{1} = @Zq.match_1.{1} ql:=by funext motive m f g;cases m <;> rfl
  unfold q6s Zq
  rw [a]
  simp only [qx8,qx9,qxa]
theorem qx6 : q6r = U1:=by
  funext q1 p0 p1 p2
  have a : @q6r.match_1.{1} = @U1.match_1.{1} ql:=by funext motive m f g;cases m <;> rfl
  unfold q6r U1
  rw [a]
  simp only [qx7]
theorem qxe : qa5 = Uk:=by
  funext a318 p1 q1 a378
  simp only [qa5,Uk]
  all_goals exact Qt
theorem qxf : qa6 = Ul:=by
  funext b381 a318 p1 q1 a463
  simp only [qa6,Ul]
  all_goals exact Qt
theorem qxd : qa4 = q18:=by
  funext p1 q1 a318
  simp only [qa4,q18,qxe,qxf]
  all_goals exact Qt
theorem qxc : qa3 = q17:=by
  funext q1 p0 p1 p2 p3
  simp only [qa3,q17,qxd]
  all_goals exact Qt
theorem qxg : q9y = q26:=by
  funext p2 p0 p1 v101 p3 v103 q1 a163
  simp only [q9y,q26]
  all_goals exact Qt
theorem qxh : q9z = q27:=by
  funext b166 p0 p1 v101 p3 v103 q1 a249
  simp only [q9z,q27]
  all_goals exact Qt
theorem qxj : qa1 = Zz:=by
  funext a514 p1 q1 a572
  simp only [qa1,Zz]
  all_goals exact Qt
theorem qxk : qa2 = J0:=by
  funext b575 a514 p1 q1 a658
  simp only [qa2,J0]
  all_goals exact Qt
theorem qxi : qa0 = q19:=by
  funext p1 q1 a514
  simp only [qa0,q19,qxj,qxk]
  all_goals exact Qt
theorem qxb : q9x = q16:=by
  funext q1 p0 p1 p2 p3
  simp only [q9x,q16,qxg,qxh,qxi]
  all_goals exact Qt
theorem qxm : q76 = Ze:=by
  funext q1 rec a309
  have a : @q76.match_1.{1} = @Ze.match_1.{1} ql:=by funext motive m f g;cases m <;> rfl
  unfold q76 Ze
  rw [a]
  simp only [qx0,qwx,qwu,qww,qxo,qx6,qxc,qxb]
theorem qxn : q77 = Um:=by
  funext rec q1 p0 p1 p2 p3
  simp only [q77,Um,qxm]
  all_goals exact Qt
theorem qxl : ∀ N q,q75 N q = Z9 N q:=by
  intro N q
  induction N with
  | zero=>rfl
  | succ N ih=>
    funext a b c d
    show q77 (q75 N q) q a b c d = Um (Z9 N q) q a b c d
    rw [ih,qxn]
theorem qwt : q6g = q21:=by
  funext q1 p0
  simp only [q6g,q21,qmg,qxl]
  all_goals exact Qt
end Go.Sh
namespace Go.Sh
open Go Go.Am
instance : Inhabited ql:=⟨⟨0,0,0⟩⟩
theorem q11g (q : ql→ql→Option Int) (xs : List ql) : q6g q xs = q21 q xs:=by rw [qwt]
def evs (s : List qj) (l : Int) : List ql:=s.flatMap fun t=>[{at_:=t.Lo,list_:=l,by_:=1},{at_:=t.Hi,list_:=l,by_:=-1}]
theorem q8k (s : List qj) (l : Int) : (evs s l).length = 2 * s.length:=by
  induction s with
  | nil=>rfl
  | cons t s ih=>simp only [evs,List.flatMap_cons,List.length_append,List.length_cons,List.length_nil] at ih ⊢;omega
theorem qc0 {s : List qj} {l : Int} {e : ql} (h : e∈evs s l) : e.list_ = l∧(e.by_ = 1∨e.by_ = -1)∧∃ t∈s,e.at_ = t.Lo∨e.at_ = t.Hi:=by
  simp only [evs,List.mem_flatMap] at h
  obtain ⟨t,a,h⟩:=h
  simp only [List.mem_cons,List.not_mem_nil,or_false] at h
  rcases h with rfl | rfl
  · exact ⟨rfl,.inl rfl,t,a,.inl rfl⟩
  · exact ⟨rfl,.inr rfl,t,a,.inr rfl⟩
theorem qip (s : List qj) (l : Int) (y : List ql) (hs : s.length≤1000) (base : List ql) (hb : base.length≤10000) :
    loop (q4c s (l,y)) (0,base) = some (base ++ evs s l):=by
  have:=Zs (f:=q4c s (l,y)) (σ:=List ql) (fun k c=>((k : Int),c)) s.length (fun k c=>c = base ++ evs (s.take k) l) (fun t=>t = base ++ evs s l) ?_ ?_ (k0:=0) (c0:=base) q0 (by simp [evs])
  · obtain ⟨b,h,rfl⟩:=this;exact h
  · rintro k c g rfl
    have a : decide ((k : Int) < (s.length : Int)) = true:=decide_eq_true q0
    refine .inl ⟨base ++ evs (s.take (k + 1)) l,?_,rfl⟩
    have d : (evs (s.take k) l).length≤2000:=by rw [q8k,List.length_take];omega
    simp only [q4c,a,cond_true,Qi g,Option.bind_some]
    rw [Ky (by rw [List.length_append];simp only [List.length_cons,List.length_nil];omega),Option.bind_some,Qe q0,List.take_succ_eq_append_getElem g,List.append_assoc]
    have : evs (s.take k ++ [s[k]]) l = evs (s.take k) l ++ [{at_:=s[k].Lo,list_:=l,by_:=1},{at_:=s[k].Hi,list_:=l,by_:=-1}]:=by simp only [evs,List.flatMap_append,List.flatMap_cons,List.flatMap_nil,List.append_nil]
    rw [this];rfl
  · rintro c rfl
    have a : decide ((s.length : Int) < (s.length : Int)) = false:=decide_eq_false q0
    exact ⟨_,by simp only [q4c,a,cond_false];rfl,by rw [List.take_length]⟩
def ltE (a b : ql) : Bool:=decide (a.at_ < b.at_)
def inE (e : ql) : Prop:=-1000000≤e.at_∧e.at_≤1000000
theorem swoE : Sort.SWO ltE where
  irrefl:=by intro x;simp [ltE]
  trans:=by intro x y z;simp only [ltE,decide_eq_true_eq];omega
  ntrans:=by intro x y z;simp only [ltE,decide_eq_false_iff_not];omega
theorem cmpE : Ko (fun b a=>qaj b a) ltE inE:=by
  rintro x y ⟨c,f⟩ ⟨g,d⟩
  refine ⟨x.at_ - y.at_,?_,?_⟩
  · show some (w64 (x.at_ - y.at_)) = _;rw [Qe q0]
  · unfold ltE;exact decide_eq_decide.2 q0
theorem q11f (p q : List qj) (hp : p.length≤500) (z : q.length≤500) (o : ∀ t∈p,vld t) (r : ∀ t∈q,vld t) :
    ∃ ys,qak [p,q] = some ([p,q],ys)∧ys.Perm (evs p 0 ++ evs q 1)∧ys.Pairwise (fun x y=>x.at_≤y.at_):=by
  have l : ∀ x∈evs p 0 ++ evs q 1,inE x:=by
    intro x k
    rcases List.mem_append.1 k with h | h
    · obtain ⟨_,_,t,f,h⟩:=qc0 h
      obtain ⟨a,b,c⟩:=o t f
      unfold inE;rcases h with h | h <;> omega
    · obtain ⟨_,_,t,f,h⟩:=qc0 h
      obtain ⟨a,b,c⟩:=r t f
      unfold inE;rcases h with h | h <;> omega
  have v:=q8k p 0
  have w:=q8k q 1
  obtain ⟨ys,s,j,m⟩:=qna cmpE swoE (evs p 0 ++ evs q 1) (by rw [List.length_append];omega) l
  refine ⟨ys,?_,j,m.imp (fun {x y} h=>by simp only [ltE,decide_eq_false_iff_not] at h;omega)⟩
  have d : loop (Ut [p,q]) (0,[]) = some (evs p 0 ++ evs q 1):=by
    have s0 : Ut [p,q] (0,[]) = some (.inl (1,evs p 0)):=by
      have t : decide ((0 : Int) < (([p,q] : List (List qj)).length : Int)) = true:=rfl
      simp only [Ut,t,cond_true]
      have : idx [p,q] 0 = some p:=rfl
      rw [this]
      simp only [Option.bind_some,qip p 0 [] q0 [] qe,List.nil_append]
      rfl
    have n : Ut [p,q] (1,evs p 0) = some (.inl (2,evs p 0 ++ evs q 1)):=by
      have t : decide ((1 : Int) < (([p,q] : List (List qj)).length : Int)) = true:=rfl
      simp only [Ut,t,cond_true]
      have : idx [p,q] 1 = some q:=rfl
      rw [this]
      simp only [Option.bind_some,qip q 1 (evs p 0) q0 (evs p 0) q0]
      rfl
    have u : Ut [p,q] (2,evs p 0 ++ evs q 1) = some (.inr (evs p 0 ++ evs q 1)):=by
      have t : decide ((2 : Int) < (([p,q] : List (List qj)).length : Int)) = false:=rfl
      simp only [Ut,t,cond_false]
    rw [Kr s0,Kr n,K7 u]
  unfold qak
  rw [d]
  simp only [Option.bind_some,q11g,s]
  have le : Qu ys.length (evs p 0 ++ evs q 1).length = some ():=by unfold Qu;rw [if_pos j.length_eq]
  have g : Qu ys.length ys.length = some ():=by unfold Qu;rw [if_pos rfl]
  simp only [le,Option.bind_some,qcx,g]
def cnt (l : Int) (c : Int→Bool) : List ql→Int
  | []=>0
  | e::es=>(if e.list_ = l∧c e.at_ = true then e.by_ else 0) + cnt l c es
theorem q1z (l : Int) (c : Int→Bool) (a b : List ql) : cnt l c (a ++ b) = cnt l c a + cnt l c b:=by
  induction a with
  | nil=>simp [cnt]
  | cons e a ih=>simp only [List.cons_append,cnt,ih];omega
theorem qib {l : Int} {c : Int→Bool} {a b : List ql} (h : a.Perm b) : cnt l c a = cnt l c b:=by
  induction h with
  | nil=>rfl
  | cons x _ ih=>simp only [cnt,ih]
  | swap x y l=>simp only [cnt];omega
  | trans _ _ ih1 ih2=>rw [ih1,ih2]
theorem qi8 {l : Int} {c b : Int→Bool} : ∀ {a : List ql},(∀ e∈a,c e.at_ = b e.at_)→cnt l c a = cnt l b a
  | [],_=>rfl
  | e::a,h=>by simp only [cnt,h e qe,qi8 (fun e d=>h e (List.mem_cons_of_mem _ d))]
theorem qia {l : Int} {c : Int→Bool} : ∀ {a : List ql},(∀ e∈a,c e.at_ = false)→cnt l c a = 0
  | [],_=>rfl
  | e::a,h=>by
    simp only [cnt,qia (fun e b=>h e (List.mem_cons_of_mem _ b)),h e qe]
    simp
theorem q8a {s : List qj} {l l' : Int} {c : Int→Bool} (h : l≠l') : cnt l c (evs s l') = 0:=by
  induction s with
  | nil=>rfl
  | cons t s ih=>
    have : evs (t::s) l' = [{at_:=t.Lo,list_:=l',by_:=1},{at_:=t.Hi,list_:=l',by_:=-1}] ++ evs s l':=rfl
    rw [this,q1z,ih]
    have a : ¬ l' = l:=fun e=>h e.symm
    simp [cnt,a]
theorem qi9 {s : List qj} {l : Int} (v : ∀ t∈s,vld t) (x : Int) : 0≤cnt l (fun a=>decide (a≤x)) (evs s l)∧(0 < cnt l (fun a=>decide (a≤x)) (evs s l)↔has s x):=by
  induction s with
  | nil=>exact ⟨Int.le_refl 0,by simp [evs,cnt,has]⟩
  | cons t s ih=>
    obtain ⟨g,b⟩:=ih (fun t c=>v t (List.mem_cons_of_mem _ c))
    have d:=v t qe
    have : evs (t::s) l = [{at_:=t.Lo,list_:=l,by_:=1},{at_:=t.Hi,list_:=l,by_:=-1}] ++ evs s l:=rfl
    rw [this,q1z,Zg,← b]
    obtain ⟨j,f,h⟩:=d
    simp only [cnt,true_and,decide_eq_true_eq]
    split <;> split <;> omega
theorem qic {s : List qj} {l : Int} : cnt l (fun _=>true) (evs s l) = 0:=by
  induction s with
  | nil=>rfl
  | cons t s ih=>
    have : evs (t::s) l = [{at_:=t.Lo,list_:=l,by_:=1},{at_:=t.Hi,list_:=l,by_:=-1}] ++ evs s l:=rfl
    rw [this,q1z,ih]
    simp [cnt]
theorem qea {l : Int} {c : Int→Bool} : ∀ {a : List ql},(∀ e∈a,e.by_ = 1∨e.by_ = -1)→-(a.length : Int)≤cnt l c a∧cnt l c a≤(a.length : Int)
  | [],_=>by simp [cnt]
  | e::a,h=>by
    obtain ⟨d,f⟩:=qea (l:=l) (c:=c) (fun e b=>h e (List.mem_cons_of_mem _ b))
    have:=h e qe
    simp only [cnt,List.length_cons]
    split <;> omega
end Go.Sh
namespace Go.Sh
open Go Go.Am
theorem qq8 (at_ a : Int) (inn : Bool) (out : List qj) (h : out.length≤10000) :
    qal at_ inn a out = some (inn,a,if inn = true∧a≠at_ then addS out a at_ else out):=by
  unfold qal
  cases inn with
  | false=>rfl
  | true=>
    by_cases f : a = at_
    · simp [f]
    · have hb : (a == at_) = false:=by simpa using f
      simp only [Bool.not_true,cond_false,Option.bind_some,hb]
      rw [if_pos ⟨trivial,f⟩]
      rcases qcy out with rfl | ⟨d,t,rfl⟩
      · rfl
      · have l : (d ++ [t]).length = d.length + 1:=by simp
        have k : decide (((d ++ [t]).length : Int) > 0) = true:=decide_eq_true q0
        have j : w64 (((d ++ [t]).length : Int) - 1) = (d.length : Int):=by rw [Qe q0];omega
        have g : idx (d ++ [t]) (d.length : Int) = some t:=by
          rw [Qi q0];simp
        simp only [k,cond_true,j,g,Option.bind_some]
        by_cases b : t.Hi = a
        · subst b
          simp only [beq_self_eq_true,cond_true,qb7,Int.toNat_natCast,qml]
        · have c : (t.Hi == a) = false:=by simpa using b
          simp only [c,cond_false,qb8 b]
          rw [Ky (by simp;omega)]
          rfl
open Classical in
structure qoj (f : Bool→Bool→Bool) (p q : List qj) (ys : List ql) (k : Nat) (c : List Int × Int × Bool × List qj) : Prop where
  opn : c.1 = [cnt 0 (fun _=>true) (ys.take k),cnt 1 (fun _=>true) (ys.take k)]
  inn : c.2.2.1 = f (decide (0 < cnt 0 (fun _=>true) (ys.take k))) (decide (0 < cnt 1 (fun _=>true) (ys.take k)))
  lst : ∀ (h : k - 1 < ys.length),0 < k→c.2.1 = ys[k - 1].at_
  can : Can c.2.2.2
  his : ∀ t∈c.2.2.2,t.Hi≤c.2.1
  zro : k = 0→c.2.2.2 = []
  pts : ∀ x,has c.2.2.2 x↔0 < k∧x < c.2.1∧f (decide (has p x)) (decide (has q x)) = true
  len : c.2.2.2.length≤k
theorem qol (c : List qj) (a b : Int) : (addS c a b).length≤c.length + 1:=by
  rcases qcy c with rfl | ⟨d,t,rfl⟩
  · simp [qh4]
  · by_cases h : t.Hi = a
    · subst h;rw [qb7];simp
    · rw [qb8 h];simp
theorem qi7 {p q : List qj} {ys : List ql} (hp : ∀ t∈p,vld t) (f : ∀ t∈q,vld t) (b : ys.Perm (evs p 0 ++ evs q 1)) (hs : ys.Pairwise (fun x y=>x.at_≤y.at_)) (k : Nat) (x : Int)
    (g : ∀ i (h : i < ys.length),i < k→ys[i].at_≤x) (d : ∀ i (h : i < ys.length),k≤i→x < ys[i].at_) :
    (0 < cnt 0 (fun _=>true) (ys.take k)↔has p x)∧(0 < cnt 1 (fun _=>true) (ys.take k)↔has q x):=by
  have key : ∀ l,cnt l (fun _=>true) (ys.take k) = cnt l (fun a=>decide (a≤x)) (evs p 0) + cnt l (fun a=>decide (a≤x)) (evs q 1):=by
    intro l
    rw [← q1z,← qib b]
    conv=>rhs;rw [← List.take_append_drop k ys]
    rw [q1z]
    have o : cnt l (fun a=>decide (a≤x)) (ys.drop k) = 0:=by
      refine qia fun e c=>?_
      obtain ⟨i,hi,rfl⟩:=List.mem_iff_getElem.1 c
      rw [List.getElem_drop]
      rw [List.length_drop] at hi
      have:=d (k + i) q0 q0
      exact decide_eq_false q0
    have n : cnt l (fun a=>decide (a≤x)) (ys.take k) = cnt l (fun _=>true) (ys.take k):=by
      refine qi8 fun e c=>?_
      obtain ⟨i,hi,rfl⟩:=List.mem_iff_getElem.1 c
      rw [List.getElem_take]
      rw [List.length_take] at hi
      exact decide_eq_true (g i q0 q0)
    rw [o,n];omega
  rw [key 0,key 1,q8a (l:=0) (l':=1) qs,q8a (l:=1) (l':=0) qs]
  have m:=qi9 (l:=0) hp x
  have j:=qi9 (l:=1) f x
  rw [Int.add_zero,Int.zero_add]
  exact ⟨m.2,j.2⟩
open Classical in
theorem qk4 (f : Bool→Bool→Bool) (hf : f false false = false) (p2 : Bool→Bool→Option Bool) (hp2 : ∀ a b,p2 a b = some (f a b)) (p q : List qj)
    (hp : p.length≤500) (hq : q.length≤500) (vp : ∀ t∈p,vld t) (vq : ∀ t∈q,vld t) :
    ∃ out,q2y p q p2 = some out∧Can out∧∀ x,has out x↔f (decide (has p x)) (decide (has q x)) = true:=by
  obtain ⟨ys,e1,g,hs⟩:=q11f p q hp hq vp vq
  have bh : ys.length≤2000:=by rw [g.length_eq,List.length_append,q8k,q8k];omega
  have w : ∀ i j (hi : i < ys.length) (hj : j < ys.length),i≤j→ys[i].at_≤ys[j].at_:=by
    intro i j hi hj bv
    rcases Nat.lt_or_ge i j with h | h
    · exact List.pairwise_iff_getElem.1 hs i j hi hj h
    · obtain rfl : i = j:=by omega
      exact Int.le_refl _
  have y : ∀ e∈ys,(e.list_ = 0∨e.list_ = 1)∧(e.by_ = 1∨e.by_ = -1):=by
    intro e he
    rcases List.mem_append.1 (g.mem_iff.1 he) with h | h
    · obtain ⟨a,b,_⟩:=qc0 h;exact ⟨.inl a,b⟩
    · obtain ⟨a,b,_⟩:=qc0 h;exact ⟨.inr a,b⟩
  have:=Zs (f:=q4d ([p,q],ys) p2) (σ:=List Int × Int × Bool × List qj) (fun k c=>((k : Int),c)) ys.length (qoj f p q ys) (fun out=>Can out∧∀ x,has out x↔f (decide (has p x)) (decide (has q x)) = true) ?_ ?_ (k0:=0) (c0:=([0,0],0,false,[])) q0 ?_
  · obtain ⟨out,r,m⟩:=this
    refine ⟨out,?_,m⟩
    unfold q2y
    have r : loop (q4d ([p,q],ys) p2) (0,[0,0],0,false,[]) = some out:=r
    rw [e1]
    simp only [Option.bind_some,r]
    rfl
  · rintro k ⟨opn,d,inn,out⟩ hk ⟨s1,s2,s3,s4,s5,s6,s7,s8⟩
    simp only at s1 s2 s3 s4 s5 s6 s7 s8
    have ae : decide ((k : Int) < (ys.length : Int)) = true:=decide_eq_true q0
    have bb:=qq8 ys[k].at_ d inn out q0
    have hm:=y ys[k] (List.getElem_mem hk)
    have be : ys.take (k + 1) = ys.take k ++ [ys[k]]:=List.take_succ_eq_append_getElem hk
    have ak : ∀ e∈ys.take k,e.by_ = 1∨e.by_ = -1:=fun e he=>(y e (List.mem_of_mem_take he)).2
    have b0:=qea (l:=0) (c:=fun _=>true) ak
    have b1:=qea (l:=1) (c:=fun _=>true) ak
    have au : (ys.take k).length = k:=by rw [List.length_take];omega
    rw [au] at b0 b1
    have ab : ∃ v,idxA 2 opn ys[k].list_ = some v∧opn.set ys[k].list_.toNat (w64 (v + ys[k].by_)) = [cnt 0 (fun _=>true) (ys.take (k + 1)),cnt 1 (fun _=>true) (ys.take (k + 1))]:=by
      subst s1
      rw [be,q1z,q1z]
      rcases hm.1 with h | h
      · refine ⟨cnt 0 (fun _=>true) (ys.take k),by rw [h];rfl,?_⟩
        rw [h,Qe q0]
        simp [cnt,h]
      · refine ⟨cnt 1 (fun _=>true) (ys.take k),by rw [h];rfl,?_⟩
        rw [h,Qe q0]
        simp [cnt,h]
    obtain ⟨v,o1,o2⟩:=ab
    refine .inl ⟨([cnt 0 (fun _=>true) (ys.take (k + 1)),cnt 1 (fun _=>true) (ys.take (k + 1))],ys[k].at_,f (decide (0 < cnt 0 (fun _=>true) (ys.take (k + 1)))) (decide (0 < cnt 1 (fun _=>true) (ys.take (k + 1)))),if inn = true∧d≠ys[k].at_ then addS out d ys[k].at_ else out),?_,?_⟩
    · have x0 : ∀ a b : Int,idxA 2 [a,b] 0 = some a:=fun a b=>rfl
      have x1 : ∀ a b : Int,idxA 2 [a,b] 1 = some b:=fun a b=>rfl
      simp only [q4d,ae,cond_true,Qi hk,Option.bind_some,bb,o1,o2,x0,x1,hp2,Bool.not_true,cond_false]
      rw [Qe q0]
      rfl
    · have ac : ∀ x,(0 < k→d≤x)→∀ i (h : i < ys.length),i < k→ys[i].at_≤x:=by
        intro x o i hi an
        have:=s3 q0 q0
        have:=w i (k - 1) hi q0 q0
        have:=o q0
        omega
      have aa : ∀ x,x < ys[k].at_→∀ i (h : i < ys.length),k≤i→x < ys[i].at_:=by
        intro x o i hi an
        have:=w k i hk hi an
        omega
      have hF : ∀ x,(0 < k→d≤x)→x < ys[k].at_→f (decide (has p x)) (decide (has q x)) = inn:=by
        intro x o bd
        obtain ⟨c1,c2⟩:=qi7 vp vq g hs k x (ac x o) (aa x bd)
        rw [s2,decide_eq_decide.2 c1,decide_eq_decide.2 c2]
      have n : 0 < k→d≤ys[k].at_:=by
        intro u
        rw [s3 q0 u]
        exact w (k - 1) k q0 hk q0
      have z : k = 0→inn = false:=by
        intro u
        subst u
        rw [s2];exact hf
      by_cases s : inn = true∧d≠ys[k].at_
      · have ai : 0 < k:=by
          rcases Nat.eq_zero_or_pos k with h | h
          · rw [z h] at s;cases s.1
          · exact h
        have hl:=n ai
        have aw : d < ys[k].at_:=by have:=s.2;omega
        obtain ⟨d1,d2,d3,d4⟩:=qh5 s4 s5 aw
        constructor
        · rfl
        · rfl
        · intro h _;rfl
        · simp only [if_pos s];exact d1
        · simp only [if_pos s];exact d3
        · omega
        · intro x
          simp only [if_pos s]
          rw [d2,s7]
          constructor
          · rintro (⟨u,r,m⟩ | ⟨r,m⟩)
            · exact ⟨q0,q0,m⟩
            · exact ⟨q0,m,by rw [hF x (fun _=>r) m];exact s.1⟩
          · rintro ⟨u,r,m⟩
            by_cases o : x < d
            · exact .inl ⟨ai,o,m⟩
            · exact .inr ⟨q0,r⟩
        · simp only [if_pos s]
          have:=qol out d ys[k].at_
          omega
      · constructor
        · rfl
        · rfl
        · intro h _;rfl
        · simp only [if_neg s];exact s4
        · simp only [if_neg s]
          intro t ht
          rcases Nat.eq_zero_or_pos k with h | h
          · rw [s6 h] at ht;cases ht
          · have:=s5 t ht;have:=n h;omega
        · omega
        · intro x
          simp only [if_neg s]
          rw [s7]
          constructor
          · rintro ⟨u,r,m⟩
            exact ⟨q0,by have:=n u;omega,m⟩
          · rintro ⟨u,r,m⟩
            by_cases o : 0 < k∧x < d
            · exact ⟨o.1,o.2,m⟩
            · have am : 0 < k→d≤x:=fun h=>by
                refine Int.not_lt.1 fun h'=>o ⟨h,h'⟩
              have:=hF x am r
              rw [this] at m
              refine absurd ⟨m,?_⟩ s
              intro e
              rcases Nat.eq_zero_or_pos k with h | h
              · rw [z h] at m;cases m
              · have:=am h;omega
        · simp only [if_neg s];omega
  · rintro ⟨opn,d,inn,out⟩ ⟨s1,s2,s3,s4,s5,s6,s7,s8⟩
    simp only at s1 s2 s3 s4 s5 s6 s7 s8
    have ae : decide ((ys.length : Int) < (ys.length : Int)) = false:=decide_eq_false q0
    refine ⟨out,by simp only [q4d,ae,cond_false],s4,fun x=>?_⟩
    rw [s7]
    constructor
    · rintro ⟨_,_,h⟩;exact h
    · intro h
      by_cases o : 0 < ys.length∧x < d
      · exact ⟨o.1,o.2,h⟩
      · obtain ⟨c1, c2⟩ := qi7 vp vq g hs ys.length x (fun i hi _ => by
            have:=s3 q0 q0
            have:=w i (ys.length - 1) hi q0 q0
            have : d≤x:=Int.not_lt.1 fun h'=>o ⟨q0,h'⟩
            omega) (fun i hi bj=>q0)
        have ba : ∀ l,cnt l (fun _=>true) (ys.take ys.length) = 0:=by
          intro l
          rw [List.take_length,qib g,q1z]
          by_cases u : l = 0
          · subst u;rw [qic,q8a qs];rfl
          · rw [q8a u]
            by_cases r : l = 1
            · subst r;rw [qic];rfl
            · rw [q8a r];rfl
        rw [ba] at c1 c2
        have n1 : ¬ has p x:=fun h=>absurd (c1.2 h) qs
        have n2 : ¬ has q x:=fun h=>absurd (c2.2 h) qs
        rw [decide_eq_false n1,decide_eq_false n2,hf] at h
        cases h
  · constructor
    · simp [cnt]
    · simp [cnt,hf]
    · intro h u;omega
    · exact ⟨fun t ht=>(by cases ht),.nil⟩
    · intro t ht;cases ht
    · intro _;rfl
    · intro x;simp [has]
    · simp
end Go.Sh
namespace Go.Sh
open Go Go.Am
theorem qe5 {s : List qj} (h : Yi s = 0) : s.length≤400∧Good s:=by
  unfold Yi at h
  split at h
  · cases h
  · split at h
    · rename_i b a;exact ⟨q0,a⟩
    · cases h
def dst (x : Int) (t : qj) : Int:=max (max (t.Lo - x) (x - t.Hi + 1)) 0
end Go.Sh
namespace Go.Sh
open Go Go.Am
noncomputable def J1 (kind : Int) (p q : List qj) : List qj:=(qc8 kind p q).getD []
theorem q52 (kind : Int) (p q : List qj) (hp : p.length≤100000) (b : q.length≤100000) : qc8 kind p q = some (J1 kind p q)∧qdk kind p q (J1 kind p q):=by
  obtain ⟨out,a,c⟩:=qs9 kind p q hp b
  unfold J1
  rw [a];exact ⟨rfl,c⟩
noncomputable def opS (kind : Int) (p q : List qj) : List qj × Int:=
  if Yi p≠0 then ([],Yi p) else if Yi q≠0 then ([],Yi q) else if 400 < (J1 kind p q).length then ([],4) else (J1 kind p q,0)
open Classical in
theorem qs2 (kind : Int) (f : Bool→Bool→Bool) (c : f false false = false) (g : ∀ a b : Prop,(f (decide a) (decide b) = true↔Ki kind a b)) (p2 : Bool→Bool→Option Bool) (hp2 : ∀ a b,p2 a b = some (f a b))
    (p q : List qj) (hp : p.length≤500) (n : q.length≤500) (l : ∀ t∈p,vld t) (k : ∀ t∈q,vld t) : q2y p q p2 = some (J1 kind p q):=by
  obtain ⟨out,m,d,h⟩:=qk4 f c p2 hp2 p q hp n l k
  obtain ⟨_,j⟩:=q52 kind p q q0 q0
  rw [m]
  congr 1
  refine q4s d j.can fun x=>?_
  rw [h,j.pts,g]
open Classical in
theorem qhy (kind : Int) (f : Bool→Bool→Bool) (h : f false false = false) (n : ∀ a b : Prop,(f (decide a) (decide b) = true↔Ki kind a b)) (p2 : Bool→Bool→Option Bool) (hp2 : ∀ a b,p2 a b = some (f a b))
    (p q : List qj) : q7n p q p2 = some (opS kind p q):=by
  unfold q7n opS
  simp only [qe6,Option.bind_some]
  by_cases d : Yi p = 0
  · have g : (Yi p != 0) = false:=by simpa using d
    simp only [g,cond_false]
    simp only [d,ne_eq,not_true_eq_false,if_false]
    by_cases c : Yi q = 0
    · have k : (Yi q != 0) = false:=by simpa using c
      obtain ⟨r,o⟩:=qe5 d
      obtain ⟨s,m⟩:=qe5 c
      simp only [k,cond_false,c,not_true_eq_false,if_false,qs2 kind f h n p2 hp2 p q q0 q0 o.1 m.1,Option.bind_some]
      by_cases l : 400 < (J1 kind p q).length
      · have j : decide (((J1 kind p q).length : Int) > 400) = true:=decide_eq_true q0
        rw [j,if_pos l];rfl
      · have j : decide (((J1 kind p q).length : Int) > 400) = false:=decide_eq_false q0
        rw [j,if_neg l];rfl
    · have k : (Yi q != 0) = true:=by simpa using c
      simp only [k,cond_true,c,not_false_eq_true,if_true]
  · have g : (Yi p != 0) = true:=by simpa using d
    simp only [g,cond_true,d,ne_eq,not_false_eq_true,if_true]
theorem q12t (p q : List qj) : q7m p q = some (opS 2 p q):=by
  classical
  unfold q7m
  rw [qhy 2 (fun a b=>a || b) rfl (by intro a b;by_cases c : a <;> by_cases hb : b <;> simp [Ki,c,hb]) _ (by intro a b;cases a <;> rfl)]
  rfl
theorem qss (p q : List qj) : q7l p q = some (opS 1 p q):=by
  classical
  unfold q7l
  rw [qhy 1 (fun a b=>a && b) rfl (by intro a b;by_cases c : a <;> by_cases hb : b <;> simp [Ki,c,hb]) _ (by intro a b;cases a <;> rfl)]
  rfl
theorem qrw (s : List qj) (d : qj→Option Bool) (c : qj→Bool) (h : ∀ t,d t = some (c t)) (q : s.length≤1000000) :
    ∃ r,q9j s d = some r∧decide (r ≥ 0) = s.any c:=by
  have:=Zs (f:=q2s s d) (σ:=Unit) (fun k _=>(k : Int)) s.length (fun k _=>∀ i (h : i < s.length),i < k→c s[i] = false)
    (fun m=>∃ r : Int,(match m with | .inl b22=>some (-1) | .inr x1=>some x1) = some r∧decide (r ≥ 0) = s.any c) ?_ ?_ (k0:=0) (c0:=()) q0 (fun i _ hi=>q0)
  · obtain ⟨m,j,r,n,o⟩:=this
    have j : loop (q2s s d) 0 = some m:=j
    exact ⟨r,by unfold q9j;rw [j];exact n,o⟩
  · rintro k _ g hi
    have hb : decide ((k : Int) < (s.length : Int)) = true:=decide_eq_true q0
    cases b : c s[k] with
    | true=>
      refine .inr ⟨.inr (k : Int),?_,(k : Int),rfl,?_⟩
      · simp only [q2s,hb,cond_true,Qi g,Option.bind_some,h,b]
      · have : s.any c = true:=List.any_eq_true.2 ⟨s[k],List.getElem_mem g,b⟩
        rw [this];exact decide_eq_true q0
    | false=>
      refine .inl ⟨(),?_,?_⟩
      · simp only [q2s,hb,cond_true,Qi g,Option.bind_some,h,b,cond_false]
        rw [Qe q0];rfl
      · intro i a l
        by_cases e : i = k
        · subst e;exact b
        · exact hi i a q0
  · rintro _ hi
    have hb : decide ((s.length : Int) < (s.length : Int)) = false:=decide_eq_false q0
    refine ⟨.inl (),by simp only [q2s,hb,cond_false],-1,rfl,?_⟩
    have : s.any c = false:=by
      rw [List.any_eq_false]
      intro t p
      obtain ⟨i,a,rfl⟩:=List.mem_iff_getElem.1 p
      simp [hi i a a]
    rw [this];rfl
theorem qqg (s : List qj) (a : qj→Option Bool) (c : qj→Bool) (h : ∀ t,a t = some (c t)) (b : s.length≤1000000) : q9g s a = some (s.any c):=by
  obtain ⟨r,f,d⟩:=qrw s a c h b
  unfold q9g
  rw [f,Option.bind_some,d]
open Classical in
noncomputable def qfa (s : List qj) : List qj × Int:=if 400 < s.length then ([],4) else if ∀ t∈s,vld t then (J1 2 s [],0) else ([],8)
theorem qsp (s : List qj) (k : s.length≤400) (g : ∀ t∈s,vld t) (p2 : Bool→Bool→Option Bool) (hp2 : ∀ a b,p2 a b = some a) : q2y s [] p2 = some (J1 2 s []):=by
  classical
  obtain ⟨out,h,c,d⟩:=qk4 (fun a _=>a) rfl p2 hp2 s [] q0 qe g (fun t f=>by cases f)
  obtain ⟨_,j⟩:=q52 2 s [] q0 qe
  rw [h]
  congr 1
  refine q4s c j.can fun x=>?_
  rw [d,j.pts]
  simp [Ki,q1b]
theorem qso (s : List qj) : q7k s = some (qfa s):=by
  classical
  unfold q7k qfa
  by_cases f : 400 < s.length
  · have e : decide ((s.length : Int) > 400) = true:=decide_eq_true q0
    rw [e,if_pos f];rfl
  · have e : decide ((s.length : Int) > 400) = false:=decide_eq_false q0
    rw [e,if_neg f,cond_false,qqg s _ (fun t=>!decide (vld t)) (fun t=>by show (q2z t).bind _ = _;rw [qo9];rfl) q0,Option.bind_some]
    by_cases c : ∀ t∈s,vld t
    · have : (s.any fun t=>!decide (vld t)) = false:=by
        rw [List.any_eq_false];intro t d;simp [c t d]
      rw [this,cond_false,if_pos c,qsp s q0 c (fun g j=>qai g j) (fun a b=>rfl)]
      rfl
    · have : (s.any fun t=>!decide (vld t)) = true:=by
        rw [List.any_eq_true]
        obtain ⟨t,c⟩:=Classical.not_forall.1 c
        obtain ⟨d,h⟩:=Classical.not_imp.1 c
        exact ⟨t,d,by simp [h]⟩
      rw [this,cond_true,if_neg c]
def lenL : List qj→Int
  | []=>0
  | t::s=>(t.Hi - t.Lo) + lenL s
theorem qkc (a b : List qj) : lenL (a ++ b) = lenL a + lenL b:=by
  induction a with
  | nil=>simp [lenL]
  | cons t a ih=>simp only [List.cons_append,lenL,ih];omega
theorem qkd : ∀ {s : List qj},(∀ t∈s,vld t)→0≤lenL s∧lenL s≤2000000 * (s.length : Int)
  | [],_=>by simp [lenL]
  | t::s,h=>by
    obtain ⟨d,b⟩:=qkd (fun t a=>h t (List.mem_cons_of_mem _ a))
    obtain ⟨g,c,f⟩:=h t qe
    simp only [lenL,List.length_cons]
    omega
noncomputable def qf5 (s : List qj) : Int × Int:=if Yi s = 0 then (lenL s,0) else (0,Yi s)
theorem qsd (s : List qj) (o : s.length≤400) (h : ∀ t∈s,vld t) : loop (qah s) (0,0) = some (lenL s)∧loop (q8z s) (0,0) = some (lenL s):=by
  have d : ∀ k,0≤lenL (s.take k)∧lenL (s.take k)≤800000000:=by
    intro k
    have:=qkd (s:=s.take k) (fun t j=>h t (List.mem_of_mem_take j))
    have : (s.take k).length≤400:=by rw [List.length_take];omega
    omega
  constructor
  · have:=Zs (f:=qah s) (σ:=Int) (fun k c=>(c,(k : Int))) s.length (fun k c=>c = lenL (s.take k)) (fun r=>r = lenL s) ?_ ?_ (k0:=0) (c0:=0) q0 (by simp [lenL])
    · obtain ⟨b,g,rfl⟩:=this;exact g
    · rintro k c a rfl
      have hb : decide ((k : Int) < (s.length : Int)) = true:=decide_eq_true q0
      obtain ⟨n,l,m⟩:=h _ (List.getElem_mem a)
      have:=d k
      refine .inl ⟨lenL (s.take (k + 1)),?_,rfl⟩
      simp only [qah,hb,cond_true,Qi a,Option.bind_some]
      rw [Qe (x:=s[k].Hi - s[k].Lo) q0,Qe (x:=lenL (s.take k) + _) q0,Qe q0,List.take_succ_eq_append_getElem a,qkc]
      simp only [lenL,Int.add_zero];rfl
    · rintro c rfl
      have hb : decide ((s.length : Int) < (s.length : Int)) = false:=decide_eq_false q0
      exact ⟨_,by simp only [qah,hb,cond_false];rfl,by rw [List.take_length]⟩
  · have:=Zs (f:=q8z s) (σ:=Int) (fun k c=>(c,(k : Int))) s.length (fun k c=>c = lenL (s.take k)) (fun r=>r = lenL s) ?_ ?_ (k0:=0) (c0:=0) q0 (by simp [lenL])
    · obtain ⟨b,g,rfl⟩:=this;exact g
    · rintro k c a rfl
      have hb : decide ((k : Int) < (s.length : Int)) = true:=decide_eq_true q0
      obtain ⟨n,l,m⟩:=h _ (List.getElem_mem a)
      have:=d k
      refine .inl ⟨lenL (s.take (k + 1)),?_,rfl⟩
      simp only [q8z,hb,cond_true,Qi a,Option.bind_some]
      rw [Qe (x:=lenL (s.take k) + s[k].Hi) q0,Qe (x:=lenL (s.take k) + s[k].Hi - _) q0,Qe q0,List.take_succ_eq_append_getElem a,qkc]
      have : lenL (s.take k) + s[k].Hi - s[k].Lo = lenL (s.take k) + lenL [s[k]]:=by simp only [lenL];omega
      rw [this];rfl
    · rintro c rfl
      have hb : decide ((s.length : Int) < (s.length : Int)) = false:=decide_eq_false q0
      exact ⟨_,by simp only [q8z,hb,cond_false];rfl,by rw [List.take_length]⟩
theorem q13m (s : List qj) : qnf s = some (qf5 s)∧qlm s = some (qf5 s):=by
  unfold qnf qlm qf5
  simp only [qe6,qv7,Option.bind_some]
  by_cases h : Yi s = 0
  · obtain ⟨c,d⟩:=qe5 h
    obtain ⟨a,b⟩:=qsd s c d.1
    have e : (Yi s != 0) = false:=by simpa using h
    simp only [e,cond_false,a,b,Option.bind_some]
    simp only [h,if_true]
    exact ⟨trivial,trivial⟩
  · have e : (Yi s != 0) = true:=by simpa using h
    simp only [e,cond_true,if_neg h]
    exact ⟨trivial,trivial⟩
end Go.Sh
set_option maxHeartbeats 4000000
namespace Go.Sh
open Go Go.Am
def sg (a b : Int) : Int:=if a < b then -1 else 0
theorem Zv {a b : Int} : decide (sg a b < 0) = decide (a < b):=by
  unfold sg;by_cases h : a < b <;> simp [h]
def qO (a b : Int) : Option Int:=some (sg a b)
theorem J4 (a b : Int) : qO a b = some (sg a b):=rfl
theorem J2 (a b : Int) : Yw a b = some (decide (a < b)):=by
  unfold Yw q89
  have : (a != a) = false:=by simp
  simp []
theorem q10w : qd8 = q4z:=rfl
theorem qyz : (fun a=>q2d a) = (fun a=>q38 a):=by
  funext a
  simp only [q2d,q38,q10w]
  all_goals exact Qt
theorem qz0  : ∀ a,q2d a = q38 a:=fun a=>(congrFun qyz a)
theorem qyy : (fun a=>Up a) = (fun a=>q11 a):=by
  funext a
  simp only [Up,q11,qz0]
  all_goals exact Qt
theorem qmz  : ∀ a,Up a = q11 a:=fun a=>(congrFun qyy a)
theorem qzj : (fun a=>q6p a) = (fun a=>Jz a qO):=by
  funext a a443
  simp only [q6p,Jz,J2,J4,Option.bind_some,Zv]
  all_goals exact Qt
theorem qzk  : ∀ a,q6p a = Jz a qO:=fun a=>(congrFun qzj a)
theorem qzh : (fun p2 a=>q6o p2 a) = (fun p2 a=>q15 p2 a qO):=by
  funext p2 a a270
  simp only [q6o,q15,qzk]
  all_goals exact Qt
theorem qzi  : ∀ p2 a,q6o p2 a = q15 p2 a qO:=fun p2 a=>(congrFun (congrFun qzh p2) a)
theorem qzf : (fun a b p2=>q6n a b p2) = (fun a b p2=>q24 qO a b p2):=by
  funext a b p2
  simp only [q6n,q24,qzi]
  all_goals exact Qt
theorem qzg  : ∀ a b p2,q6n a b p2 = q24 qO a b p2:=fun a b p2=>(congrFun (congrFun (congrFun qzf a) b) p2)
theorem q10u : (fun p2 p3=>q7b p2 p3) = (fun p2 p3=>U2 p2 p3 qO):=by
  funext p2 p3 a193
  simp only [q7b,U2,J2,J4,Option.bind_some,Zv]
  all_goals exact Qt
theorem q10v  : ∀ p2 p3,q7b p2 p3 = U2 p2 p3 qO:=fun p2 p3=>(congrFun (congrFun q10u p2) p3)
theorem q10t : (fun a b p2 p3=>q49 a b p2 p3) = (fun a b p2 p3=>Un qO a b p2 p3):=by
  funext a b p2 p3
  simp only [q49,Un,q10v]
  all_goals exact Qt
theorem qn1  : ∀ a b p2 p3,q49 a b p2 p3 = Un qO a b p2 p3:=fun a b p2 p3=>(congrFun (congrFun (congrFun (congrFun q10t a) b) p2) p3)
theorem qzb : (fun p2 a=>q6l p2 a) = (fun p2 a=>q13 qO p2 a):=by
  funext p2 a a123
  simp only [q6l,q13,qn1]
  all_goals exact Qt
theorem qzc  : ∀ p2 a,q6l p2 a = q13 qO p2 a:=fun p2 a=>(congrFun (congrFun qzb p2) a)
theorem qzd : (fun a=>q6m a) = (fun a=>q14 a qO):=by
  funext a a191
  simp only [q6m,q14,qn1]
  all_goals exact Qt
theorem qze  : ∀ a,q6m a = q14 a qO:=fun a=>(congrFun qzd a)
theorem qz9 : (fun a b p2=>q6k a b p2) = (fun a b p2=>q23 qO a b p2):=by
  funext a b p2
  simp only [q6k,q23,qzc,qze]
  all_goals exact Qt
theorem qza  : ∀ a b p2,q6k a b p2 = q23 qO a b p2:=fun a b p2=>(congrFun (congrFun (congrFun qz9 a) b) p2)
theorem qzo : (fun a=>q1l a) = (fun a=>q25 a):=by
  funext a
  simp only [q1l,q25,qmz]
  all_goals exact Qt
theorem qzp  : ∀ a,q1l a = q25 a:=fun a=>(congrFun qzo a)
theorem q10x : (fun a=>q1m a) = (fun a=>q29 a):=by
  funext a
  simp only [q1m,q29]
  all_goals exact Qt
theorem q10y  : ∀ a,q1m a = q29 a:=fun a=>(congrFun q10x a)
theorem qz5 : (fun b p2 a=>q6i b p2 a) = (fun b p2 a=>Ue b p2 a):=by
  funext b p2 a a153
  simp only [q6i,Ue,q10y]
  all_goals exact Qt
theorem qz6  : ∀ b p2 a,q6i b p2 a = Ue b p2 a:=fun b p2 a=>(congrFun (congrFun (congrFun qz5 b) p2) a)
theorem qz3 : (fun a b p2=>q6h a b p2) = (fun a b p2=>q12 qO a b p2):=by
  funext a b p2
  simp only [q6h,q12,qzp,qz6]
  all_goals exact Qt
theorem qz4  : ∀ a b p2,q6h a b p2 = q12 qO a b p2:=fun a b p2=>(congrFun (congrFun (congrFun qz3 a) b) p2)
theorem qzq : (fun a b p2 p3=>q2u a b p2 p3) = (fun a b p2 p3=>Ug qO a b p2 p3):=by
  funext a b p2 p3
  simp only [q2u,Ug,J2,J4,Option.bind_some,Zv]
  all_goals exact Qt
theorem qzr  : ∀ a b p2 p3,q2u a b p2 p3 = Ug qO a b p2 p3:=fun a b p2 p3=>(congrFun (congrFun (congrFun (congrFun qzq a) b) p2) p3)
theorem qzl : (fun a b p2 p3 p4=>q43 a b p2 p3 p4) = (fun a b p2 p3 p4=>Uf qO a b p2 p3 p4):=by
  funext a b p2 p3 p4
  simp only [q43,Uf,qzr]
  all_goals exact Qt
theorem qn0  : ∀ a b p2 p3 p4,q43 a b p2 p3 p4 = Uf qO a b p2 p3 p4:=fun a b p2 p3 p4=>(congrFun (congrFun (congrFun (congrFun (congrFun qzl a) b) p2) p3) p4)
theorem qzm : (fun a b p2=>q2t a b p2) = (fun a b p2=>U0 qO a b p2):=by
  funext a b p2
  simp only [q2t,U0,qn0]
  all_goals exact Qt
theorem qzn  : ∀ a b p2,q2t a b p2 = U0 qO a b p2:=fun a b p2=>(congrFun (congrFun (congrFun qzm a) b) p2)
theorem qz7 : (fun a b p2=>q6j a b p2) = (fun a b p2=>q22 a b p2 qO):=by
  funext a b p2
  simp only [q6j,q22,qn0,qzn]
  all_goals exact Qt
theorem qz8  : ∀ a b p2,q6j a b p2 = q22 a b p2 qO:=fun a b p2=>(congrFun (congrFun (congrFun qz7 a) b) p2)
theorem q10s : qa9 = q28:=by
  funext a119
  simp only [qa9,q28]
  all_goals exact Qt
theorem q10q : (fun a b p2=>q79 a b p2) = (fun a b p2=>q1a qO a b p2):=by
  funext a b p2
  simp only [q79,q1a,q10s]
  all_goals exact Qt
theorem q10r  : ∀ a b p2,q79 a b p2 = q1a qO a b p2:=fun a b p2=>(congrFun (congrFun (congrFun q10q a) b) p2)
theorem qzw : (fun p2 a=>q6t p2 a) = (fun p2 a=>Uh p2 a qO):=by
  funext p2 a a667
  simp only [q6t,Uh,J2,J4,Option.bind_some,Zv]
  all_goals exact Qt
theorem qzx  : ∀ p2 a,q6t p2 a = Uh p2 a qO:=fun p2 a=>(congrFun (congrFun qzw p2) a)
theorem qzy : q9w = Ui qO:=by
  funext a822
  simp only [q9w,Ui,J2,J4,Option.bind_some,Zv]
  all_goals exact Qt
theorem qzz : (fun p2 a=>q6u p2 a) = (fun p2 a=>Uj p2 qO a):=by
  funext p2 a a912
  simp only [q6u,Uj,J2,J4,Option.bind_some,Zv]
  all_goals exact Qt
theorem q100  : ∀ p2 a,q6u p2 a = Uj p2 qO a:=fun p2 a=>(congrFun (congrFun qzz p2) a)
theorem qzu : (fun p2 a=>q46 p2 a) = (fun p2 a=>Zq p2 qO a):=by
  funext p2 a a432
  have b : @q46.match_1.{1} = @Zq.match_1.{1} Int:=by funext motive m f g;cases m <;> rfl
  unfold q46 Zq;rw [b]
  simp only [qzx,qzy,q100]
  all_goals repeat' first | with_reducible rfl | (congr 1) | funext _
  done
theorem qzv  : ∀ p2 a,q46 p2 a = Zq p2 qO a:=fun p2 a=>(congrFun (congrFun qzu p2) a)
theorem qzs : (fun a b p2=>q45 a b p2) = (fun a b p2=>U1 qO a b p2):=by
  funext a b p2
  have c : @q45.match_1.{1} = @U1.match_1.{1} Int:=by funext motive m f g;cases m <;> rfl
  unfold q45 U1;rw [c]
  simp only [qzv]
  all_goals repeat' first | with_reducible rfl | (congr 1) | funext _
  done
theorem qzt  : ∀ a b p2,q45 a b p2 = U1 qO a b p2:=fun a b p2=>(congrFun (congrFun (congrFun qzs a) b) p2)
theorem q106 : (fun a b=>q6x a b) = (fun a b=>Uk a b qO):=by
  funext a b a360
  simp only [q6x,Uk,J2,J4,Option.bind_some,Zv]
  all_goals exact Qt
theorem q107  : ∀ a b,q6x a b = Uk a b qO:=fun a b=>(congrFun (congrFun q106 a) b)
theorem q108 : (fun b a c=>q6y b a c) = (fun b a c=>Ul b a c qO):=by
  funext b a c a439
  simp only [q6y,Ul,J2,J4,Option.bind_some,Zv]
  all_goals exact Qt
theorem q109  : ∀ b a c,q6y b a c = Ul b a c qO:=fun b a c=>(congrFun (congrFun (congrFun q108 b) a) c)
theorem q104 : (fun a=>q6w a) = (fun a=>q18 a qO):=by
  funext a a304
  simp only [q6w,q18,q107,q109]
  all_goals exact Qt
theorem q105  : ∀ a,q6w a = q18 a qO:=fun a=>(congrFun q104 a)
theorem q102 : (fun a b p2 p3=>q6v a b p2 p3) = (fun a b p2 p3=>q17 qO a b p2 p3):=by
  funext a b p2 p3
  simp only [q6v,q17,q105]
  all_goals exact Qt
theorem q103  : ∀ a b p2 p3,q6v a b p2 p3 = q17 qO a b p2 p3:=fun a b p2 p3=>(congrFun (congrFun (congrFun (congrFun q102 a) b) p2) p3)
theorem q10b : (fun p2 c d b p3 a=>q70 p2 c d b p3 a) = (fun p2 c d b p3 a=>q26 p2 c d b p3 a qO):=by
  funext p2 c d b p3 a a159
  simp only [q70,q26,J2,J4,Option.bind_some,Zv]
  all_goals exact Qt
theorem q10c  : ∀ p2 c d b p3 a,q70 p2 c d b p3 a = q26 p2 c d b p3 a qO:=fun p2 c d b p3 a=>(congrFun (congrFun (congrFun (congrFun (congrFun (congrFun q10b p2) c) d) b) p3) a)
theorem q10d : (fun a d f c p3 b=>q71 a d f c p3 b) = (fun a d f c p3 b=>q27 a d f c p3 b qO):=by
  funext a d f c p3 b a239
  simp only [q71,q27,J2,J4,Option.bind_some,Zv]
  all_goals exact Qt
theorem q10e  : ∀ a d f c p3 b,q71 a d f c p3 b = q27 a d f c p3 b qO:=fun a d f c p3 b=>(congrFun (congrFun (congrFun (congrFun (congrFun (congrFun q10d a) d) f) c) p3) b)
theorem q10h : (fun a b=>q73 a b) = (fun a b=>Zz a b qO):=by
  funext a b a542
  simp only [q73,Zz,J2,J4,Option.bind_some,Zv]
  all_goals exact Qt
theorem q10i  : ∀ a b,q73 a b = Zz a b qO:=fun a b=>(congrFun (congrFun q10h a) b)
theorem q10j : (fun b a c=>q74 b a c) = (fun b a c=>J0 b a c qO):=by
  funext b a c a622
  simp only [q74,J0,J2,J4,Option.bind_some,Zv]
  all_goals exact Qt
theorem q10k  : ∀ b a c,q74 b a c = J0 b a c qO:=fun b a c=>(congrFun (congrFun (congrFun q10j b) a) c)
theorem q10f : (fun a=>q72 a) = (fun a=>q19 a qO):=by
  funext a a488
  simp only [q72,q19,q10i,q10k]
  all_goals exact Qt
theorem q10g  : ∀ a,q72 a = q19 a qO:=fun a=>(congrFun q10f a)
theorem q101 : (fun a b p2 p3=>q6z a b p2 p3) = (fun a b p2 p3=>q16 qO a b p2 p3):=by
  funext a b p2 p3
  simp only [q6z,q16,q10c,q10e,q10g]
  all_goals exact Qt
theorem q10a  : ∀ a b p2 p3,q6z a b p2 p3 = q16 qO a b p2 p3:=fun a b p2 p3=>(congrFun (congrFun (congrFun (congrFun q101 a) b) p2) p3)
theorem q10m : (fun a=>q47 a) = (fun a=>Ze qO a):=by
  funext a a305
  have b : @q47.match_1.{1} = @Ze.match_1.{1} Int:=by funext motive m f g;cases m <;> rfl
  unfold q47 Ze;rw [b]
  simp only [qzg,qza,qz4,qz8,q10r,qzt,q103,q10a,J2,J4,Option.bind_some,Zv]
  all_goals repeat' first | with_reducible rfl | (congr 1) | funext _
  done
theorem q10n  : ∀ a,q47 a = Ze qO a:=fun a=>(congrFun q10m a)
theorem q10o : (fun a b c p2 p3=>q48 a b c p2 p3) = (fun a b c p2 p3=>Um a qO b c p2 p3):=by
  funext a b c p2 p3
  simp only [q48,Um,q10n]
  all_goals exact Qt
theorem q10p  : ∀ a b c p2 p3,q48 a b c p2 p3 = Um a qO b c p2 p3:=fun a b c p2 p3=>(congrFun (congrFun (congrFun (congrFun (congrFun q10o a) b) c) p2) p3)
theorem q10l : ∀ N,q78 N = Z9 N qO:=by
  intro N
  induction N with
  | zero=>rfl
  | succ N ih=>
    funext a b c d
    show q48 (q78 N) a b c d = Um (Z9 N qO) qO a b c d
    rw [ih,q10p]
theorem qz1 : (fun a=>Jt a) = (fun a=>q21 qO a):=by
  funext a
  simp only [Jt,q21,qmz,q10l]
  all_goals exact Qt
theorem qz2  : ∀ a,Jt a = q21 qO a:=fun a=>(congrFun qz1 a)
end Go.Sh
