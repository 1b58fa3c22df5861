/- Pg4 Pg5 Pg6 Pj1 Pj2 Pl4 Pj3 Po1 -/
import Derived.Test.YtbknppciefodiaaGreatK9
namespace Go.Sh
open Go Go.Am
section
variable {T : Type} [Inhabited T] {P : T→Prop} {lt : T→T→Bool} {q : T→T→Option Int}
theorem qem {f : Int→Option (Int ⊕ Int)} (p : T→Bool) (d : Array T) (j : Nat)
    (hf : ∀ k : Nat,k≤1000002→f (k : Int) = if (decide (k≤j) && p d[k]!) = true then some (.inl ((k + 1 : Nat) : Int)) else some (.inr (k : Int))) (hj : j≤1000000) :
    ∀ (m i : Nat),j + 1 - i = m→i≤1000002→loop f (i : Int) = some ((Sort.scanUp p d j i : Nat) : Int):=by
  intro m
  induction m with
  | zero=>
    intro i hm hi
    unfold Sort.scanUp
    have hc : ¬ (decide (i≤j) && p d[i]!) = true:=by simp;omega
    rw [if_neg hc]
    exact Kc (by rw [hf i hi,if_neg hc])
  | succ m ih=>
    intro i hm hi
    unfold Sort.scanUp
    by_cases hc : (decide (i≤j) && p d[i]!) = true
    · rw [if_pos hc,Ko (by rw [hf i hi,if_pos hc])]
      exact ih (i + 1) q6 q6
    · rw [if_neg hc]
      exact Kc (by rw [hf i hi,if_neg hc])
theorem qb9 {f : Int→Option (Int ⊕ Int)} (p : T→Bool) (d : Array T) (i n : Nat) (hi : 1≤i)
    (hf : ∀ k : Nat,k < n→f (k : Int) = if (decide (i≤k) && p d[k]!) = true then some (.inl ((k - 1 : Nat) : Int)) else some (.inr (k : Int))) :
    ∀ (j : Nat),j < n→loop f (j : Int) = some ((Sort.scanDown p d i j : Nat) : Int)
  | 0,hj=>by
    have hc : ¬ (decide (i≤0) && p d[0]!) = true:=by simp;omega
    exact Kc (by rw [hf 0 hj,if_neg hc];rfl)
  | j + 1,hj=>by
    unfold Sort.scanDown
    by_cases hc : (decide (i≤j + 1) && p d[j + 1]!) = true
    · rw [if_pos hc,Ko (by rw [hf (j + 1) hj,if_pos hc])]
      exact qb9 p d i n hi hf j q6
    · rw [if_neg hc]
      exact Kc (by rw [hf (j + 1) hj,if_neg hc])
theorem qiy (hq : Kk q lt P) {n : Nat} {d : Array T} (hd : AllP n P d) {a j : Nat} (ha : a < n) (hj : j < n) (x : Int) (k : Nat) (hk : k≤1000002) :
    Zn (x,(j : Int),d.toList) (a : Int) q (k : Int) = if (decide (k≤j) && (fun x=>lt x d[a]!) d[k]!) = true then some (.inl ((k + 1 : Nat) : Int)) else some (.inr (k : Int)):=by
  have hsz:=hd.1
  by_cases h : k≤j
  · obtain ⟨r,h1,h2⟩:=hq d[k]! d[a]! (hd.2.2 _ q6) (hd.2.2 _ ha)
    have t : decide ((k : Int)≤(j : Int)) = true:=decide_eq_true q6
    simp only [Zn,t,cond_true,gx (d:=d) (k:=k) q6,gx (d:=d) (k:=a) q6,Option.bind_some,h1,h2,w1p k q6]
    simp only [decide_eq_true h,Bool.true_and,Bool.cond_eq_ite]
  · have t : decide ((k : Int)≤(j : Int)) = false:=decide_eq_false q6
    simp only [Zn,t,cond_false,Option.bind_some]
    simp [h]
theorem qiz (hq : Kk q lt P) {n : Nat} {d : Array T} (hd : AllP n P d) {a i : Nat} (ha : a < n) (hi : 1≤i) (x y : Int) (k : Nat) (hk : k < n) :
    Zo (i : Int) (x,y,d.toList) (a : Int) q (k : Int) = if (decide (i≤k) && (fun x=>!lt x d[a]!) d[k]!) = true then some (.inl ((k - 1 : Nat) : Int)) else some (.inr (k : Int)):=by
  have hsz:=hd.1
  have hn:=hd.2.1
  by_cases h : i≤k
  · obtain ⟨r,h1,h2⟩:=hq d[k]! d[a]! (hd.2.2 _ q6) (hd.2.2 _ ha)
    have t : decide ((i : Int)≤(k : Int)) = true:=decide_eq_true q6
    have w : w64 ((k : Int) - 1) = ((k - 1 : Nat) : Int):=by rw [Q6 q6];omega
    simp only [Zo,t,cond_true,gx (d:=d) (k:=k) q6,gx (d:=d) (k:=a) q6,Option.bind_some,h1,h2,w]
    simp only [decide_eq_true h,Bool.true_and,Bool.cond_eq_ite]
  · have t : decide ((i : Int)≤(k : Int)) = false:=decide_eq_false q6
    simp only [Zo,t,cond_false,Option.bind_some]
    simp [h]
theorem qri (hq : Kk q lt P) {n : Nat} {d : Array T} (hd : AllP n P d) {a j : Nat} (ha : a < n) (hj : j < n) (x : Int) (k : Nat) (hk : k≤1000002) :
    Jz (x,(j : Int),d.toList) (a : Int) q (k : Int) = if (decide (k≤j) && (fun x=>!lt d[a]! x) d[k]!) = true then some (.inl ((k + 1 : Nat) : Int)) else some (.inr (k : Int)):=by
  have hsz:=hd.1
  by_cases h : k≤j
  · obtain ⟨r,h1,h2⟩:=hq d[a]! d[k]! (hd.2.2 _ ha) (hd.2.2 _ q6)
    have t : decide ((k : Int)≤(j : Int)) = true:=decide_eq_true q6
    simp only [Jz,t,cond_true,gx (d:=d) (k:=k) q6,gx (d:=d) (k:=a) q6,Option.bind_some,h1,h2,w1p k q6]
    simp only [decide_eq_true h,Bool.true_and,Bool.cond_eq_ite]
  · have t : decide ((k : Int)≤(j : Int)) = false:=decide_eq_false q6
    simp only [Jz,t,cond_false,Option.bind_some]
    simp [h]
theorem qrj (hq : Kk q lt P) {n : Nat} {d : Array T} (hd : AllP n P d) {a i : Nat} (ha : a < n) (hi : 1≤i) (x y : Int) (k : Nat) (hk : k < n) :
    U0 (i : Int) (x,y,d.toList) (a : Int) q (k : Int) = if (decide (i≤k) && (fun x=>lt d[a]! x) d[k]!) = true then some (.inl ((k - 1 : Nat) : Int)) else some (.inr (k : Int)):=by
  have hsz:=hd.1
  have hn:=hd.2.1
  by_cases h : i≤k
  · obtain ⟨r,h1,h2⟩:=hq d[a]! d[k]! (hd.2.2 _ ha) (hd.2.2 _ q6)
    have t : decide ((i : Int)≤(k : Int)) = true:=decide_eq_true q6
    have w : w64 ((k : Int) - 1) = ((k - 1 : Nat) : Int):=by rw [Q6 q6];omega
    simp only [U0,t,cond_true,gx (d:=d) (k:=k) q6,gx (d:=d) (k:=a) q6,Option.bind_some,h1,h2,w]
    simp only [decide_eq_true h,Bool.true_and,Bool.cond_eq_ite]
  · have t : decide ((i : Int)≤(k : Int)) = false:=decide_eq_false q6
    simp only [U0,t,cond_false,Option.bind_some]
    simp [h]
theorem qrd (hq : Kk q lt P) (a n : Nat) (ha : a < n) : ∀ (m i j : Nat) (d : Array T),j + 1 - i = m→AllP n P d→1≤i→i≤n + 1→j < n→
    loop (Uq (a : Int) q) ((i : Int),(j : Int),d.toList) = some (((Sort.partLoop lt a i j d).1 : Int),(Sort.partLoop lt a i j d).2.toList)∧AllP n P (Sort.partLoop lt a i j d).2∧(Sort.partLoop lt a i j d).1 < n:=by
  intro m
  induction m using Nat.strongRecOn with
  | _ m ih=>
    intro i j d hm hd hi hi2 hj
    have hsz:=hd.1
    have hn:=hd.2.1
    rw [Sort.partLoop_eq]
    have s1:=qem (f:=Zn ((i : Int),(j : Int),d.toList) (a : Int) q) (fun x=>lt x d[a]!) d j (fun k hk=>qiy hq hd ha hj _ k hk) q6 _ i rfl q6
    have g1:=Sort.scanUp_ge (fun x=>lt x d[a]!) d j i
    have u1:=(Sort.scanUp_spec (fun x=>lt x d[a]!) d j _ i rfl).2.1
    generalize Sort.scanUp (fun x=>lt x d[a]!) d j i = i2 at s1 g1 u1 ⊢
    have s2:=qb9 (f:=Zo (i2 : Int) ((i : Int),(j : Int),d.toList) (a : Int) q) (fun x=>!lt x d[a]!) d i2 n q6 (fun k hk=>qiz hq hd ha q6 _ _ k hk) j hj
    have g2:=Sort.scanDown_le (fun x=>!lt x d[a]!) d i2 j
    generalize Sort.scanDown (fun x=>!lt x d[a]!) d i2 j = j2 at s2 g2 ⊢
    by_cases hc : i2 > j2
    · rw [if_pos hc]
      have t : decide ((i2 : Int) > (j2 : Int)) = true:=decide_eq_true q6
      refine ⟨Kc ?_,hd,by show j2 < n;omega⟩
      simp only [Uq,s1,s2,Option.bind_some,t,cond_true]
    · rw [if_neg hc]
      have t : decide ((i2 : Int) > (j2 : Int)) = false:=decide_eq_false q6
      have ihc:=ih ((j2 - 1) + 1 - (i2 + 1)) q6 (i2 + 1) (j2 - 1) _ rfl (hd.swp (a:=i2) (b:=j2) q6 q6) q6 q6 q6
      refine ⟨?_,ihc.2⟩
      rw [Ko (a':=(((i2 + 1 : Nat) : Int),((j2 - 1 : Nat) : Int),(Sort.swp d i2 j2).toList)) ?_]
      · exact ihc.1
      · have w : w64 ((j2 : Int) - 1) = ((j2 - 1 : Nat) : Int):=by rw [Q6 q6];omega
        simp only [Uq,s1,s2,Option.bind_some,t,cond_false,gx (d:=d) (k:=i2) q6,gx (d:=d) (k:=j2) q6,gxs (d:=d) (k:=j2) q6,Int.toNat_natCast,gswp,w,w1p i2 q6]
theorem qrc (hq : Kk q lt P) (a n : Nat) (ha : a < n) : ∀ (m i j : Nat) (d : Array T),j + 1 - i = m→AllP n P d→1≤i→i≤n + 1→j < n→
    loop (Up (a : Int) q) ((i : Int),(j : Int),d.toList) = some (((Sort.partEqLoop lt a i j d).1 : Int),(Sort.partEqLoop lt a i j d).2.toList):=by
  intro m
  induction m using Nat.strongRecOn with
  | _ m ih=>
    intro i j d hm hd hi hi2 hj
    have hsz:=hd.1
    have hn:=hd.2.1
    rw [Sort.partEqLoop_eq]
    have s1:=qem (f:=Jz ((i : Int),(j : Int),d.toList) (a : Int) q) (fun x=>!lt d[a]! x) d j (fun k hk=>qri hq hd ha hj _ k hk) q6 _ i rfl q6
    have g1:=Sort.scanUp_ge (fun x=>!lt d[a]! x) d j i
    have u1:=(Sort.scanUp_spec (fun x=>!lt d[a]! x) d j _ i rfl).2.1
    generalize Sort.scanUp (fun x=>!lt d[a]! x) d j i = i2 at s1 g1 u1 ⊢
    have s2:=qb9 (f:=U0 (i2 : Int) ((i : Int),(j : Int),d.toList) (a : Int) q) (fun x=>lt d[a]! x) d i2 n q6 (fun k hk=>qrj hq hd ha q6 _ _ k hk) j hj
    have g2:=Sort.scanDown_le (fun x=>lt d[a]! x) d i2 j
    generalize Sort.scanDown (fun x=>lt d[a]! x) d i2 j = j2 at s2 g2 ⊢
    by_cases hc : i2 > j2
    · rw [if_pos hc]
      have t : decide ((i2 : Int) > (j2 : Int)) = true:=decide_eq_true q6
      refine Kc ?_
      simp only [Up,s1,s2,Option.bind_some,t,cond_true]
    · rw [if_neg hc]
      have t : decide ((i2 : Int) > (j2 : Int)) = false:=decide_eq_false q6
      rw [Ko (a':=(((i2 + 1 : Nat) : Int),((j2 - 1 : Nat) : Int),(Sort.swp d i2 j2).toList)) ?_]
      · exact ih ((j2 - 1) + 1 - (i2 + 1)) q6 (i2 + 1) (j2 - 1) _ rfl (hd.swp (a:=i2) (b:=j2) q6 q6) q6 q6 q6
      · have w : w64 ((j2 : Int) - 1) = ((j2 - 1 : Nat) : Int):=by rw [Q6 q6];omega
        simp only [Up,s1,s2,Option.bind_some,t,cond_false,gx (d:=d) (k:=i2) q6,gx (d:=d) (k:=j2) q6,gxs (d:=d) (k:=j2) q6,Int.toNat_natCast,gswp,w,w1p i2 q6]
theorem qrf (hq : Kk q lt P) {a b n p : Nat} (hb : b≤n) (hab : a < b) (hp : p < n) {d : Array T} (hd : AllP n P d) :
    Uo q d.toList (a : Int) (b : Int) (p : Int) = some (((Sort.partitionEqual lt d a b p).1 : Int),(Sort.partitionEqual lt d a b p).2.toList):=by
  have hsz:=hd.1
  have hn:=hd.2.1
  have w : w64 ((b : Int) - 1) = ((b - 1 : Nat) : Int):=by rw [Q6 q6];omega
  have s:=qrc hq a n q6 _ (a + 1) (b - 1) _ rfl (hd.swp (a:=a) (b:=p) q6 hp) q6 q6 q6
  unfold Uo Sort.partitionEqual
  simp only [gx (d:=d) (k:=p) q6,gx (d:=d) (k:=a) q6,gxs (d:=d) (k:=p) q6,Option.bind_some,Int.toNat_natCast,gswp,w,w1p a q6,s]
theorem qrg (hq : Kk q lt P) {a b n p : Nat} (hb : b≤n) (hab : a < b) (hp : p < n) {d : Array T} (hd : AllP n P d) :
    Un q d.toList (a : Int) (b : Int) (p : Int) = some (((Sort.partition lt d a b p).1 : Int),(Sort.partition lt d a b p).2.1,(Sort.partition lt d a b p).2.2.toList):=by
  have hsz:=hd.1
  have hn:=hd.2.1
  have w : w64 ((b : Int) - 1) = ((b - 1 : Nat) : Int):=by rw [Q6 q6];omega
  have hD:=hd.swp (a:=a) (b:=p) q6 hp
  have e1 : q1k (b : Int) d.toList (a : Int) d[p]! (p : Int) d[a]! q = Zn ((0 : Int),((b - 1 : Nat) : Int),(Sort.swp d a p).toList) (a : Int) q:=by
    funext k
    simp only [q1k,Zn,w,Int.toNat_natCast,gswp]
  have e2 : ∀ i2 : Int,q1l i2 d.toList (a : Int) d[p]! (p : Int) d[a]! q = Zo i2 ((0 : Int),(0 : Int),(Sort.swp d a p).toList) (a : Int) q:=by
    intro i2;funext k
    simp only [q1l,Zo,Int.toNat_natCast,gswp]
  unfold Un Sort.partition
  simp only [gx (d:=d) (k:=p) q6,gx (d:=d) (k:=a) q6,gxs (d:=d) (k:=p) q6,Option.bind_some,e1,e2,Int.toNat_natCast,gswp,w,w1p a q6]
  generalize Sort.swp d a p = D at hD ⊢
  have hsD:=hD.1
  have s1:=qem (f:=Zn ((0 : Int),((b - 1 : Nat) : Int),D.toList) (a : Int) q) (fun x=>lt x D[a]!) D (b - 1) (fun k hk=>qiy hq hD q6 q6 _ k hk) q6 _ (a + 1) rfl q6
  have g1:=Sort.scanUp_ge (fun x=>lt x D[a]!) D (b - 1) (a + 1)
  generalize Sort.scanUp (fun x=>lt x D[a]!) D (b - 1) (a + 1) = i2 at s1 g1 ⊢
  have s2:=qb9 (f:=Zo (i2 : Int) ((0 : Int),(0 : Int),D.toList) (a : Int) q) (fun x=>!lt x D[a]!) D i2 n q6 (fun k hk=>qiz hq hD q6 q6 _ _ k hk) (b - 1) q6
  have g2:=Sort.scanDown_le (fun x=>!lt x D[a]!) D i2 (b - 1)
  generalize Sort.scanDown (fun x=>!lt x D[a]!) D i2 (b - 1) = j2 at s2 g2 ⊢
  simp only [s1,s2,Option.bind_some]
  by_cases hc : i2 > j2
  · have t : decide ((i2 : Int) > (j2 : Int)) = true:=decide_eq_true q6
    simp only [if_pos hc,t,cond_true,gx (d:=D) (k:=a) q6,gx (d:=D) (k:=j2) q6,gxs (d:=D) (k:=a) q6,Option.bind_some,Int.toNat_natCast,gswp]
  · have t : decide ((i2 : Int) > (j2 : Int)) = false:=decide_eq_false q6
    have w2 : w64 ((j2 : Int) - 1) = ((j2 - 1 : Nat) : Int):=by rw [Q6 q6];omega
    obtain ⟨s3,a3,b3⟩:=qrd hq a n q6 _ (i2 + 1) (j2 - 1) _ rfl (hD.swp (a:=i2) (b:=j2) q6 q6) q6 q6 q6
    simp only [if_neg hc,t,cond_false,gx (d:=D) (k:=i2) q6,gx (d:=D) (k:=j2) q6,gxs (d:=D) (k:=j2) q6,Option.bind_some,Int.toNat_natCast,gswp,w2,w1p i2 q6,s3]
    generalize Sort.partLoop lt a (i2 + 1) (j2 - 1) (Sort.swp D i2 j2) = R at a3 b3 ⊢
    have hsR:=a3.1
    simp only [gx (d:=R.2) (k:=a) q6,gx (d:=R.2) (k:=R.1) q6,gxs (d:=R.2) (k:=a) q6,Option.bind_some,Int.toNat_natCast,gswp]
theorem qt5 (hq : Kk q lt P) {b n : Nat} (hb : b≤n) {d : Array T} (hd : AllP n P d) (x y : Int) : ∀ (m i : Nat),b - i = m→1≤i→i≤b→
    loop (Jw (b : Int) (x,y,d.toList) q) (i : Int) = some ((Sort.scanSorted lt d b i : Nat) : Int)∧i≤Sort.scanSorted lt d b i∧Sort.scanSorted lt d b i≤b:=by
  have hsz:=hd.1
  have hn:=hd.2.1
  intro m
  induction m with
  | zero=>
    intro i hm hi hib
    unfold Sort.scanSorted
    rw [if_neg (by simp;omega)]
    have t : decide ((i : Int) < (b : Int)) = false:=decide_eq_false q6
    exact ⟨Kc (by simp only [Jw,t,cond_false,Option.bind_some]),Nat.le_refl _,hib⟩
  | succ m ih=>
    intro i hm hi hib
    unfold Sort.scanSorted
    have t : decide ((i : Int) < (b : Int)) = true:=decide_eq_true q6
    have w : w64 ((i : Int) - 1) = ((i - 1 : Nat) : Int):=by rw [Q6 q6];omega
    obtain ⟨r,h1,h2⟩:=hq d[i]! d[i - 1]! (hd.2.2 _ q6) (hd.2.2 _ q6)
    by_cases hl : lt d[i]! d[i - 1]! = true
    · rw [if_neg (by simp [hl])]
      refine ⟨Kc ?_,Nat.le_refl _,hib⟩
      simp only [Jw,t,cond_true,w,gx (d:=d) (k:=i) q6,gx (d:=d) (k:=i - 1) q6,Option.bind_some,h1,h2,hl,Bool.not_true,cond_false]
    · have hl : lt d[i]! d[i - 1]! = false:=by simpa using hl
      rw [if_pos (by simp [hl];omega)]
      have ihc:=ih (i + 1) q6 q6 q6
      refine ⟨?_,q6,ihc.2.2⟩
      rw [Ko (a':=((i + 1 : Nat) : Int)) ?_]
      · exact ihc.1
      · simp only [Jw,t,cond_true,w,gx (d:=d) (k:=i) q6,gx (d:=d) (k:=i - 1) q6,Option.bind_some,h1,h2,hl,Bool.not_false,w1p i q6]
theorem qk7 (hq : Kk q lt P) (n : Nat) : ∀ (j : Nat) (d : Array T),AllP n P d→j < n→loop (Jx q) ((j : Int),d.toList) = some (Sort.shiftDown lt j d).toList∧AllP n P (Sort.shiftDown lt j d)
  | 0,d,hd,hj=>by
    have t : decide (((0 : Nat) : Int) ≥ 1) = false:=decide_eq_false q6
    exact ⟨Kc (by simp only [Jx,t,cond_false];rfl),hd⟩
  | j + 1,d,hd,hj=>by
    have hsz:=hd.1
    have hn:=hd.2.1
    have t : decide (((j + 1 : Nat) : Int) ≥ 1) = true:=decide_eq_true q6
    obtain ⟨r,h1,h2⟩:=hq d[j + 1]! d[j]! (hd.2.2 _ hj) (hd.2.2 _ q6)
    unfold Sort.shiftDown
    by_cases hl : lt d[j + 1]! d[j]! = true
    · rw [if_neg (by simp [hl])]
      have ih:=qk7 hq n j _ (hd.swp (a:=j + 1) (b:=j) hj q6) q6
      refine ⟨?_,ih.2⟩
      rw [Ko (a':=((j : Int),(Sort.swp d (j + 1) j).toList)) ?_]
      · exact ih.1
      · simp only [Jx,t,cond_true,gx (d:=d) (k:=j + 1) q6,w1m j q6,gx (d:=d) (k:=j) q6,gxs (d:=d) (k:=j) q6,Option.bind_some,h1,h2,hl,Bool.not_true,cond_false,Int.toNat_natCast,gswp]
    · have hl : lt d[j + 1]! d[j]! = false:=by simpa using hl
      rw [if_pos (by simp [hl])]
      refine ⟨Kc ?_,hd⟩
      simp only [Jx,t,cond_true,gx (d:=d) (k:=j + 1) q6,w1m j q6,gx (d:=d) (k:=j) q6,Option.bind_some,h1,h2,hl,Bool.not_false]
theorem qk9 (hq : Kk q lt P) {b n : Nat} (hb : b≤n) (c : Int) : ∀ (m j : Nat) (d : Array T),b - j = m→AllP n P d→1≤j→loop (Jy (b : Int) q c) ((j : Int),d.toList) = some (c,(Sort.shiftUp lt b j d).toList)∧AllP n P (Sort.shiftUp lt b j d):=by
  intro m
  induction m with
  | zero=>
    intro j d hm hd hj
    unfold Sort.shiftUp
    rw [if_neg q6]
    have t : decide ((j : Int) < (b : Int)) = false:=decide_eq_false q6
    exact ⟨Kc (by simp only [Jy,t,cond_false]),hd⟩
  | succ m ih=>
    intro j d hm hd hj
    have hsz:=hd.1
    have hn:=hd.2.1
    unfold Sort.shiftUp
    rw [if_pos q6]
    have t : decide ((j : Int) < (b : Int)) = true:=decide_eq_true q6
    have w : w64 ((j : Int) - 1) = ((j - 1 : Nat) : Int):=by rw [Q6 q6];omega
    obtain ⟨r,h1,h2⟩:=hq d[j]! d[j - 1]! (hd.2.2 _ q6) (hd.2.2 _ q6)
    by_cases hl : lt d[j]! d[j - 1]! = true
    · rw [if_neg (by simp [hl])]
      have ihc:=ih (j + 1) _ q6 (hd.swp (a:=j) (b:=j - 1) q6 q6) q6
      refine ⟨?_,ihc.2⟩
      rw [Ko (a':=(((j + 1 : Nat) : Int),(Sort.swp d j (j - 1)).toList)) ?_]
      · exact ihc.1
      · simp only [Jy,t,cond_true,w,gx (d:=d) (k:=j) q6,gx (d:=d) (k:=j - 1) q6,gxs (d:=d) (k:=j - 1) q6,Option.bind_some,h1,h2,hl,Bool.not_true,cond_false,Int.toNat_natCast,gswp,w1p j q6]
    · have hl : lt d[j]! d[j - 1]! = false:=by simpa using hl
      rw [if_pos (by simp [hl])]
      refine ⟨Kc ?_,hd⟩
      simp only [Jy,t,cond_true,w,gx (d:=d) (k:=j) q6,gx (d:=d) (k:=j - 1) q6,Option.bind_some,h1,h2,hl,Bool.not_false]
theorem qj1 (hq : Kk q lt P) {a b n : Nat} (hb : b≤n) : ∀ (s i : Nat) (d : Array T),s≤5→AllP n P d→a < i→i≤b→
    ∃ m,loop (Zi (b : Int) q (a : Int)) ((i : Int),((5 - s : Nat) : Int),d.toList) = some m∧(match m with | .inl b441=>some (false,b441) | .inr x1=>some x1) = some ((Sort.partialIns lt a b s i d).2,(Sort.partialIns lt a b s i d).1.toList)
  | 0,i,d,hs,hd,hi,hib=>by
    have t : decide (((5 - 0 : Nat) : Int) < 5) = false:=decide_eq_false q6
    refine ⟨.inl d.toList,Kc (by simp only [Zi,t,cond_false]),rfl⟩
  | s + 1,i,d,hs,hd,hi,hib=>by
    have hsz:=hd.1
    have hn:=hd.2.1
    have t : decide (((5 - (s + 1) : Nat) : Int) < 5) = true:=decide_eq_true q6
    rw [Sort.partialIns_succ]
    obtain ⟨s1,l1,u1⟩:=qt5 hq hb hd (i : Int) ((5 - (s + 1) : Nat) : Int) _ i rfl q6 hib
    generalize Sort.scanSorted lt d b i = k at s1 l1 u1 ⊢
    by_cases hk : k = b
    · subst hk
      rw [if_pos rfl]
      refine ⟨.inr (true,d.toList),Kc ?_,rfl⟩
      simp only [Zi,t,cond_true,s1,Option.bind_some,beq_self_eq_true]
    · rw [if_neg hk]
      have tk : ((k : Int) == (b : Int)) = false:=by simp;omega
      have e0 : w64 ((b : Int) - (a : Int)) = ((b - a : Nat) : Int):=wsub q6 q6
      by_cases h50 : b - a < 50
      · rw [if_pos h50]
        have t50 : decide (((b - a : Nat) : Int) < 50) = true:=decide_eq_true q6
        refine ⟨.inr (false,d.toList),Kc ?_,rfl⟩
        simp only [Zi,t,cond_true,s1,Option.bind_some,tk,cond_false,e0,t50]
      · rw [if_neg h50]
        have t50 : decide (((b - a : Nat) : Int) < 50) = false:=decide_eq_false q6
        have wk : w64 ((k : Int) - 1) = ((k - 1 : Nat) : Int):=by rw [Q6 q6];omega
        have wa : w64 ((k : Int) - (a : Int)) = ((k - a : Nat) : Int):=wsub q6 q6
        have wb : w64 ((b : Int) - (k : Int)) = ((b - k : Nat) : Int):=wsub q6 q6
        have hd1:=hd.swp (a:=k) (b:=k - 1) q6 q6
        have down : (cond (decide (((k - a : Nat) : Int) ≥ 2)) ((loop (Jx q) (((k - 1 : Nat) : Int),(Sort.swp d k (k - 1)).toList)).bind fun x0=>some x0) (some (Sort.swp d k (k - 1)).toList)) = some (Sort.fixDown lt a k (Sort.swp d k (k - 1))).toList∧AllP n P (Sort.fixDown lt a k (Sort.swp d k (k - 1))):=by
          unfold Sort.fixDown
          by_cases h2 : k - a ≥ 2
          · have t2 : decide (((k - a : Nat) : Int) ≥ 2) = true:=decide_eq_true q6
            obtain ⟨x,y⟩:=qk7 hq n (k - 1) _ hd1 q6
            rw [if_pos h2,t2,cond_true,x];exact ⟨rfl,y⟩
          · have t2 : decide (((k - a : Nat) : Int) ≥ 2) = false:=decide_eq_false q6
            rw [if_neg h2,t2,cond_false];exact ⟨rfl,hd1⟩
        obtain ⟨dn,hd2⟩:=down
        have hd3 : AllP n P (Sort.fixUp lt b k (Sort.fixDown lt a k (Sort.swp d k (k - 1)))):=by
          unfold Sort.fixUp
          split
          · exact (qk9 hq hb 0 _ (k + 1) _ rfl hd2 q6).2
          · exact hd2
        obtain ⟨m,hm1,hm2⟩:=qj1 (a:=a) hq hb s k _ q6 hd3 q6 u1
        refine ⟨m,?_,hm2⟩
        rw [Ko (a':=((k : Int),((5 - s : Nat) : Int),(Sort.fixUp lt b k (Sort.fixDown lt a k (Sort.swp d k (k - 1)))).toList)) ?_]
        · exact hm1
        · have w5 : w64 (((5 - (s + 1) : Nat) : Int) + 1) = ((5 - s : Nat) : Int):=by rw [Q6 q6];omega
          simp only [Zi,t,cond_true,s1,Option.bind_some,tk,cond_false,e0,t50,wk,gx (d:=d) (k:=k) q6,gx (d:=d) (k:=k - 1) q6,gxs (d:=d) (k:=k - 1) q6,Int.toNat_natCast,gswp,wa,dn,wb,w1p k q6]
          unfold Sort.fixUp
          by_cases h2 : b - k ≥ 2
          · have t2 : decide (((b - k : Nat) : Int) ≥ 2) = true:=decide_eq_true q6
            obtain ⟨x,y⟩:=qk9 hq hb (k : Int) _ (k + 1) _ rfl hd2 q6
            rw [if_pos h2,t2,cond_true,x]
            simp only [Option.bind_some,w5]
          · have t2 : decide (((b - k : Nat) : Int) ≥ 2) = false:=decide_eq_false q6
            rw [if_neg h2,t2,cond_false]
            simp only [Option.bind_some,w5]
theorem qre (hq : Kk q lt P) {a b n : Nat} (hb : b≤n) (hab : a < b) {d : Array T} (hd : AllP n P d) :
    Jj q d.toList (a : Int) (b : Int) = some ((Sort.partialInsertionSort lt d a b).2,(Sort.partialInsertionSort lt d a b).1.toList):=by
  have hn:=hd.2.1
  obtain ⟨m,h1,h2⟩:=qj1 (a:=a) hq hb 5 (a + 1) d q6 hd q6 q6
  have h1 : loop (Zi (b : Int) q (a : Int)) (((a + 1 : Nat) : Int),0,d.toList) = some m:=h1
  unfold Jj Sort.partialInsertionSort
  rw [w1p a q6,h1]
  exact h2
end
end Go.Sh
namespace Go.Sh
open Go Go.Am
theorem qi7 {α β : Type} {f : α→Option (α ⊕ β)} {a : α} (h : f a = none) : loop f a = none:=by
  apply Option.ext
  intro b
  rw [q7i]
  constructor
  · rintro ⟨n,hn⟩
    cases n with
    | zero=>simp [iter] at hn
    | succ n=>simp [iter,h] at hn
  · intro h;cases h
section
variable {T : Type} [Inhabited T] {P : T→Prop} {lt : T→T→Bool} {q : T→T→Option Int}
def Srt (lt : T→T→Bool) (a b : Nat) (d : Array T) (o : Option (List T)) : Prop:=∃ d' : Array T,o = some d'.toList∧Sort.PermIn a b d d'∧Sort.SortedIn lt a b d'
theorem qrh (hq : Kk q lt P) (hS : Sort.SWO lt) {n N : Nat} (rec : List T→Int→Int→Int→Option (List T))
    (hrec : ∀ (a b limit : Nat) (d : Array T),AllP n P d→a≤b→b≤n→limit≤1000→Sort.Below lt a b d→Srt lt a b d (rec d.toList (a : Int) (b : Int) (limit : Int))∨(N≤b - a∧rec d.toList (a : Int) (b : Int) (limit : Int) = none)) :
    ∀ (m a b limit : Nat) (wb wp : Bool) (d : Array T),b - a = m→AllP n P d→a≤b→b≤n→limit≤1000→Sort.Below lt a b d→
      Srt lt a b d (loop (Yz q rec) ((a : Int),(b : Int),(limit : Int),wb,wp,d.toList))∨(N + 1≤b - a∧loop (Yz q rec) ((a : Int),(b : Int),(limit : Int),wb,wp,d.toList) = none):=by
  intro m
  induction m using Nat.strongRecOn with
  | _ m ih=>
    intro a b limit wb wp d hm hd hab hb hl hB
    have hsz:=hd.1
    have hn:=hd.2.1
    have e0 : w64 ((b : Int) - (a : Int)) = ((b - a : Nat) : Int):=wsub hab q6
    by_cases h12 : b - a≤12
    ·
      have t : decide (((b - a : Nat) : Int)≤12) = true:=decide_eq_true q6
      obtain ⟨x,y⟩:=Sort.insertionSort_holds (lt:=lt) hS d a b hab q6
      have s:=qox hq hb hab hd
      refine .inl ⟨_,Kc ?_,x,y⟩
      simp only [Yz,e0,t,cond_true,s,Option.bind_some,Jm hd (hd.perm hab hb x)]
    have t12 : decide (((b - a : Nat) : Int)≤12) = false:=decide_eq_false q6
    by_cases h0 : limit = 0
    ·
      have t : ((limit : Int) == 0) = true:=by simp [h0]
      obtain ⟨x,y⟩:=Sort.heapSort_holds (lt:=lt) hS d a b hab q6
      have s:=qor hq hb (by omega : a < b) hd
      refine .inl ⟨_,Kc ?_,x,y⟩
      simp only [Yz,e0,t12,cond_false,t,cond_true,s,Option.bind_some,Jm hd (hd.perm hab hb x)]
    have t0 : ((limit : Int) == 0) = false:=by simp [h0]
    have hA : ∃ (l1 : Nat) (d1 : Array T),(cond (!wb) ((Uj q d.toList (a : Int) (b : Int)).bind fun e341=>(Qu e341.length d.toList.length).bind fun u343=>some (w64 ((limit : Int) - 1),e341)) (some ((limit : Int),d.toList))) = some ((l1 : Int),d1.toList)∧l1≤1000∧AllP n P d1∧Sort.PermIn a b d d1:=by
      cases wb with
      | true=>exact ⟨limit,d,rfl,hl,hd,Sort.permIn_refl _ _ _⟩
      | false=>
        have x:=Sort.breakPatterns_holds d a b hab q6
        have hd1:=hd.perm hab hb x
        have w : w64 ((limit : Int) - 1) = ((limit - 1 : Nat) : Int):=by rw [Q6 q6];omega
        refine ⟨limit - 1,_,?_,q6,hd1,x⟩
        simp only [Bool.not_false,cond_true,qm6 (q:=q) hb (by omega : a < b) hd,Option.bind_some,Jm hd hd1,w]
    obtain ⟨l1,d1,eA,hl1,hd1,p1⟩:=hA
    have hC:=qn3 hq hd1 (by omega : a < b) hb
    obtain ⟨c1,c2⟩:=Sort.choosePivot_holds lt d1 a b q6
    generalize (Sort.choosePivot lt d1 a b).1 = c at hC c1 c2
    generalize qdc (Sort.choosePivot lt d1 a b).2 = h at hC
    have hR : ∃ (p : Nat) (h2 : Int) (d2 : Array T),(cond (h == 2) ((Ur q d1.toList (a : Int) (b : Int)).bind fun e356=>(Qu e356.length d1.toList.length).bind fun u358=>some (w64 ((w64 ((b : Int) - 1)) - (w64 ((c : Int) - (a : Int)))),(1 : Int),e356)) (some ((c : Int),h,d1.toList))) = some ((p : Int),h2,d2.toList)∧a≤p∧p < b∧AllP n P d2∧Sort.PermIn a b d1 d2:=by
      cases hh : (h == 2) with
      | false=>exact ⟨c,h,d1,rfl,c1,c2,hd1,Sort.permIn_refl _ _ _⟩
      | true=>
        have x:=Sort.reverseRange_holds d1 a b hab (by rw [hd1.1];exact hb)
        have hd2:=hd1.perm hab hb x
        have w1 : w64 ((b : Int) - 1) = ((b - 1 : Nat) : Int):=by rw [Q6 q6];omega
        have w2 : w64 ((c : Int) - (a : Int)) = ((c - a : Nat) : Int):=wsub c1 q6
        have w3 : w64 (((b - 1 : Nat) : Int) - ((c - a : Nat) : Int)) = ((b - 1 - (c - a) : Nat) : Int):=wsub q6 q6
        refine ⟨b - 1 - (c - a),1,_,?_,q6,q6,hd2,x⟩
        simp only [cond_true,qsz (q:=q) hb (by omega : a < b) hd1,Option.bind_some,Jm hd1 hd2,w1,w2,w3]
    obtain ⟨p,h2,d2,eR,hp1,hp2,hd2,p2⟩:=hR
    have hB2 : Sort.Below lt a b d2:=(hB.perm q6 p1).perm (by rw [hd1.1];exact hb) p2
    have p12:=Sort.permIn_trans _ _ _ a b p1 p2
    have hP : ∀ cc : Bool,∃ m376 : (List T) ⊕ (List T),(cond cc ((Jj q d2.toList (a : Int) (b : Int)).bind fun e378=>(Qu e378.2.length d2.toList.length).bind fun u380=>cond e378.1 (some (.inr e378.2)) (some (.inl e378.2))) (some (.inl d2.toList)) : Option ((List T) ⊕ (List T))) = some m376∧
        ((∃ d3 : Array T,m376 = .inr d3.toList∧Sort.PermIn a b d2 d3∧Sort.SortedIn lt a b d3)∨(∃ d3 : Array T,m376 = .inl d3.toList∧AllP n P d3∧Sort.PermIn a b d2 d3)):=by
      intro cc
      cases cc with
      | false=>exact ⟨_,rfl,.inr ⟨d2,rfl,hd2,Sort.permIn_refl _ _ _⟩⟩
      | true=>
        obtain ⟨x,y⟩:=Sort.partialInsertionSort_holds (lt:=lt) hS d2 a b q6 (by rw [hd2.1];exact hb) hB2
        have hd3:=hd2.perm hab hb x
        have s:=qre hq hb (by omega : a < b) hd2
        simp only [cond_true,s,Option.bind_some,Jm hd2 hd3]
        cases hz : (Sort.partialInsertionSort lt d2 a b).2 with
        | true=>exact ⟨_,rfl,.inl ⟨_,rfl,x,y hz⟩⟩
        | false=>exact ⟨_,rfl,.inr ⟨_,rfl,hd3,x⟩⟩
    obtain ⟨m376,eP,hm3⟩:=hP (wb && wp && (h2 == 1))
    have hBB : ∀ {γ : Type} (X : Bool→Option γ),((cond wb (some wp) (some false)).bind fun c361=>(cond c361 (some (h2 == 1)) (some false)).bind X) = X (wb && wp && (h2 == 1)):=by
      intro γ X;cases wb <;> cases wp <;> rfl
    have head : Yz q rec ((a : Int),(b : Int),(limit : Int),wb,wp,d.toList) = (match (generalizing:=false) m376 with | .inl b377=>(cond (decide ((a : Int) > 0)) ((idx b377 (w64 ((a : Int) - 1))).bind fun v405=>(idx b377 (p : Int)).bind fun v407=>(q v405 v407).bind fun r409=>some (!(decide (r409 < 0)))) (some false)).bind fun c389=>cond c389 ((Uo q b377 (a : Int) (b : Int) (p : Int)).bind fun e416=>(Qu e416.2.length b377.length).bind fun u418=>some (.inl (e416.1,(b : Int),(l1 : Int),wb,wp,e416.2))) ((Un q b377 (a : Int) (b : Int) (p : Int)).bind fun e421=>(Qu e421.2.2.length b377.length).bind fun u423=>cond (decide ((w64 (e421.1 - (a : Int))) < (w64 ((b : Int) - e421.1)))) ((rec e421.2.2 (a : Int) e421.1 (l1 : Int)).bind fun e426=>(Qu e426.length e421.2.2.length).bind fun u428=>some (.inl (w64 (e421.1 + 1),(b : Int),(l1 : Int),decide ((w64 (e421.1 - (a : Int))) ≥ (w64 (Int.tdiv ((b - a : Nat) : Int) 8))),e421.2.1,e426))) ((rec e421.2.2 (w64 (e421.1 + 1)) (b : Int) (l1 : Int)).bind fun e431=>(Qu e431.length e421.2.2.length).bind fun u433=>some (.inl ((a : Int),e421.1,(l1 : Int),decide ((w64 ((b : Int) - e421.1)) ≥ (w64 (Int.tdiv ((b - a : Nat) : Int) 8))),e421.2.1,e431)))) | .inr x1=>some (.inr x1)):=by
      simp only [Yz,e0,t12,cond_false,t0,eA,Option.bind_some,hC,eR,hBB,eP]
      clear eP hm3 hP hrec ih
      cases m376 <;> rfl
    rcases hm3 with ⟨d3,rfl,x,y⟩ | ⟨d3,rfl,hd3,p3⟩
    · refine .inl ⟨d3,Kc ?_,Sort.permIn_trans _ _ _ a b p12 x,y⟩
      rw [head]
    have hs3:=hd3.1
    have P3:=Sort.permIn_trans _ _ _ a b p12 p3
    have B3 : Sort.Below lt a b d3:=hB2.perm (by rw [hd2.1];exact hb) p3
    have hTest : (cond (decide ((a : Int) > 0)) ((idx d3.toList (w64 ((a : Int) - 1))).bind fun v405=>(idx d3.toList (p : Int)).bind fun v407=>(q v405 v407).bind fun r409=>some (!(decide (r409 < 0)))) (some false)) = some (decide (a > 0) && !lt d3[a - 1]! d3[p]!):=by
      by_cases ha : a > 0
      · have ta : decide ((a : Int) > 0) = true:=decide_eq_true q6
        have w : w64 ((a : Int) - 1) = ((a - 1 : Nat) : Int):=by rw [Q6 q6];omega
        obtain ⟨r,h1,h2⟩:=hq d3[a - 1]! d3[p]! (hd3.2.2 _ q6) (hd3.2.2 _ q6)
        simp only [ta,cond_true,w,gx (d:=d3) (k:=a - 1) q6,gx (d:=d3) (k:=p) q6,Option.bind_some,h1,h2,decide_eq_true ha,Bool.true_and]
      · have ta : decide ((a : Int) > 0) = false:=decide_eq_false q6
        simp only [ta,cond_false,decide_eq_false ha,Bool.false_and]
    simp only [hTest,Option.bind_some] at head
    by_cases hc : (decide (a > 0) && !lt d3[a - 1]! d3[p]!) = true
    ·
      rw [hc] at head
      have s:=qrf hq hb (by omega : a < b) (by omega : p < n) hd3
      simp only [Bool.and_eq_true,decide_eq_true_eq,Bool.not_eq_true'] at hc
      cases hx : Sort.partitionEqual lt d3 a b p with
      | mk mid d4=>
        obtain ⟨g1,g2,hs4,hB4,hfin⟩:=Sort.round_eq hS (Sort.partitionEqual_holds lt) hc.1 hp1 hp2 (by rw [hs3];exact hb) B3 hc.2 hx
        have hge : ∀ i,a≤i→i < b→lt d3[i]! d3[p]! = false:=fun i hi hi'=>by
          rcases B3 with h0 | hB
          · omega
          · exact hS.ntrans _ _ _ (hB i hi hi') hc.2
        obtain ⟨_,_,hperm,_,_⟩:=Sort.partitionEqual_holds lt hS d3 a b p hp1 hp2 (by rw [hs3];exact hb) hge
        rw [hx] at hperm s
        have hd4:=hd3.perm hab hb hperm
        simp only [cond_true,s,Option.bind_some,Jm hd3 hd4] at head
        rw [Ko head]
        rcases ih (b - mid) q6 mid b l1 wb wp d4 rfl hd4 g2 hb hl1 hB4 with ⟨R,r0,r1,r2⟩ | ⟨r1,r2⟩
        · obtain ⟨q1,q2⟩:=hfin _ r1 r2
          exact .inl ⟨R,r0,Sort.permIn_trans _ _ _ a b P3 q1,q2⟩
        · exact .inr ⟨q6,r2⟩
    ·
      have hc : (decide (a > 0) && !lt d3[a - 1]! d3[p]!) = false:=by simpa using hc
      rw [hc] at head
      have s:=qrg hq hb (by omega : a < b) (by omega : p < n) hd3
      cases hx : Sort.partition lt d3 a b p with
      | mk mid r=>
      cases r with
      | mk ap d4=>
        obtain ⟨g1,g2,hs4,hBa,hBr,hleft,hright⟩:=Sort.round_part hS (Sort.partition_holds lt) hp1 hp2 (by rw [hs3];exact hb) B3 hx
        obtain ⟨_,_,hperm,_,_⟩:=Sort.partition_holds lt hS d3 a b p hp1 hp2 (by rw [hs3];exact hb)
        rw [hx] at hperm s
        have hd4:=hd3.perm hab hb hperm
        have w1 : w64 ((mid : Int) - (a : Int)) = ((mid - a : Nat) : Int):=wsub g1 q6
        have w2 : w64 ((b : Int) - (mid : Int)) = ((b - mid : Nat) : Int):=wsub q6 q6
        simp only [cond_false,s,Option.bind_some,Jm hd3 hd4,w1,w2,w1p mid q6] at head
        by_cases hlt : mid - a < b - mid
        · have tl : decide (((mid - a : Nat) : Int) < ((b - mid : Nat) : Int)) = true:=decide_eq_true q6
          simp only [tl,cond_true] at head
          rcases hrec a mid l1 d4 hd4 g1 q6 hl1 hBa with ⟨L,e,l1',l2'⟩ | ⟨r1,r2⟩
          · have hdL:=hd4.perm g1 q6 l1'
            obtain ⟨hBL,hfin⟩:=hleft _ l1' l2'
            simp only [e,Option.bind_some,Jm hd4 hdL] at head
            rw [Ko head]
            rcases ih (b - (mid + 1)) q6 (mid + 1) b l1 _ _ L rfl hdL q6 hb hl1 hBL with ⟨R,r0,r1,r2⟩ | ⟨r1,r2⟩
            · obtain ⟨q1,q2⟩:=hfin _ r1 r2
              exact .inl ⟨R,r0,Sort.permIn_trans _ _ _ a b P3 q1,q2⟩
            · exact .inr ⟨q6,r2⟩
          · simp only [r2,Option.bind_none] at head
            exact .inr ⟨q6,qi7 head⟩
        · have tl : decide (((mid - a : Nat) : Int) < ((b - mid : Nat) : Int)) = false:=decide_eq_false q6
          simp only [tl,cond_false] at head
          rcases hrec (mid + 1) b l1 d4 hd4 q6 hb hl1 hBr with ⟨L,e,l1',l2'⟩ | ⟨r1,r2⟩
          · have hdL:=hd4.perm (by omega : mid + 1≤b) hb l1'
            obtain ⟨hBL,hfin⟩:=hright _ l1' l2'
            simp only [e,Option.bind_some,Jm hd4 hdL] at head
            rw [Ko head]
            rcases ih (mid - a) q6 a mid l1 _ _ L rfl hdL g1 q6 hl1 hBL with ⟨R,r0,r1,r2⟩ | ⟨r1,r2⟩
            · obtain ⟨q1,q2⟩:=hfin _ r1 r2
              exact .inl ⟨R,r0,Sort.permIn_trans _ _ _ a b P3 q1,q2⟩
            · exact .inr ⟨q6,r2⟩
          · simp only [r2,Option.bind_none] at head
            exact .inr ⟨q6,qi7 head⟩
theorem qj2 (hq : Kk q lt P) (hS : Sort.SWO lt) {n : Nat} : ∀ (N a b limit : Nat) (d : Array T),AllP n P d→a≤b→b≤n→limit≤1000→Sort.Below lt a b d→
    Srt lt a b d (Yu N q d.toList (a : Int) (b : Int) (limit : Int))∨(N≤b - a∧Yu N q d.toList (a : Int) (b : Int) (limit : Int) = none)
  | 0,a,b,limit,d,_,_,_,_,_=>.inr ⟨q6,rfl⟩
  | N + 1,a,b,limit,d,hd,hab,hb,hl,hB=>by
    have h:=qrh hq hS (N:=N) (Yu N q) (fun a b limit d h1 h2 h3 h4 h5=>qj2 hq hS N a b limit d h1 h2 h3 h4 h5) _ a b limit true true d rfl hd hab hb hl hB
    have e : Yu (N + 1) q d.toList (a : Int) (b : Int) (limit : Int) = loop (Yz q (Yu N q)) ((a : Int),(b : Int),(limit : Int),true,true,d.toList):=by
      show U1 (Yu N q) q d.toList (a : Int) (b : Int) (limit : Int) = _
      unfold U1
      cases loop (Yz q (Yu N q)) ((a : Int),(b : Int),(limit : Int),true,true,d.toList) <;> rfl
    rw [e]
    exact h
theorem qks (hq : Kk q lt P) (hS : Sort.SWO lt) (xs : List T) (hl : xs.length≤1000000) (hP : ∀ x∈xs,P x) :
    ∃ ys,q1f q xs = some ys∧ys.Perm xs∧ys.Pairwise (fun x y=>lt y x = false):=by
  have hd : AllP xs.length P xs.toArray:=by
    refine ⟨qd,hl,fun i hi=>?_⟩
    have : xs.toArray[i]! = xs[i]:=by simp [hi]
    rw [this];exact hP _ (List.getElem_mem hi)
  have hk : Sort.bitsLen xs.length≤20:=(Sort.bitsLen_le_iff _ 20).2 q6
  have hall : ∀ N,_:=fun N=>qj2 hq hS N 0 xs.length (Sort.bitsLen xs.length) xs.toArray hd q6 q6 q6 (.inl rfl)
  have h1:=hall (xs.length + 1)
  rcases h1 with ⟨d',e,_,_⟩ | ⟨h,_⟩
  · obtain ⟨r,hr⟩:=qp8 (f:=fun N=>Yu N q xs 0 (xs.length : Int) ((Sort.bitsLen xs.length : Nat) : Int)) e
    obtain ⟨N,hN⟩:=qdj hr
    have hN : Yu N q xs 0 (xs.length : Int) ((Sort.bitsLen xs.length : Nat) : Int) = some r:=hN
    rcases hall N with ⟨d2,e2,x,y⟩ | ⟨_,e2⟩
    · have e2 : Yu N q xs 0 (xs.length : Int) ((Sort.bitsLen xs.length : Nat) : Int) = some d2.toList:=e2
      rw [hN] at e2
      obtain rfl : r = d2.toList:=Option.some.inj e2
      have hsz : d2.size = xs.length:=by rw [x.1];simp
      refine ⟨d2.toList,?_,?_,?_⟩
      · unfold q1f
        rw [q17,show ((xs.length : Int) % 18446744073709551616) = (xs.length : Int) by omega,qi4 _ hl]
        simp only [Option.bind_some,hr]
        unfold Qu
        rw [if_pos (by simp [hsz])]
        rfl
      · have:=x.2.2
        have t1 : d2.extract 0 xs.length = d2:=by rw [← hsz];simp
        have t2 : xs.toArray.extract 0 xs.length = xs.toArray:=by simp
        rw [t1,t2] at this
        exact this
      · rw [List.pairwise_iff_getElem]
        intro i j hi hj hij
        have hi2 : i < d2.size:=by simpa using hi
        have hj2 : j < d2.size:=by simpa using hj
        have:=y i j q6 hij q6
        rw [getElem!_pos d2 i hi2,getElem!_pos d2 j hj2] at this
        simpa using this
    · have e2 : Yu N q xs 0 (xs.length : Int) ((Sort.bitsLen xs.length : Nat) : Int) = none:=e2
      rw [hN] at e2;cases e2
  · omega
end
end Go.Sh
namespace Go.Sh
open Go Go.Am
theorem qu6 : qbs = q4a:=rfl
theorem qt7 : q1r = q2n:=by
  funext p0
  simp only [q1r,q2n,qu6]
  all_goals exact Qr
theorem qk0 : U5 = Ui:=by
  funext p0
  simp only [U5,Ui,qt7]
  all_goals exact Qr
theorem qth : q8p = Jh:=by
  funext p1 q1 a459
  simp only [q8p,Jh]
  all_goals exact Qr
theorem qtg : q8o = Um:=by
  funext p2 p1 q1 a278
  simp only [q8o,Um,qth]
  all_goals exact Qr
theorem qtf : q8n = q1i:=by
  funext q1 p0 p1 p2
  simp only [q8n,q1i,qtg]
  all_goals exact Qr
theorem qu5 : q97 = Jk:=by
  funext p2 p3 q1 a197
  simp only [q97,Jk]
  all_goals exact Qr
theorem qk2 : q6a = U2:=by
  funext q1 p0 p1 p2 p3
  simp only [q6a,U2,qu5]
  all_goals exact Qr
theorem qtd : q8l = Uk:=by
  funext q1 p2 p1 a123
  simp only [q8l,Uk,qk2]
  all_goals exact Qr
theorem qte : q8m = Ul:=by
  funext p1 q1 a191
  simp only [q8m,Ul,qk2]
  all_goals exact Qr
theorem qtc : q8k = q1h:=by
  funext q1 p0 p1 p2
  simp only [q8k,q1h,qtd,qte]
  all_goals exact Qr
theorem qtj : q13 = q1j:=by
  funext p0
  simp only [q13,q1j,qk0]
  all_goals exact Qr
theorem qu7 : q14 = q1n:=by
  funext p0
  simp only [q14,q1n]
  all_goals exact Qr
theorem qta : q8i = Jt:=by
  funext p1 p2 r101 a153
  simp only [q8i,Jt,qu7]
  all_goals exact Qr
theorem qt9 : q8h = Uj:=by
  funext q1 p0 p1 p2
  simp only [q8h,Uj,qtj,qta]
  all_goals exact Qr
theorem qtk : q3j = Jv:=by
  funext q1 p0 p1 p2 p3
  simp only [q3j,Jv]
  all_goals exact Qr
theorem qk1 : q5q = Ju:=by
  funext q1 p0 p1 p2 p3 p4
  simp only [q5q,Ju,qtk]
  all_goals exact Qr
theorem qti : q3h = Ji:=by
  funext q1 p0 p1 p2
  simp only [q3h,Ji,qk1]
  all_goals exact Qr
theorem qtb : q8j = q1g:=by
  funext p0 p1 p2 p3
  simp only [q8j,q1g,qk1,qti]
  all_goals exact Qr
theorem qu4 : q95 = q1m:=by
  funext a119
  simp only [q95,q1m]
  all_goals exact Qr
theorem qu3 : q94 = Ur:=by
  funext q1 p0 p1 p2
  simp only [q94,Ur,qu4]
  all_goals exact Qr
theorem qtn : q8q = Jw:=by
  funext p2 a438 q1 a681
  simp only [q8q,Jw]
  all_goals exact Qr
theorem qto : q8r = Jx:=by
  funext q1 a838
  simp only [q8r,Jx]
  all_goals exact Qr
theorem qtp : q8s = Jy:=by
  funext p2 q1 b684 a928
  simp only [q8s,Jy]
  all_goals exact Qr
theorem qtm : q5s = Zi:=by
  funext p2 q1 p1 a438
  have mm : @q5s.match_1.{1} = @Zi.match_1.{1} qj:=by funext motive m f g;cases m <;> rfl
  unfold q5s Zi
  rw [mm]
  simp only [qtn,qto,qtp]
theorem qtl : q5r = Jj:=by
  funext q1 p0 p1 p2
  have mm : @q5r.match_1.{1} = @Jj.match_1.{1} qj:=by funext motive m f g;cases m <;> rfl
  unfold q5r Jj
  rw [mm]
  simp only [qtm]
theorem qtt : q92 = Jz:=by
  funext a318 p1 q1 a378
  simp only [q92,Jz]
  all_goals exact Qr
theorem qtu : q93 = U0:=by
  funext b381 a318 p1 q1 a463
  simp only [q93,U0]
  all_goals exact Qr
theorem qts : q91 = Up:=by
  funext p1 q1 a318
  simp only [q91,Up,qtt,qtu]
  all_goals exact Qr
theorem qtr : q90 = Uo:=by
  funext q1 p0 p1 p2 p3
  simp only [q90,Uo,qts]
  all_goals exact Qr
theorem qtv : q8v = q1k:=by
  funext p2 p0 p1 v101 p3 v103 q1 a163
  simp only [q8v,q1k]
  all_goals exact Qr
theorem qtw : q8w = q1l:=by
  funext b166 p0 p1 v101 p3 v103 q1 a249
  simp only [q8w,q1l]
  all_goals exact Qr
theorem qty : q8y = Zn:=by
  funext a514 p1 q1 a572
  simp only [q8y,Zn]
  all_goals exact Qr
theorem qtz : q8z = Zo:=by
  funext b575 a514 p1 q1 a658
  simp only [q8z,Zo]
  all_goals exact Qr
theorem qtx : q8x = Uq:=by
  funext p1 q1 a514
  simp only [q8x,Uq,qty,qtz]
  all_goals exact Qr
theorem qtq : q8u = Un:=by
  funext q1 p0 p1 p2 p3
  simp only [q8u,Un,qtv,qtw,qtx]
  all_goals exact Qr
theorem qu1 : q66 = Yz:=by
  funext q1 rec a309
  have mm : @q66.match_1.{1} = @Yz.match_1.{1} qj:=by funext motive m f g;cases m <;> rfl
  unfold q66 Yz
  rw [mm]
  simp only [qtf,qtc,qt9,qtb,qu3,qtl,qtr,qtq]
theorem qu2 : q67 = U1:=by
  funext rec q1 p0 p1 p2 p3
  simp only [q67,U1,qu1]
  all_goals exact Qr
theorem qu0 : ∀ N q,q65 N q = Yu N q:=by
  intro N q
  induction N with
  | zero=>rfl
  | succ N ih=>
    funext a b c d
    show q67 (q65 N q) q a b c d = U1 (Yu N q) q a b c d
    rw [ih,qu2]
theorem qt8 : q5g = q1f:=by
  funext q1 p0
  simp only [q5g,q1f,qk0,qu0]
  all_goals exact Qr
end Go.Sh
namespace Go.Sh
open Go Go.Am
instance : Inhabited qj:=⟨⟨0,0,0⟩⟩
theorem qxu (q : qj→qj→Option Int) (xs : List qj) : q5g q xs = q1f q xs:=by rw [qt8]
def evs (s : List qm) (l : Int) : List qj:=s.flatMap fun t=>[{at_:=t.Lo,list_:=l,by_:=1},{at_:=t.Hi,list_:=l,by_:=-1}]
theorem q7b (s : List qm) (l : Int) : (evs s l).length = 2 * s.length:=by
  induction s with
  | nil=>rfl
  | cons t s ih=>simp only [evs,List.flatMap_cons,List.length_append,List.length_cons,List.length_nil] at ih ⊢;omega
theorem qan {s : List qm} {l : Int} {e : qj} (h : e∈evs s l) : e.list_ = l∧(e.by_ = 1∨e.by_ = -1)∧∃ t∈s,e.at_ = t.Lo∨e.at_ = t.Hi:=by
  simp only [evs,List.mem_flatMap] at h
  obtain ⟨t,ht,h⟩:=h
  simp only [List.mem_cons,List.not_mem_nil,or_false] at h
  rcases h with rfl | rfl
  · exact ⟨rfl,.inl rfl,t,ht,.inl rfl⟩
  · exact ⟨rfl,.inr rfl,t,ht,.inr rfl⟩
theorem qgm (s : List qm) (l : Int) (y : List qj) (hs : s.length≤1000) (base : List qj) (hb : base.length≤10000) :
    loop (q3t s (l,y)) (0,base) = some (base ++ evs s l):=by
  have:=J9 (f:=q3t s (l,y)) (σ:=List qj) (fun k c=>((k : Int),c)) s.length (fun k c=>c = base ++ evs (s.take k) l) (fun t=>t = base ++ evs s l) ?_ ?_ (k0:=0) (c0:=base) q6 (by simp [evs])
  · obtain ⟨b,h1,rfl⟩:=this;exact h1
  · rintro k c hk rfl
    have hb1 : decide ((k : Int) < (s.length : Int)) = true:=decide_eq_true q6
    refine .inl ⟨base ++ evs (s.take (k + 1)) l,?_,rfl⟩
    have hlen : (evs (s.take k) l).length≤2000:=by rw [q7b,List.length_take];omega
    simp only [q3t,hb1,cond_true,Qj hk,Option.bind_some]
    rw [Kr (by rw [List.length_append];simp only [List.length_cons,List.length_nil];omega),Option.bind_some,Q6 q6,List.take_succ_eq_append_getElem hk,List.append_assoc]
    have : evs (s.take k ++ [s[k]]) l = evs (s.take k) l ++ [{at_:=s[k].Lo,list_:=l,by_:=1},{at_:=s[k].Hi,list_:=l,by_:=-1}]:=by simp only [evs,List.flatMap_append,List.flatMap_cons,List.flatMap_nil,List.append_nil]
    rw [this];rfl
  · rintro c rfl
    have hb1 : decide ((s.length : Int) < (s.length : Int)) = false:=decide_eq_false q6
    exact ⟨_,by simp only [q3t,hb1,cond_false];rfl,by rw [List.take_length]⟩
def ltE (a b : qj) : Bool:=decide (a.at_ < b.at_)
def inE (e : qj) : Prop:=-1000000≤e.at_∧e.at_≤1000000
theorem swoE : Sort.SWO ltE where
  irrefl:=by intro x;simp [ltE]
  trans:=by intro x y z;simp only [ltE,decide_eq_true_eq];omega
  ntrans:=by intro x y z;simp only [ltE,decide_eq_false_iff_not];omega
theorem cmpE : Kk (fun x0 x1=>q9c x0 x1) ltE inE:=by
  rintro x y ⟨h1,h2⟩ ⟨h3,h4⟩
  refine ⟨x.at_ - y.at_,?_,?_⟩
  · show some (w64 (x.at_ - y.at_)) = _;rw [Q6 q6]
  · unfold ltE;exact decide_eq_decide.2 q6
theorem qxt (p q : List qm) (hp : p.length≤500) (hq : q.length≤500) (vp : ∀ t∈p,vld t) (vq : ∀ t∈q,vld t) :
    ∃ ys,q9d [p,q] = some ([p,q],ys)∧ys.Perm (evs p 0 ++ evs q 1)∧ys.Pairwise (fun x y=>x.at_≤y.at_):=by
  have hP : ∀ x∈evs p 0 ++ evs q 1,inE x:=by
    intro x hx
    rcases List.mem_append.1 hx with h | h
    · obtain ⟨_,_,t,ht,h⟩:=qan h
      obtain ⟨a,b,c⟩:=vp t ht
      unfold inE;rcases h with h | h <;> omega
    · obtain ⟨_,_,t,ht,h⟩:=qan h
      obtain ⟨a,b,c⟩:=vq t ht
      unfold inE;rcases h with h | h <;> omega
  have l1:=q7b p 0
  have l2:=q7b q 1
  obtain ⟨ys,h1,h2,h3⟩:=qks cmpE swoE (evs p 0 ++ evs q 1) (by rw [List.length_append];omega) hP
  refine ⟨ys,?_,h2,h3.imp (fun {x y} h=>by simp only [ltE,decide_eq_false_iff_not] at h;omega)⟩
  have hloop : loop (Ua [p,q]) (0,[]) = some (evs p 0 ++ evs q 1):=by
    have s0 : Ua [p,q] (0,[]) = some (.inl (1,evs p 0)):=by
      have t : decide ((0 : Int) < (([p,q] : List (List qm)).length : Int)) = true:=rfl
      simp only [Ua,t,cond_true]
      have : idx [p,q] 0 = some p:=rfl
      rw [this]
      simp only [Option.bind_some,qgm p 0 [] q6 [] qd,List.nil_append]
      rfl
    have s1 : Ua [p,q] (1,evs p 0) = some (.inl (2,evs p 0 ++ evs q 1)):=by
      have t : decide ((1 : Int) < (([p,q] : List (List qm)).length : Int)) = true:=rfl
      simp only [Ua,t,cond_true]
      have : idx [p,q] 1 = some q:=rfl
      rw [this]
      simp only [Option.bind_some,qgm q 1 (evs p 0) q6 (evs p 0) q6]
      rfl
    have s2 : Ua [p,q] (2,evs p 0 ++ evs q 1) = some (.inr (evs p 0 ++ evs q 1)):=by
      have t : decide ((2 : Int) < (([p,q] : List (List qm)).length : Int)) = false:=rfl
      simp only [Ua,t,cond_false]
    rw [Ko s0,Ko s1,Kc s2]
  unfold q9d
  rw [hloop]
  simp only [Option.bind_some,qxu,h1]
  have le : Qu ys.length (evs p 0 ++ evs q 1).length = some ():=by unfold Qu;rw [if_pos h2.length_eq]
  have le2 : Qu ys.length ys.length = some ():=by unfold Qu;rw [if_pos rfl]
  simp only [le,Option.bind_some,qbn,le2]
def cnt (l : Int) (c : Int→Bool) : List qj→Int
  | []=>0
  | e::es=>(if e.list_ = l∧c e.at_ = true then e.by_ else 0) + cnt l c es
theorem q1b (l : Int) (c : Int→Bool) (a b : List qj) : cnt l c (a ++ b) = cnt l c a + cnt l c b:=by
  induction a with
  | nil=>simp [cnt]
  | cons e a ih=>simp only [List.cons_append,cnt,ih];omega
theorem qg9 {l : Int} {c : Int→Bool} {a b : List qj} (h : a.Perm b) : cnt l c a = cnt l c b:=by
  induction h with
  | nil=>rfl
  | cons x _ ih=>simp only [cnt,ih]
  | swap x y l=>simp only [cnt];omega
  | trans _ _ ih1 ih2=>rw [ih1,ih2]
theorem qg6 {l : Int} {c c' : Int→Bool} : ∀ {a : List qj},(∀ e∈a,c e.at_ = c' e.at_)→cnt l c a = cnt l c' a
  | [],_=>rfl
  | e::a,h=>by simp only [cnt,h e qd,qg6 (fun e he=>h e (List.mem_cons_of_mem _ he))]
theorem qg8 {l : Int} {c : Int→Bool} : ∀ {a : List qj},(∀ e∈a,c e.at_ = false)→cnt l c a = 0
  | [],_=>rfl
  | e::a,h=>by
    simp only [cnt,qg8 (fun e he=>h e (List.mem_cons_of_mem _ he)),h e qd]
    simp
theorem q70 {s : List qm} {l l' : Int} {c : Int→Bool} (h : l≠l') : cnt l c (evs s l') = 0:=by
  induction s with
  | nil=>rfl
  | cons t s ih=>
    have : evs (t::s) l' = [{at_:=t.Lo,list_:=l',by_:=1},{at_:=t.Hi,list_:=l',by_:=-1}] ++ evs s l':=rfl
    rw [this,q1b,ih]
    have h' : ¬ l' = l:=fun e=>h e.symm
    simp [cnt,h']
theorem qg7 {s : List qm} {l : Int} (v : ∀ t∈s,vld t) (x : Int) : 0≤cnt l (fun a=>decide (a≤x)) (evs s l)∧(0 < cnt l (fun a=>decide (a≤x)) (evs s l)↔has s x):=by
  induction s with
  | nil=>exact ⟨Int.le_refl 0,by simp [evs,cnt,has]⟩
  | cons t s ih=>
    obtain ⟨i1,i2⟩:=ih (fun t ht=>v t (List.mem_cons_of_mem _ ht))
    have hv:=v t qd
    have : evs (t::s) l = [{at_:=t.Lo,list_:=l,by_:=1},{at_:=t.Hi,list_:=l,by_:=-1}] ++ evs s l:=rfl
    rw [this,q1b,Z7,← i2]
    obtain ⟨v1,v2,v3⟩:=hv
    simp only [cnt,true_and,decide_eq_true_eq]
    split <;> split <;> omega
theorem qga {s : List qm} {l : Int} : cnt l (fun _=>true) (evs s l) = 0:=by
  induction s with
  | nil=>rfl
  | cons t s ih=>
    have : evs (t::s) l = [{at_:=t.Lo,list_:=l,by_:=1},{at_:=t.Hi,list_:=l,by_:=-1}] ++ evs s l:=rfl
    rw [this,q1b,ih]
    simp [cnt]
theorem qcr {l : Int} {c : Int→Bool} : ∀ {a : List qj},(∀ e∈a,e.by_ = 1∨e.by_ = -1)→-(a.length : Int)≤cnt l c a∧cnt l c a≤(a.length : Int)
  | [],_=>by simp [cnt]
  | e::a,h=>by
    obtain ⟨h1,h2⟩:=qcr (l:=l) (c:=c) (fun e he=>h e (List.mem_cons_of_mem _ he))
    have:=h e qd
    simp only [cnt,List.length_cons]
    split <;> omega
end Go.Sh
namespace Go.Sh
open Go Go.Am
theorem qn5 (at_ last : Int) (inn : Bool) (out : List qm) (h : out.length≤10000) :
    q9e at_ inn last out = some (inn,last,if inn = true∧last≠at_ then addS out last at_ else out):=by
  unfold q9e
  cases inn with
  | false=>rfl
  | true=>
    by_cases he : last = at_
    · simp [he]
    · have hb : (last == at_) = false:=by simpa using he
      simp only [Bool.not_true,cond_false,Option.bind_some,hb]
      rw [if_pos ⟨trivial,he⟩]
      rcases qbo out with rfl | ⟨d,t,rfl⟩
      · rfl
      · have hl : (d ++ [t]).length = d.length + 1:=by simp
        have h0 : decide (((d ++ [t]).length : Int) > 0) = true:=decide_eq_true q6
        have hw : w64 (((d ++ [t]).length : Int) - 1) = (d.length : Int):=by rw [Q6 q6];omega
        have hx : idx (d ++ [t]) (d.length : Int) = some t:=by
          rw [Qj q6];simp
        simp only [h0,cond_true,hw,hx,Option.bind_some]
        by_cases h2 : t.Hi = last
        · subst h2
          simp only [beq_self_eq_true,cond_true,q9y,Int.toNat_natCast,qk5]
        · have hb2 : (t.Hi == last) = false:=by simpa using h2
          simp only [hb2,cond_false,q9z h2]
          rw [Kr (by simp;omega)]
          rfl
open Classical in
structure qln (f : Bool→Bool→Bool) (p q : List qm) (ys : List qj) (k : Nat) (c : List Int × Int × Bool × List qm) : Prop where
  opn : c.1 = [cnt 0 (fun _=>true) (ys.take k),cnt 1 (fun _=>true) (ys.take k)]
  inn : c.2.2.1 = f (decide (0 < cnt 0 (fun _=>true) (ys.take k))) (decide (0 < cnt 1 (fun _=>true) (ys.take k)))
  lst : ∀ (h : k - 1 < ys.length),0 < k→c.2.1 = ys[k - 1].at_
  can : Can c.2.2.2
  his : ∀ t∈c.2.2.2,t.Hi≤c.2.1
  zro : k = 0→c.2.2.2 = []
  pts : ∀ x,has c.2.2.2 x↔0 < k∧x < c.2.1∧f (decide (has p x)) (decide (has q x)) = true
  len : c.2.2.2.length≤k
theorem qlp (c : List qm) (a b : Int) : (addS c a b).length≤c.length + 1:=by
  rcases qbo c with rfl | ⟨d,t,rfl⟩
  · simp [qf7]
  · by_cases h : t.Hi = a
    · subst h;rw [q9y];simp
    · rw [q9z h];simp
theorem qg5 {p q : List qm} {ys : List qj} (hp : ∀ t∈p,vld t) (hq : ∀ t∈q,vld t) (hperm : ys.Perm (evs p 0 ++ evs q 1)) (hs : ys.Pairwise (fun x y=>x.at_≤y.at_)) (k : Nat) (x : Int)
    (h1 : ∀ i (h : i < ys.length),i < k→ys[i].at_≤x) (h2 : ∀ i (h : i < ys.length),k≤i→x < ys[i].at_) :
    (0 < cnt 0 (fun _=>true) (ys.take k)↔has p x)∧(0 < cnt 1 (fun _=>true) (ys.take k)↔has q x):=by
  have key : ∀ l,cnt l (fun _=>true) (ys.take k) = cnt l (fun a=>decide (a≤x)) (evs p 0) + cnt l (fun a=>decide (a≤x)) (evs q 1):=by
    intro l
    rw [← q1b,← qg9 hperm]
    conv=>rhs;rw [← List.take_append_drop k ys]
    rw [q1b]
    have a1 : cnt l (fun a=>decide (a≤x)) (ys.drop k) = 0:=by
      refine qg8 fun e he=>?_
      obtain ⟨i,hi,rfl⟩:=List.mem_iff_getElem.1 he
      rw [List.getElem_drop]
      rw [List.length_drop] at hi
      have:=h2 (k + i) q6 q6
      exact decide_eq_false q6
    have a2 : cnt l (fun a=>decide (a≤x)) (ys.take k) = cnt l (fun _=>true) (ys.take k):=by
      refine qg6 fun e he=>?_
      obtain ⟨i,hi,rfl⟩:=List.mem_iff_getElem.1 he
      rw [List.getElem_take]
      rw [List.length_take] at hi
      exact decide_eq_true (h1 i q6 q6)
    rw [a1,a2];omega
  rw [key 0,key 1,q70 (l:=0) (l':=1) qy,q70 (l:=1) (l':=0) qy]
  have e1:=qg7 (l:=0) hp x
  have e2:=qg7 (l:=1) hq x
  rw [Int.add_zero,Int.zero_add]
  exact ⟨e1.2,e2.2⟩
open Classical in
theorem qp0 (f : Bool→Bool→Bool) (hf : f false false = false) (p2 : Bool→Bool→Option Bool) (hp2 : ∀ a b,p2 a b = some (f a b)) (p q : List qm)
    (hp : p.length≤500) (hq : q.length≤500) (vp : ∀ t∈p,vld t) (vq : ∀ t∈q,vld t) :
    ∃ out,q6j p q p2 = some out∧Can out∧∀ x,has out x↔f (decide (has p x)) (decide (has q x)) = true:=by
  obtain ⟨ys,e1,hperm,hs⟩:=qxt p q hp hq vp vq
  have hlen : ys.length≤2000:=by rw [hperm.length_eq,List.length_append,q7b,q7b];omega
  have hle : ∀ i j (hi : i < ys.length) (hj : j < ys.length),i≤j→ys[i].at_≤ys[j].at_:=by
    intro i j hi hj hij
    rcases Nat.lt_or_ge i j with h | h
    · exact List.pairwise_iff_getElem.1 hs i j hi hj h
    · obtain rfl : i = j:=by omega
      exact Int.le_refl _
  have hmem : ∀ e∈ys,(e.list_ = 0∨e.list_ = 1)∧(e.by_ = 1∨e.by_ = -1):=by
    intro e he
    rcases List.mem_append.1 (hperm.mem_iff.1 he) with h | h
    · obtain ⟨a,b,_⟩:=qan h;exact ⟨.inl a,b⟩
    · obtain ⟨a,b,_⟩:=qan h;exact ⟨.inr a,b⟩
  have:=J9 (f:=q3u ([p,q],ys) p2) (σ:=List Int × Int × Bool × List qm) (fun k c=>((k : Int),c)) ys.length (qln f p q ys) (fun out=>Can out∧∀ x,has out x↔f (decide (has p x)) (decide (has q x)) = true) ?_ ?_ (k0:=0) (c0:=([0,0],0,false,[])) q6 ?_
  · obtain ⟨out,h1,h2⟩:=this
    refine ⟨out,?_,h2⟩
    unfold q6j
    have h1 : loop (q3u ([p,q],ys) p2) (0,[0,0],0,false,[]) = some out:=h1
    rw [e1]
    simp only [Option.bind_some,h1]
    rfl
  · rintro k ⟨opn,last,inn,out⟩ hk ⟨s1,s2,s3,s4,s5,s6,s7,s8⟩
    simp only at s1 s2 s3 s4 s5 s6 s7 s8
    have hb1 : decide ((k : Int) < (ys.length : Int)) = true:=decide_eq_true q6
    have hcl:=qn5 ys[k].at_ last inn out q6
    have hm:=hmem ys[k] (List.getElem_mem hk)
    have htk : ys.take (k + 1) = ys.take k ++ [ys[k]]:=List.take_succ_eq_append_getElem hk
    have hby : ∀ e∈ys.take k,e.by_ = 1∨e.by_ = -1:=fun e he=>(hmem e (List.mem_of_mem_take he)).2
    have b0:=qcr (l:=0) (c:=fun _=>true) hby
    have b1:=qcr (l:=1) (c:=fun _=>true) hby
    have hlt : (ys.take k).length = k:=by rw [List.length_take];omega
    rw [hlt] at b0 b1
    have hopen : ∃ v,idxA 2 opn ys[k].list_ = some v∧opn.set ys[k].list_.toNat (w64 (v + ys[k].by_)) = [cnt 0 (fun _=>true) (ys.take (k + 1)),cnt 1 (fun _=>true) (ys.take (k + 1))]:=by
      subst s1
      rw [htk,q1b,q1b]
      rcases hm.1 with h | h
      · refine ⟨cnt 0 (fun _=>true) (ys.take k),by rw [h];rfl,?_⟩
        rw [h,Q6 q6]
        simp [cnt,h]
      · refine ⟨cnt 1 (fun _=>true) (ys.take k),by rw [h];rfl,?_⟩
        rw [h,Q6 q6]
        simp [cnt,h]
    obtain ⟨v,o1,o2⟩:=hopen
    refine .inl ⟨([cnt 0 (fun _=>true) (ys.take (k + 1)),cnt 1 (fun _=>true) (ys.take (k + 1))],ys[k].at_,f (decide (0 < cnt 0 (fun _=>true) (ys.take (k + 1)))) (decide (0 < cnt 1 (fun _=>true) (ys.take (k + 1)))),if inn = true∧last≠ys[k].at_ then addS out last ys[k].at_ else out),?_,?_⟩
    · have x0 : ∀ a b : Int,idxA 2 [a,b] 0 = some a:=fun a b=>rfl
      have x1 : ∀ a b : Int,idxA 2 [a,b] 1 = some b:=fun a b=>rfl
      simp only [q3u,hb1,cond_true,Qj hk,Option.bind_some,hcl,o1,o2,x0,x1,hp2,Bool.not_true,cond_false]
      rw [Q6 q6]
      rfl
    · have hall1 : ∀ x,(0 < k→last≤x)→∀ i (h : i < ys.length),i < k→ys[i].at_≤x:=by
        intro x hx i hi hik
        have:=s3 q6 q6
        have:=hle i (k - 1) hi q6 q6
        have:=hx q6
        omega
      have hall2 : ∀ x,x < ys[k].at_→∀ i (h : i < ys.length),k≤i→x < ys[i].at_:=by
        intro x hx i hi hik
        have:=hle k i hk hi hik
        omega
      have hF : ∀ x,(0 < k→last≤x)→x < ys[k].at_→f (decide (has p x)) (decide (has q x)) = inn:=by
        intro x hx hx2
        obtain ⟨c1,c2⟩:=qg5 vp vq hperm hs k x (hall1 x hx) (hall2 x hx2)
        rw [s2,decide_eq_decide.2 c1,decide_eq_decide.2 c2]
      have hlast : 0 < k→last≤ys[k].at_:=by
        intro h0
        rw [s3 q6 h0]
        exact hle (k - 1) k q6 hk q6
      have hin0 : k = 0→inn = false:=by
        intro h0
        subst h0
        rw [s2];exact hf
      by_cases hc : inn = true∧last≠ys[k].at_
      · have hk0 : 0 < k:=by
          rcases Nat.eq_zero_or_pos k with h | h
          · rw [hin0 h] at hc;cases hc.1
          · exact h
        have hl:=hlast hk0
        have hab : last < ys[k].at_:=by have:=hc.2;omega
        obtain ⟨d1,d2,d3,d4⟩:=qf8 s4 s5 hab
        constructor
        · rfl
        · rfl
        · intro h _;rfl
        · simp only [if_pos hc];exact d1
        · simp only [if_pos hc];exact d3
        · omega
        · intro x
          simp only [if_pos hc]
          rw [d2,s7]
          constructor
          · rintro (⟨h0,h1,h2⟩ | ⟨h1,h2⟩)
            · exact ⟨q6,q6,h2⟩
            · exact ⟨q6,h2,by rw [hF x (fun _=>h1) h2];exact hc.1⟩
          · rintro ⟨h0,h1,h2⟩
            by_cases hx : x < last
            · exact .inl ⟨hk0,hx,h2⟩
            · exact .inr ⟨q6,h1⟩
        · simp only [if_pos hc]
          have:=qlp out last ys[k].at_
          omega
      · constructor
        · rfl
        · rfl
        · intro h _;rfl
        · simp only [if_neg hc];exact s4
        · simp only [if_neg hc]
          intro t ht
          rcases Nat.eq_zero_or_pos k with h | h
          · rw [s6 h] at ht;cases ht
          · have:=s5 t ht;have:=hlast h;omega
        · omega
        · intro x
          simp only [if_neg hc]
          rw [s7]
          constructor
          · rintro ⟨h0,h1,h2⟩
            exact ⟨q6,by have:=hlast h0;omega,h2⟩
          · rintro ⟨h0,h1,h2⟩
            by_cases hx : 0 < k∧x < last
            · exact ⟨hx.1,hx.2,h2⟩
            · have hx' : 0 < k→last≤x:=fun h=>by
                refine Int.not_lt.1 fun h'=>hx ⟨h,h'⟩
              have:=hF x hx' h1
              rw [this] at h2
              refine absurd ⟨h2,?_⟩ hc
              intro e
              rcases Nat.eq_zero_or_pos k with h | h
              · rw [hin0 h] at h2;cases h2
              · have:=hx' h;omega
        · simp only [if_neg hc];omega
  · rintro ⟨opn,last,inn,out⟩ ⟨s1,s2,s3,s4,s5,s6,s7,s8⟩
    simp only at s1 s2 s3 s4 s5 s6 s7 s8
    have hb1 : decide ((ys.length : Int) < (ys.length : Int)) = false:=decide_eq_false q6
    refine ⟨out,by simp only [q3u,hb1,cond_false],s4,fun x=>?_⟩
    rw [s7]
    constructor
    · rintro ⟨_,_,h⟩;exact h
    · intro h
      by_cases hx : 0 < ys.length∧x < last
      · exact ⟨hx.1,hx.2,h⟩
      · obtain ⟨c1, c2⟩ := qg5 vp vq hperm hs ys.length x (fun i hi _ => by
            have:=s3 q6 q6
            have:=hle i (ys.length - 1) hi q6 q6
            have : last≤x:=Int.not_lt.1 fun h'=>hx ⟨q6,h'⟩
            omega) (fun i hi hi2=>q6)
        have tot : ∀ l,cnt l (fun _=>true) (ys.take ys.length) = 0:=by
          intro l
          rw [List.take_length,qg9 hperm,q1b]
          by_cases h0 : l = 0
          · subst h0;rw [qga,q70 qy];rfl
          · rw [q70 h0]
            by_cases h1 : l = 1
            · subst h1;rw [qga];rfl
            · rw [q70 h1];rfl
        rw [tot] at c1 c2
        have n1 : ¬ has p x:=fun h=>absurd (c1.2 h) qy
        have n2 : ¬ has q x:=fun h=>absurd (c2.2 h) qy
        rw [decide_eq_false n1,decide_eq_false n2,hf] at h
        cases h
  · constructor
    · simp [cnt]
    · simp [cnt,hf]
    · intro h h0;omega
    · exact ⟨fun t ht=>(by cases ht),.nil⟩
    · intro t ht;cases ht
    · intro _;rfl
    · intro x;simp [has]
    · simp
end Go.Sh
namespace Go.Sh
open Go Go.Am
theorem qn2 {s : List qm} (h : Jr s = 0) : s.length≤400∧Good s:=by
  unfold Jr at h
  split at h
  · cases h
  · split at h
    · rename_i h1 h2;exact ⟨q6,h2⟩
    · cases h
def dst (x : Int) (t : qm) : Int:=max (max (t.Lo - x) (x - t.Hi + 1)) 0
end Go.Sh
namespace Go.Sh
open Go Go.Am
noncomputable def q2q (kind : Int) (p q : List qm) : List qm:=(qax kind p q).getD []
theorem q7g (kind : Int) (p q : List qm) (hp : p.length≤100000) (hq : q.length≤100000) : qax kind p q = some (q2q kind p q)∧qc3 kind p q (q2q kind p q):=by
  obtain ⟨out,h1,h2⟩:=qp5 kind p q hp hq
  unfold q2q
  rw [h1];exact ⟨rfl,h2⟩
theorem qou (s : List qm) (p1 : qm→Option Bool) (c : qm→Bool) (h : ∀ t,p1 t = some (c t)) (hl : s.length≤1000000) :
    ∃ r,q8g s p1 = some r∧decide (r ≥ 0) = s.any c:=by
  have:=J9 (f:=q25 s p1) (σ:=Unit) (fun k _=>(k : Int)) s.length (fun k _=>∀ i (h : i < s.length),i < k→c s[i] = false)
    (fun m=>∃ r : Int,(match m with | .inl b22=>some (-1) | .inr x1=>some x1) = some r∧decide (r ≥ 0) = s.any c) ?_ ?_ (k0:=0) (c0:=()) q6 (fun i _ hi=>q6)
  · obtain ⟨m,h1,r,h2,h3⟩:=this
    have h1 : loop (q25 s p1) 0 = some m:=h1
    exact ⟨r,by unfold q8g;rw [h1];exact h2,h3⟩
  · rintro k _ hk hi
    have hb : decide ((k : Int) < (s.length : Int)) = true:=decide_eq_true q6
    cases hc : c s[k] with
    | true=>
      refine .inr ⟨.inr (k : Int),?_,(k : Int),rfl,?_⟩
      · simp only [q25,hb,cond_true,Qj hk,Option.bind_some,h,hc]
      · have : s.any c = true:=List.any_eq_true.2 ⟨s[k],List.getElem_mem hk,hc⟩
        rw [this];exact decide_eq_true q6
    | false=>
      refine .inl ⟨(),?_,?_⟩
      · simp only [q25,hb,cond_true,Qj hk,Option.bind_some,h,hc,cond_false]
        rw [Q6 q6];rfl
      · intro i hi1 hi2
        by_cases e : i = k
        · subst e;exact hc
        · exact hi i hi1 q6
  · rintro _ hi
    have hb : decide ((s.length : Int) < (s.length : Int)) = false:=decide_eq_false q6
    refine ⟨.inl (),by simp only [q25,hb,cond_false],-1,rfl,?_⟩
    have : s.any c = false:=by
      rw [List.any_eq_false]
      intro t ht
      obtain ⟨i,hi1,rfl⟩:=List.mem_iff_getElem.1 ht
      simp [hi i hi1 hi1]
    rw [this];rfl
theorem qnc (s : List qm) (p1 : qm→Option Bool) (c : qm→Bool) (h : ∀ t,p1 t = some (c t)) (hl : s.length≤1000000) : q8d s p1 = some (s.any c):=by
  obtain ⟨r,h1,h2⟩:=qou s p1 c h hl
  unfold q8d
  rw [h1,Option.bind_some,h2]
open Classical in
noncomputable def qdn (s : List qm) : List qm × Int:=if 400 < s.length then ([],4) else if ∀ t∈s,vld t then (q2q 2 s [],0) else ([],8)
theorem qpk (s : List qm) (hl : s.length≤400) (hv : ∀ t∈s,vld t) (p2 : Bool→Bool→Option Bool) (hp2 : ∀ a b,p2 a b = some a) : q6j s [] p2 = some (q2q 2 s []):=by
  classical
  obtain ⟨out,h1,h2,h3⟩:=qp0 (fun a _=>a) rfl p2 hp2 s [] q6 qd hv (fun t ht=>by cases ht)
  obtain ⟨_,j⟩:=q7g 2 s [] q6 qd
  rw [h1]
  congr 1
  refine q6y h2 j.can fun x=>?_
  rw [h3,j.pts]
  simp [Kv,Ut]
theorem qpj (s : List qm) : q6i s = some (qdn s):=by
  classical
  unfold q6i qdn
  by_cases hl : 400 < s.length
  · have e : decide ((s.length : Int) > 400) = true:=decide_eq_true q6
    rw [e,if_pos hl];rfl
  · have e : decide ((s.length : Int) > 400) = false:=decide_eq_false q6
    rw [e,if_neg hl,cond_false,qnc s _ (fun t=>!decide (vld t)) (fun t=>by show (q2a t).bind _ = _;rw [qle];rfl) q6,Option.bind_some]
    by_cases hv : ∀ t∈s,vld t
    · have : (s.any fun t=>!decide (vld t)) = false:=by
        rw [List.any_eq_false];intro t ht;simp [hv t ht]
      rw [this,cond_false,if_pos hv,qpk s q6 hv (fun x0 x1=>q9b x0 x1) (fun a b=>rfl)]
      rfl
    · have : (s.any fun t=>!decide (vld t)) = true:=by
        rw [List.any_eq_true]
        obtain ⟨t,hv⟩:=Classical.not_forall.1 hv
        obtain ⟨ht,h⟩:=Classical.not_imp.1 hv
        exact ⟨t,ht,by simp [h]⟩
      rw [this,cond_true,if_neg hv]
def lenL : List qm→Int
  | []=>0
  | t::s=>(t.Hi - t.Lo) + lenL s
theorem qi2 (a b : List qm) : lenL (a ++ b) = lenL a + lenL b:=by
  induction a with
  | nil=>simp [lenL]
  | cons t a ih=>simp only [List.cons_append,lenL,ih];omega
theorem qi3 : ∀ {s : List qm},(∀ t∈s,vld t)→0≤lenL s∧lenL s≤2000000 * (s.length : Int)
  | [],_=>by simp [lenL]
  | t::s,h=>by
    obtain ⟨h1,h2⟩:=qi3 (fun t ht=>h t (List.mem_cons_of_mem _ ht))
    obtain ⟨v1,v2,v3⟩:=h t qd
    simp only [lenL,List.length_cons]
    omega
noncomputable def qdi (s : List qm) : Int × Int:=if Jr s = 0 then (lenL s,0) else (0,Jr s)
theorem qp7 (s : List qm) (hl : s.length≤400) (hv : ∀ t∈s,vld t) : loop (q9a s) (0,0) = some (lenL s)∧loop (q7u s) (0,0) = some (lenL s):=by
  have hb0 : ∀ k,0≤lenL (s.take k)∧lenL (s.take k)≤800000000:=by
    intro k
    have:=qi3 (s:=s.take k) (fun t ht=>hv t (List.mem_of_mem_take ht))
    have : (s.take k).length≤400:=by rw [List.length_take];omega
    omega
  constructor
  · have:=J9 (f:=q9a s) (σ:=Int) (fun k c=>(c,(k : Int))) s.length (fun k c=>c = lenL (s.take k)) (fun r=>r = lenL s) ?_ ?_ (k0:=0) (c0:=0) q6 (by simp [lenL])
    · obtain ⟨b,h1,rfl⟩:=this;exact h1
    · rintro k c hk rfl
      have hb : decide ((k : Int) < (s.length : Int)) = true:=decide_eq_true q6
      obtain ⟨v1,v2,v3⟩:=hv _ (List.getElem_mem hk)
      have:=hb0 k
      refine .inl ⟨lenL (s.take (k + 1)),?_,rfl⟩
      simp only [q9a,hb,cond_true,Qj hk,Option.bind_some]
      rw [Q6 (x:=s[k].Hi - s[k].Lo) q6,Q6 (x:=lenL (s.take k) + _) q6,Q6 q6,List.take_succ_eq_append_getElem hk,qi2]
      simp only [lenL,Int.add_zero];rfl
    · rintro c rfl
      have hb : decide ((s.length : Int) < (s.length : Int)) = false:=decide_eq_false q6
      exact ⟨_,by simp only [q9a,hb,cond_false];rfl,by rw [List.take_length]⟩
  · have:=J9 (f:=q7u s) (σ:=Int) (fun k c=>(c,(k : Int))) s.length (fun k c=>c = lenL (s.take k)) (fun r=>r = lenL s) ?_ ?_ (k0:=0) (c0:=0) q6 (by simp [lenL])
    · obtain ⟨b,h1,rfl⟩:=this;exact h1
    · rintro k c hk rfl
      have hb : decide ((k : Int) < (s.length : Int)) = true:=decide_eq_true q6
      obtain ⟨v1,v2,v3⟩:=hv _ (List.getElem_mem hk)
      have:=hb0 k
      refine .inl ⟨lenL (s.take (k + 1)),?_,rfl⟩
      simp only [q7u,hb,cond_true,Qj hk,Option.bind_some]
      rw [Q6 (x:=lenL (s.take k) + s[k].Hi) q6,Q6 (x:=lenL (s.take k) + s[k].Hi - _) q6,Q6 q6,List.take_succ_eq_append_getElem hk,qi2]
      have : lenL (s.take k) + s[k].Hi - s[k].Lo = lenL (s.take k) + lenL [s[k]]:=by simp only [lenL];omega
      rw [this];rfl
    · rintro c rfl
      have hb : decide ((s.length : Int) < (s.length : Int)) = false:=decide_eq_false q6
      exact ⟨_,by simp only [q7u,hb,cond_false];rfl,by rw [List.take_length]⟩
theorem qzj (s : List qm) : qkw s = some (qdi s)∧qj8 s = some (qdi s):=by
  unfold qkw qj8 qdi
  simp only [qfy,qrs,Option.bind_some]
  by_cases h : Jr s = 0
  · obtain ⟨hl,hg⟩:=qn2 h
    obtain ⟨a,b⟩:=qp7 s hl hg.1
    have e : (Jr s != 0) = false:=by simpa using h
    simp only [e,cond_false,a,b,Option.bind_some]
    simp only [h,if_true]
    exact ⟨trivial,trivial⟩
  · have e : (Jr s != 0) = true:=by simpa using h
    simp only [e,cond_true,if_neg h]
    exact ⟨trivial,trivial⟩
end Go.Sh
set_option maxHeartbeats 4000000
namespace Go.Sh
open Go Go.Am
def sg (a b : Int) : Int:=if a < b then -1 else 0
theorem Zj {a b : Int} : decide (sg a b < 0) = decide (a < b):=by
  unfold sg;by_cases h : a < b <;> simp [h]
def qO (a b : Int) : Option Int:=some (sg a b)
theorem Zr (a b : Int) : qO a b = some (sg a b):=rfl
theorem Zp (a b : Int) : Yo a b = some (decide (a < b)):=by
  unfold Yo q6z
  have : (a != a) = false:=by simp
  simp []
theorem qxf : qbs = q4a:=rfl
theorem qvi : (fun p0=>q1r p0) = (fun p0=>q2n p0):=by
  funext p0
  simp only [q1r,q2n,qxf]
  all_goals exact Qr
theorem qvj  : ∀ p0,q1r p0 = q2n p0:=fun p0=>(congrFun qvi p0)
theorem qvh : (fun p0=>U5 p0) = (fun p0=>Ui p0):=by
  funext p0
  simp only [U5,Ui,qvj]
  all_goals exact Qr
theorem qkj  : ∀ p0,U5 p0 = Ui p0:=fun p0=>(congrFun qvh p0)
theorem qw2 : (fun p1=>q5p p1) = (fun p1=>Jh p1 qO):=by
  funext p1 a443
  simp only [q5p,Jh,Zp,Zr,Option.bind_some,Zj]
  all_goals exact Qr
theorem qw3  : ∀ p1,q5p p1 = Jh p1 qO:=fun p1=>(congrFun qw2 p1)
theorem qw0 : (fun p2 p1=>q5o p2 p1) = (fun p2 p1=>Um p2 p1 qO):=by
  funext p2 p1 a270
  simp only [q5o,Um,qw3]
  all_goals exact Qr
theorem qw1  : ∀ p2 p1,q5o p2 p1 = Um p2 p1 qO:=fun p2 p1=>(congrFun (congrFun qw0 p2) p1)
theorem qvy : (fun p0 p1 p2=>q5n p0 p1 p2) = (fun p0 p1 p2=>q1i qO p0 p1 p2):=by
  funext p0 p1 p2
  simp only [q5n,q1i,qw1]
  all_goals exact Qr
theorem qvz  : ∀ p0 p1 p2,q5n p0 p1 p2 = q1i qO p0 p1 p2:=fun p0 p1 p2=>(congrFun (congrFun (congrFun qvy p0) p1) p2)
theorem qxd : (fun p2 p3=>q6b p2 p3) = (fun p2 p3=>Jk p2 p3 qO):=by
  funext p2 p3 a193
  simp only [q6b,Jk,Zp,Zr,Option.bind_some,Zj]
  all_goals exact Qr
theorem qxe  : ∀ p2 p3,q6b p2 p3 = Jk p2 p3 qO:=fun p2 p3=>(congrFun (congrFun qxd p2) p3)
theorem qxc : (fun p0 p1 p2 p3=>q3o p0 p1 p2 p3) = (fun p0 p1 p2 p3=>U2 qO p0 p1 p2 p3):=by
  funext p0 p1 p2 p3
  simp only [q3o,U2,qxe]
  all_goals exact Qr
theorem qkl  : ∀ p0 p1 p2 p3,q3o p0 p1 p2 p3 = U2 qO p0 p1 p2 p3:=fun p0 p1 p2 p3=>(congrFun (congrFun (congrFun (congrFun qxc p0) p1) p2) p3)
theorem qvu : (fun p2 p1=>q5l p2 p1) = (fun p2 p1=>Uk qO p2 p1):=by
  funext p2 p1 a123
  simp only [q5l,Uk,qkl]
  all_goals exact Qr
theorem qvv  : ∀ p2 p1,q5l p2 p1 = Uk qO p2 p1:=fun p2 p1=>(congrFun (congrFun qvu p2) p1)
theorem qvw : (fun p1=>q5m p1) = (fun p1=>Ul p1 qO):=by
  funext p1 a191
  simp only [q5m,Ul,qkl]
  all_goals exact Qr
theorem qvx  : ∀ p1,q5m p1 = Ul p1 qO:=fun p1=>(congrFun qvw p1)
theorem qvs : (fun p0 p1 p2=>q5k p0 p1 p2) = (fun p0 p1 p2=>q1h qO p0 p1 p2):=by
  funext p0 p1 p2
  simp only [q5k,q1h,qvv,qvx]
  all_goals exact Qr
theorem qvt  : ∀ p0 p1 p2,q5k p0 p1 p2 = q1h qO p0 p1 p2:=fun p0 p1 p2=>(congrFun (congrFun (congrFun qvs p0) p1) p2)
theorem qw7 : (fun p0=>q13 p0) = (fun p0=>q1j p0):=by
  funext p0
  simp only [q13,q1j,qkj]
  all_goals exact Qr
theorem qw8  : ∀ p0,q13 p0 = q1j p0:=fun p0=>(congrFun qw7 p0)
theorem qxg : (fun p0=>q14 p0) = (fun p0=>q1n p0):=by
  funext p0
  simp only [q14,q1n]
  all_goals exact Qr
theorem qxh  : ∀ p0,q14 p0 = q1n p0:=fun p0=>(congrFun qxg p0)
theorem qvo : (fun p1 p2 r101=>q5i p1 p2 r101) = (fun p1 p2 r101=>Jt p1 p2 r101):=by
  funext p1 p2 r101 a153
  simp only [q5i,Jt,qxh]
  all_goals exact Qr
theorem qvp  : ∀ p1 p2 r101,q5i p1 p2 r101 = Jt p1 p2 r101:=fun p1 p2 r101=>(congrFun (congrFun (congrFun qvo p1) p2) r101)
theorem qvm : (fun p0 p1 p2=>q5h p0 p1 p2) = (fun p0 p1 p2=>Uj qO p0 p1 p2):=by
  funext p0 p1 p2
  simp only [q5h,Uj,qw8,qvp]
  all_goals exact Qr
theorem qvn  : ∀ p0 p1 p2,q5h p0 p1 p2 = Uj qO p0 p1 p2:=fun p0 p1 p2=>(congrFun (congrFun (congrFun qvm p0) p1) p2)
theorem qw9 : (fun p0 p1 p2 p3=>q27 p0 p1 p2 p3) = (fun p0 p1 p2 p3=>Jv qO p0 p1 p2 p3):=by
  funext p0 p1 p2 p3
  simp only [q27,Jv,Zp,Zr,Option.bind_some,Zj]
  all_goals exact Qr
theorem qwa  : ∀ p0 p1 p2 p3,q27 p0 p1 p2 p3 = Jv qO p0 p1 p2 p3:=fun p0 p1 p2 p3=>(congrFun (congrFun (congrFun (congrFun qw9 p0) p1) p2) p3)
theorem qw4 : (fun p0 p1 p2 p3 p4=>q3i p0 p1 p2 p3 p4) = (fun p0 p1 p2 p3 p4=>Ju qO p0 p1 p2 p3 p4):=by
  funext p0 p1 p2 p3 p4
  simp only [q3i,Ju,qwa]
  all_goals exact Qr
theorem qkk  : ∀ p0 p1 p2 p3 p4,q3i p0 p1 p2 p3 p4 = Ju qO p0 p1 p2 p3 p4:=fun p0 p1 p2 p3 p4=>(congrFun (congrFun (congrFun (congrFun (congrFun qw4 p0) p1) p2) p3) p4)
theorem qw5 : (fun p0 p1 p2=>q26 p0 p1 p2) = (fun p0 p1 p2=>Ji qO p0 p1 p2):=by
  funext p0 p1 p2
  simp only [q26,Ji,qkk]
  all_goals exact Qr
theorem qw6  : ∀ p0 p1 p2,q26 p0 p1 p2 = Ji qO p0 p1 p2:=fun p0 p1 p2=>(congrFun (congrFun (congrFun qw5 p0) p1) p2)
theorem qvq : (fun p0 p1 p2=>q5j p0 p1 p2) = (fun p0 p1 p2=>q1g p0 p1 p2 qO):=by
  funext p0 p1 p2
  simp only [q5j,q1g,qkk,qw6]
  all_goals exact Qr
theorem qvr  : ∀ p0 p1 p2,q5j p0 p1 p2 = q1g p0 p1 p2 qO:=fun p0 p1 p2=>(congrFun (congrFun (congrFun qvq p0) p1) p2)
theorem qxb : q96 = q1m:=by
  funext a119
  simp only [q96,q1m]
  all_goals exact Qr
theorem qx9 : (fun p0 p1 p2=>q69 p0 p1 p2) = (fun p0 p1 p2=>Ur qO p0 p1 p2):=by
  funext p0 p1 p2
  simp only [q69,Ur,qxb]
  all_goals exact Qr
theorem qxa  : ∀ p0 p1 p2,q69 p0 p1 p2 = Ur qO p0 p1 p2:=fun p0 p1 p2=>(congrFun (congrFun (congrFun qx9 p0) p1) p2)
theorem qwf : (fun p2 a432=>q5t p2 a432) = (fun p2 a432=>Jw p2 a432 qO):=by
  funext p2 a432 a667
  simp only [q5t,Jw,Zp,Zr,Option.bind_some,Zj]
  all_goals exact Qr
theorem qwg  : ∀ p2 a432,q5t p2 a432 = Jw p2 a432 qO:=fun p2 a432=>(congrFun (congrFun qwf p2) a432)
theorem qwh : q8t = Jx qO:=by
  funext a822
  simp only [q8t,Jx,Zp,Zr,Option.bind_some,Zj]
  all_goals exact Qr
theorem qwi : (fun p2 b670=>q5u p2 b670) = (fun p2 b670=>Jy p2 qO b670):=by
  funext p2 b670 a912
  simp only [q5u,Jy,Zp,Zr,Option.bind_some,Zj]
  all_goals exact Qr
theorem qwj  : ∀ p2 b670,q5u p2 b670 = Jy p2 qO b670:=fun p2 b670=>(congrFun (congrFun qwi p2) b670)
theorem qwd : (fun p2 p1=>q3l p2 p1) = (fun p2 p1=>Zi p2 qO p1):=by
  funext p2 p1 a432
  have mm : @q3l.match_1.{1} = @Zi.match_1.{1} Int:=by funext motive m f g;cases m <;> rfl
  unfold q3l Zi;rw [mm]
  simp only [qwg,qwh,qwj]
  all_goals repeat' first | with_reducible rfl | (congr 1) | funext _
  done
theorem qwe  : ∀ p2 p1,q3l p2 p1 = Zi p2 qO p1:=fun p2 p1=>(congrFun (congrFun qwd p2) p1)
theorem qwb : (fun p0 p1 p2=>q3k p0 p1 p2) = (fun p0 p1 p2=>Jj qO p0 p1 p2):=by
  funext p0 p1 p2
  have mm : @q3k.match_1.{1} = @Jj.match_1.{1} Int:=by funext motive m f g;cases m <;> rfl
  unfold q3k Jj;rw [mm]
  simp only [qwe]
  all_goals repeat' first | with_reducible rfl | (congr 1) | funext _
  done
theorem qwc  : ∀ p0 p1 p2,q3k p0 p1 p2 = Jj qO p0 p1 p2:=fun p0 p1 p2=>(congrFun (congrFun (congrFun qwb p0) p1) p2)
theorem qwp : (fun a304 p1=>q5x a304 p1) = (fun a304 p1=>Jz a304 p1 qO):=by
  funext a304 p1 a360
  simp only [q5x,Jz,Zp,Zr,Option.bind_some,Zj]
  all_goals exact Qr
theorem qwq  : ∀ a304 p1,q5x a304 p1 = Jz a304 p1 qO:=fun a304 p1=>(congrFun (congrFun qwp a304) p1)
theorem qwr : (fun b363 a304 p1=>q5y b363 a304 p1) = (fun b363 a304 p1=>U0 b363 a304 p1 qO):=by
  funext b363 a304 p1 a439
  simp only [q5y,U0,Zp,Zr,Option.bind_some,Zj]
  all_goals exact Qr
theorem qws  : ∀ b363 a304 p1,q5y b363 a304 p1 = U0 b363 a304 p1 qO:=fun b363 a304 p1=>(congrFun (congrFun (congrFun qwr b363) a304) p1)
theorem qwn : (fun p1=>q5w p1) = (fun p1=>Up p1 qO):=by
  funext p1 a304
  simp only [q5w,Up,qwq,qws]
  all_goals exact Qr
theorem qwo  : ∀ p1,q5w p1 = Up p1 qO:=fun p1=>(congrFun qwn p1)
theorem qwl : (fun p0 p1 p2 p3=>q5v p0 p1 p2 p3) = (fun p0 p1 p2 p3=>Uo qO p0 p1 p2 p3):=by
  funext p0 p1 p2 p3
  simp only [q5v,Uo,qwo]
  all_goals exact Qr
theorem qwm  : ∀ p0 p1 p2 p3,q5v p0 p1 p2 p3 = Uo qO p0 p1 p2 p3:=fun p0 p1 p2 p3=>(congrFun (congrFun (congrFun (congrFun qwl p0) p1) p2) p3)
theorem qwu : (fun p2 p0 p1 v101 p3 v103=>q60 p2 p0 p1 v101 p3 v103) = (fun p2 p0 p1 v101 p3 v103=>q1k p2 p0 p1 v101 p3 v103 qO):=by
  funext p2 p0 p1 v101 p3 v103 a159
  simp only [q60,q1k,Zp,Zr,Option.bind_some,Zj]
  all_goals exact Qr
theorem qwv  : ∀ p2 p0 p1 v101 p3 v103,q60 p2 p0 p1 v101 p3 v103 = q1k p2 p0 p1 v101 p3 v103 qO:=fun p2 p0 p1 v101 p3 v103=>(congrFun (congrFun (congrFun (congrFun (congrFun (congrFun qwu p2) p0) p1) v101) p3) v103)
theorem qww : (fun b162 p0 p1 v101 p3 v103=>q61 b162 p0 p1 v101 p3 v103) = (fun b162 p0 p1 v101 p3 v103=>q1l b162 p0 p1 v101 p3 v103 qO):=by
  funext b162 p0 p1 v101 p3 v103 a239
  simp only [q61,q1l,Zp,Zr,Option.bind_some,Zj]
  all_goals exact Qr
theorem qwx  : ∀ b162 p0 p1 v101 p3 v103,q61 b162 p0 p1 v101 p3 v103 = q1l b162 p0 p1 v101 p3 v103 qO:=fun b162 p0 p1 v101 p3 v103=>(congrFun (congrFun (congrFun (congrFun (congrFun (congrFun qww b162) p0) p1) v101) p3) v103)
theorem qx0 : (fun a488 p1=>q63 a488 p1) = (fun a488 p1=>Zn a488 p1 qO):=by
  funext a488 p1 a542
  simp only [q63,Zn,Zp,Zr,Option.bind_some,Zj]
  all_goals exact Qr
theorem qx1  : ∀ a488 p1,q63 a488 p1 = Zn a488 p1 qO:=fun a488 p1=>(congrFun (congrFun qx0 a488) p1)
theorem qx2 : (fun b545 a488 p1=>q64 b545 a488 p1) = (fun b545 a488 p1=>Zo b545 a488 p1 qO):=by
  funext b545 a488 p1 a622
  simp only [q64,Zo,Zp,Zr,Option.bind_some,Zj]
  all_goals exact Qr
theorem qx3  : ∀ b545 a488 p1,q64 b545 a488 p1 = Zo b545 a488 p1 qO:=fun b545 a488 p1=>(congrFun (congrFun (congrFun qx2 b545) a488) p1)
theorem qwy : (fun p1=>q62 p1) = (fun p1=>Uq p1 qO):=by
  funext p1 a488
  simp only [q62,Uq,qx1,qx3]
  all_goals exact Qr
theorem qwz  : ∀ p1,q62 p1 = Uq p1 qO:=fun p1=>(congrFun qwy p1)
theorem qwk : (fun p0 p1 p2 p3=>q5z p0 p1 p2 p3) = (fun p0 p1 p2 p3=>Un qO p0 p1 p2 p3):=by
  funext p0 p1 p2 p3
  simp only [q5z,Un,qwv,qwx,qwz]
  all_goals exact Qr
theorem qwt  : ∀ p0 p1 p2 p3,q5z p0 p1 p2 p3 = Un qO p0 p1 p2 p3:=fun p0 p1 p2 p3=>(congrFun (congrFun (congrFun (congrFun qwk p0) p1) p2) p3)
theorem qx5 : (fun rec=>q3m rec) = (fun rec=>Yz qO rec):=by
  funext rec a305
  have mm : @q3m.match_1.{1} = @Yz.match_1.{1} Int:=by funext motive m f g;cases m <;> rfl
  unfold q3m Yz;rw [mm]
  simp only [qvz,qvt,qvn,qvr,qxa,qwc,qwm,qwt,Zp,Zr,Option.bind_some,Zj]
  all_goals repeat' first | with_reducible rfl | (congr 1) | funext _
  done
theorem qx6  : ∀ rec,q3m rec = Yz qO rec:=fun rec=>(congrFun qx5 rec)
theorem qx7 : (fun rec p0 p1 p2 p3=>q3n rec p0 p1 p2 p3) = (fun rec p0 p1 p2 p3=>U1 rec qO p0 p1 p2 p3):=by
  funext rec p0 p1 p2 p3
  simp only [q3n,U1,qx6]
  all_goals exact Qr
theorem qx8  : ∀ rec p0 p1 p2 p3,q3n rec p0 p1 p2 p3 = U1 rec qO p0 p1 p2 p3:=fun rec p0 p1 p2 p3=>(congrFun (congrFun (congrFun (congrFun (congrFun qx7 rec) p0) p1) p2) p3)
theorem qx4 : ∀ N,q68 N = Yu N qO:=by
  intro N
  induction N with
  | zero=>rfl
  | succ N ih=>
    funext a b c d
    show q3n (q68 N) a b c d = U1 (Yu N qO) qO a b c d
    rw [ih,qx8]
theorem qvk : (fun p0=>U9 p0) = (fun p0=>q1f qO p0):=by
  funext p0
  simp only [U9,q1f,qkj,qx4]
  all_goals exact Qr
theorem qvl  : ∀ p0,U9 p0 = q1f qO p0:=fun p0=>(congrFun qvk p0)
end Go.Sh
