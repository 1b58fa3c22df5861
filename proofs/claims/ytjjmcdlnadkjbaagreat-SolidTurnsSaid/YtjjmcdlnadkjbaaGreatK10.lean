/- Pg4 Pg5 Pg6 Pj1 Pj2 Pl4 Pj3 -/
import Derived.Test.YtjjmcdlnadkjbaaGreatK9
namespace Go.Sh
open Go Go.Am
section
variable {T : Type} [Inhabited T] {P : T→Prop} {lt : T→T→Bool} {q : T→T→Option Int}
theorem qe4 {f : Int→Option (Int ⊕ Int)} (p : T→Bool) (d : Array T) (j : Nat)
    (hf : ∀ k : Nat,k≤1000002→f (k : Int) = if (decide (k≤j) && p d[k]!) = true then some (.inl ((k + 1 : Nat) : Int)) else some (.inr (k : Int))) (hj : j≤1000000) :
    ∀ (m i : Nat),j + 1 - i = m→i≤1000002→loop f (i : Int) = some ((Sort.scanUp p d j i : Nat) : Int):=by
  intro m
  induction m with
  | zero=>
    intro i hm hi
    unfold Sort.scanUp
    have hc : ¬ (decide (i≤j) && p d[i]!) = true:=by simp;omega
    rw [if_neg hc]
    exact K1 (by rw [hf i hi,if_neg hc])
  | succ m ih=>
    intro i hm hi
    unfold Sort.scanUp
    by_cases hc : (decide (i≤j) && p d[i]!) = true
    · rw [if_pos hc,Kf (by rw [hf i hi,if_pos hc])]
      exact ih (i + 1) (by omega) (by omega)
    · rw [if_neg hc]
      exact K1 (by rw [hf i hi,if_neg hc])
theorem qaz {f : Int→Option (Int ⊕ Int)} (p : T→Bool) (d : Array T) (i n : Nat) (hi : 1≤i)
    (hf : ∀ k : Nat,k < n→f (k : Int) = if (decide (i≤k) && p d[k]!) = true then some (.inl ((k - 1 : Nat) : Int)) else some (.inr (k : Int))) :
    ∀ (j : Nat),j < n→loop f (j : Int) = some ((Sort.scanDown p d i j : Nat) : Int)
  | 0,hj=>by
    have hc : ¬ (decide (i≤0) && p d[0]!) = true:=by simp;omega
    exact K1 (by rw [hf 0 hj,if_neg hc];rfl)
  | j + 1,hj=>by
    unfold Sort.scanDown
    by_cases hc : (decide (i≤j + 1) && p d[j + 1]!) = true
    · rw [if_pos hc,Kf (by rw [hf (j + 1) hj,if_pos hc])]
      exact qaz p d i n hi hf j (by omega)
    · rw [if_neg hc]
      exact K1 (by rw [hf (j + 1) hj,if_neg hc])
theorem qix (hq : K8 q lt P) {n : Nat} {d : Array T} (hd : AllP n P d) {a j : Nat} (ha : a < n) (hj : j < n) (x : Int) (k : Nat) (hk : k≤1000002) :
    Za (x,(j : Int),d.toList) (a : Int) q (k : Int) = if (decide (k≤j) && (fun x=>lt x d[a]!) d[k]!) = true then some (.inl ((k + 1 : Nat) : Int)) else some (.inr (k : Int)):=by
  have hsz:=hd.1
  by_cases h : k≤j
  · obtain ⟨r,h1,h2⟩:=hq d[k]! d[a]! (hd.2.2 _ (by omega)) (hd.2.2 _ ha)
    have t : decide ((k : Int)≤(j : Int)) = true:=decide_eq_true (by omega)
    simp only [Za,t,cond_true,gx (d:=d) (k:=k) (by omega),gx (d:=d) (k:=a) (by omega),Option.bind_some,h1,h2,w1p k (by omega)]
    simp only [decide_eq_true h,Bool.true_and,Bool.cond_eq_ite]
  · have t : decide ((k : Int)≤(j : Int)) = false:=decide_eq_false (by omega)
    simp only [Za,t,cond_false,Option.bind_some]
    simp [h]
theorem qiy (hq : K8 q lt P) {n : Nat} {d : Array T} (hd : AllP n P d) {a i : Nat} (ha : a < n) (hi : 1≤i) (x y : Int) (k : Nat) (hk : k < n) :
    Zb (i : Int) (x,y,d.toList) (a : Int) q (k : Int) = if (decide (i≤k) && (fun x=>!lt x d[a]!) d[k]!) = true then some (.inl ((k - 1 : Nat) : Int)) else some (.inr (k : Int)):=by
  have hsz:=hd.1
  have hn:=hd.2.1
  by_cases h : i≤k
  · obtain ⟨r,h1,h2⟩:=hq d[k]! d[a]! (hd.2.2 _ (by omega)) (hd.2.2 _ ha)
    have t : decide ((i : Int)≤(k : Int)) = true:=decide_eq_true (by omega)
    have w : w64 ((k : Int) - 1) = ((k - 1 : Nat) : Int):=by rw [qu (by omega)];omega
    simp only [Zb,t,cond_true,gx (d:=d) (k:=k) (by omega),gx (d:=d) (k:=a) (by omega),Option.bind_some,h1,h2,w]
    simp only [decide_eq_true h,Bool.true_and,Bool.cond_eq_ite]
  · have t : decide ((i : Int)≤(k : Int)) = false:=decide_eq_false (by omega)
    simp only [Zb,t,cond_false,Option.bind_some]
    simp [h]
theorem qro (hq : K8 q lt P) {n : Nat} {d : Array T} (hd : AllP n P d) {a j : Nat} (ha : a < n) (hj : j < n) (x : Int) (k : Nat) (hk : k≤1000002) :
    Jw (x,(j : Int),d.toList) (a : Int) q (k : Int) = if (decide (k≤j) && (fun x=>!lt d[a]! x) d[k]!) = true then some (.inl ((k + 1 : Nat) : Int)) else some (.inr (k : Int)):=by
  have hsz:=hd.1
  by_cases h : k≤j
  · obtain ⟨r,h1,h2⟩:=hq d[a]! d[k]! (hd.2.2 _ ha) (hd.2.2 _ (by omega))
    have t : decide ((k : Int)≤(j : Int)) = true:=decide_eq_true (by omega)
    simp only [Jw,t,cond_true,gx (d:=d) (k:=k) (by omega),gx (d:=d) (k:=a) (by omega),Option.bind_some,h1,h2,w1p k (by omega)]
    simp only [decide_eq_true h,Bool.true_and,Bool.cond_eq_ite]
  · have t : decide ((k : Int)≤(j : Int)) = false:=decide_eq_false (by omega)
    simp only [Jw,t,cond_false,Option.bind_some]
    simp [h]
theorem qrp (hq : K8 q lt P) {n : Nat} {d : Array T} (hd : AllP n P d) {a i : Nat} (ha : a < n) (hi : 1≤i) (x y : Int) (k : Nat) (hk : k < n) :
    Jx (i : Int) (x,y,d.toList) (a : Int) q (k : Int) = if (decide (i≤k) && (fun x=>lt d[a]! x) d[k]!) = true then some (.inl ((k - 1 : Nat) : Int)) else some (.inr (k : Int)):=by
  have hsz:=hd.1
  have hn:=hd.2.1
  by_cases h : i≤k
  · obtain ⟨r,h1,h2⟩:=hq d[a]! d[k]! (hd.2.2 _ ha) (hd.2.2 _ (by omega))
    have t : decide ((i : Int)≤(k : Int)) = true:=decide_eq_true (by omega)
    have w : w64 ((k : Int) - 1) = ((k - 1 : Nat) : Int):=by rw [qu (by omega)];omega
    simp only [Jx,t,cond_true,gx (d:=d) (k:=k) (by omega),gx (d:=d) (k:=a) (by omega),Option.bind_some,h1,h2,w]
    simp only [decide_eq_true h,Bool.true_and,Bool.cond_eq_ite]
  · have t : decide ((i : Int)≤(k : Int)) = false:=decide_eq_false (by omega)
    simp only [Jx,t,cond_false,Option.bind_some]
    simp [h]
theorem qrj (hq : K8 q lt P) (a n : Nat) (ha : a < n) : ∀ (m i j : Nat) (d : Array T),j + 1 - i = m→AllP n P d→1≤i→i≤n + 1→j < n→
    loop (Uq (a : Int) q) ((i : Int),(j : Int),d.toList) = some (((Sort.partLoop lt a i j d).1 : Int),(Sort.partLoop lt a i j d).2.toList)∧AllP n P (Sort.partLoop lt a i j d).2∧(Sort.partLoop lt a i j d).1 < n:=by
  intro m
  induction m using Nat.strongRecOn with
  | _ m ih=>
    intro i j d hm hd hi hi2 hj
    have hsz:=hd.1
    have hn:=hd.2.1
    rw [Sort.partLoop_eq]
    have s1:=qe4 (f:=Za ((i : Int),(j : Int),d.toList) (a : Int) q) (fun x=>lt x d[a]!) d j (fun k hk=>qix hq hd ha hj _ k hk) (by omega) _ i rfl (by omega)
    have g1:=Sort.scanUp_ge (fun x=>lt x d[a]!) d j i
    have u1:=(Sort.scanUp_spec (fun x=>lt x d[a]!) d j _ i rfl).2.1
    generalize Sort.scanUp (fun x=>lt x d[a]!) d j i = i2 at s1 g1 u1 ⊢
    have s2:=qaz (f:=Zb (i2 : Int) ((i : Int),(j : Int),d.toList) (a : Int) q) (fun x=>!lt x d[a]!) d i2 n (by omega) (fun k hk=>qiy hq hd ha (by omega) _ _ k hk) j hj
    have g2:=Sort.scanDown_le (fun x=>!lt x d[a]!) d i2 j
    generalize Sort.scanDown (fun x=>!lt x d[a]!) d i2 j = j2 at s2 g2 ⊢
    by_cases hc : i2 > j2
    · rw [if_pos hc]
      have t : decide ((i2 : Int) > (j2 : Int)) = true:=decide_eq_true (by omega)
      refine ⟨K1 ?_,hd,by show j2 < n;omega⟩
      simp only [Uq,s1,s2,Option.bind_some,t,cond_true]
    · rw [if_neg hc]
      have t : decide ((i2 : Int) > (j2 : Int)) = false:=decide_eq_false (by omega)
      have ihc:=ih ((j2 - 1) + 1 - (i2 + 1)) (by omega) (i2 + 1) (j2 - 1) _ rfl (hd.swp (a:=i2) (b:=j2) (by omega) (by omega)) (by omega) (by omega) (by omega)
      refine ⟨?_,ihc.2⟩
      rw [Kf (a':=(((i2 + 1 : Nat) : Int),((j2 - 1 : Nat) : Int),(Sort.swp d i2 j2).toList)) ?_]
      · exact ihc.1
      · have w : w64 ((j2 : Int) - 1) = ((j2 - 1 : Nat) : Int):=by rw [qu (by omega)];omega
        simp only [Uq,s1,s2,Option.bind_some,t,cond_false,gx (d:=d) (k:=i2) (by omega),gx (d:=d) (k:=j2) (by omega),gxs (d:=d) (k:=j2) (by omega),Int.toNat_natCast,gswp,w,w1p i2 (by omega)]
theorem qri (hq : K8 q lt P) (a n : Nat) (ha : a < n) : ∀ (m i j : Nat) (d : Array T),j + 1 - i = m→AllP n P d→1≤i→i≤n + 1→j < n→
    loop (Up (a : Int) q) ((i : Int),(j : Int),d.toList) = some (((Sort.partEqLoop lt a i j d).1 : Int),(Sort.partEqLoop lt a i j d).2.toList):=by
  intro m
  induction m using Nat.strongRecOn with
  | _ m ih=>
    intro i j d hm hd hi hi2 hj
    have hsz:=hd.1
    have hn:=hd.2.1
    rw [Sort.partEqLoop_eq]
    have s1:=qe4 (f:=Jw ((i : Int),(j : Int),d.toList) (a : Int) q) (fun x=>!lt d[a]! x) d j (fun k hk=>qro hq hd ha hj _ k hk) (by omega) _ i rfl (by omega)
    have g1:=Sort.scanUp_ge (fun x=>!lt d[a]! x) d j i
    have u1:=(Sort.scanUp_spec (fun x=>!lt d[a]! x) d j _ i rfl).2.1
    generalize Sort.scanUp (fun x=>!lt d[a]! x) d j i = i2 at s1 g1 u1 ⊢
    have s2:=qaz (f:=Jx (i2 : Int) ((i : Int),(j : Int),d.toList) (a : Int) q) (fun x=>lt d[a]! x) d i2 n (by omega) (fun k hk=>qrp hq hd ha (by omega) _ _ k hk) j hj
    have g2:=Sort.scanDown_le (fun x=>lt d[a]! x) d i2 j
    generalize Sort.scanDown (fun x=>lt d[a]! x) d i2 j = j2 at s2 g2 ⊢
    by_cases hc : i2 > j2
    · rw [if_pos hc]
      have t : decide ((i2 : Int) > (j2 : Int)) = true:=decide_eq_true (by omega)
      refine K1 ?_
      simp only [Up,s1,s2,Option.bind_some,t,cond_true]
    · rw [if_neg hc]
      have t : decide ((i2 : Int) > (j2 : Int)) = false:=decide_eq_false (by omega)
      rw [Kf (a':=(((i2 + 1 : Nat) : Int),((j2 - 1 : Nat) : Int),(Sort.swp d i2 j2).toList)) ?_]
      · exact ih ((j2 - 1) + 1 - (i2 + 1)) (by omega) (i2 + 1) (j2 - 1) _ rfl (hd.swp (a:=i2) (b:=j2) (by omega) (by omega)) (by omega) (by omega) (by omega)
      · have w : w64 ((j2 : Int) - 1) = ((j2 - 1 : Nat) : Int):=by rw [qu (by omega)];omega
        simp only [Up,s1,s2,Option.bind_some,t,cond_false,gx (d:=d) (k:=i2) (by omega),gx (d:=d) (k:=j2) (by omega),gxs (d:=d) (k:=j2) (by omega),Int.toNat_natCast,gswp,w,w1p i2 (by omega)]
theorem qrl (hq : K8 q lt P) {a b n p : Nat} (hb : b≤n) (hab : a < b) (hp : p < n) {d : Array T} (hd : AllP n P d) :
    Uo q d.toList (a : Int) (b : Int) (p : Int) = some (((Sort.partitionEqual lt d a b p).1 : Int),(Sort.partitionEqual lt d a b p).2.toList):=by
  have hsz:=hd.1
  have hn:=hd.2.1
  have w : w64 ((b : Int) - 1) = ((b - 1 : Nat) : Int):=by rw [qu (by omega)];omega
  have s:=qri hq a n (by omega) _ (a + 1) (b - 1) _ rfl (hd.swp (a:=a) (b:=p) (by omega) hp) (by omega) (by omega) (by omega)
  unfold Uo Sort.partitionEqual
  simp only [gx (d:=d) (k:=p) (by omega),gx (d:=d) (k:=a) (by omega),gxs (d:=d) (k:=p) (by omega),Option.bind_some,Int.toNat_natCast,gswp,w,w1p a (by omega),s]
theorem qrm (hq : K8 q lt P) {a b n p : Nat} (hb : b≤n) (hab : a < b) (hp : p < n) {d : Array T} (hd : AllP n P d) :
    Un q d.toList (a : Int) (b : Int) (p : Int) = some (((Sort.partition lt d a b p).1 : Int),(Sort.partition lt d a b p).2.1,(Sort.partition lt d a b p).2.2.toList):=by
  have hsz:=hd.1
  have hn:=hd.2.1
  have w : w64 ((b : Int) - 1) = ((b - 1 : Nat) : Int):=by rw [qu (by omega)];omega
  have hD:=hd.swp (a:=a) (b:=p) (by omega) hp
  have e1 : q1h (b : Int) d.toList (a : Int) d[p]! (p : Int) d[a]! q = Za ((0 : Int),((b - 1 : Nat) : Int),(Sort.swp d a p).toList) (a : Int) q:=by
    funext k
    simp only [q1h,Za,w,Int.toNat_natCast,gswp]
  have e2 : ∀ i2 : Int,q1i i2 d.toList (a : Int) d[p]! (p : Int) d[a]! q = Zb i2 ((0 : Int),(0 : Int),(Sort.swp d a p).toList) (a : Int) q:=by
    intro i2;funext k
    simp only [q1i,Zb,Int.toNat_natCast,gswp]
  unfold Un Sort.partition
  simp only [gx (d:=d) (k:=p) (by omega),gx (d:=d) (k:=a) (by omega),gxs (d:=d) (k:=p) (by omega),Option.bind_some,e1,e2,Int.toNat_natCast,gswp,w,w1p a (by omega)]
  generalize Sort.swp d a p = D at hD ⊢
  have hsD:=hD.1
  have s1:=qe4 (f:=Za ((0 : Int),((b - 1 : Nat) : Int),D.toList) (a : Int) q) (fun x=>lt x D[a]!) D (b - 1) (fun k hk=>qix hq hD (by omega) (by omega) _ k hk) (by omega) _ (a + 1) rfl (by omega)
  have g1:=Sort.scanUp_ge (fun x=>lt x D[a]!) D (b - 1) (a + 1)
  generalize Sort.scanUp (fun x=>lt x D[a]!) D (b - 1) (a + 1) = i2 at s1 g1 ⊢
  have s2:=qaz (f:=Zb (i2 : Int) ((0 : Int),(0 : Int),D.toList) (a : Int) q) (fun x=>!lt x D[a]!) D i2 n (by omega) (fun k hk=>qiy hq hD (by omega) (by omega) _ _ k hk) (b - 1) (by omega)
  have g2:=Sort.scanDown_le (fun x=>!lt x D[a]!) D i2 (b - 1)
  generalize Sort.scanDown (fun x=>!lt x D[a]!) D i2 (b - 1) = j2 at s2 g2 ⊢
  simp only [s1,s2,Option.bind_some]
  by_cases hc : i2 > j2
  · have t : decide ((i2 : Int) > (j2 : Int)) = true:=decide_eq_true (by omega)
    simp only [if_pos hc,t,cond_true,gx (d:=D) (k:=a) (by omega),gx (d:=D) (k:=j2) (by omega),gxs (d:=D) (k:=a) (by omega),Option.bind_some,Int.toNat_natCast,gswp]
  · have t : decide ((i2 : Int) > (j2 : Int)) = false:=decide_eq_false (by omega)
    have w2 : w64 ((j2 : Int) - 1) = ((j2 - 1 : Nat) : Int):=by rw [qu (by omega)];omega
    obtain ⟨s3,a3,b3⟩:=qrj hq a n (by omega) _ (i2 + 1) (j2 - 1) _ rfl (hD.swp (a:=i2) (b:=j2) (by omega) (by omega)) (by omega) (by omega) (by omega)
    simp only [if_neg hc,t,cond_false,gx (d:=D) (k:=i2) (by omega),gx (d:=D) (k:=j2) (by omega),gxs (d:=D) (k:=j2) (by omega),Option.bind_some,Int.toNat_natCast,gswp,w2,w1p i2 (by omega),s3]
    generalize Sort.partLoop lt a (i2 + 1) (j2 - 1) (Sort.swp D i2 j2) = R at a3 b3 ⊢
    have hsR:=a3.1
    simp only [gx (d:=R.2) (k:=a) (by omega),gx (d:=R.2) (k:=R.1) (by omega),gxs (d:=R.2) (k:=a) (by omega),Option.bind_some,Int.toNat_natCast,gswp]
theorem qtd (hq : K8 q lt P) {b n : Nat} (hb : b≤n) {d : Array T} (hd : AllP n P d) (x y : Int) : ∀ (m i : Nat),b - i = m→1≤i→i≤b→
    loop (Jt (b : Int) (x,y,d.toList) q) (i : Int) = some ((Sort.scanSorted lt d b i : Nat) : Int)∧i≤Sort.scanSorted lt d b i∧Sort.scanSorted lt d b i≤b:=by
  have hsz:=hd.1
  have hn:=hd.2.1
  intro m
  induction m with
  | zero=>
    intro i hm hi hib
    unfold Sort.scanSorted
    rw [if_neg (by simp;omega)]
    have t : decide ((i : Int) < (b : Int)) = false:=decide_eq_false (by omega)
    exact ⟨K1 (by simp only [Jt,t,cond_false,Option.bind_some]),Nat.le_refl _,hib⟩
  | succ m ih=>
    intro i hm hi hib
    unfold Sort.scanSorted
    have t : decide ((i : Int) < (b : Int)) = true:=decide_eq_true (by omega)
    have w : w64 ((i : Int) - 1) = ((i - 1 : Nat) : Int):=by rw [qu (by omega)];omega
    obtain ⟨r,h1,h2⟩:=hq d[i]! d[i - 1]! (hd.2.2 _ (by omega)) (hd.2.2 _ (by omega))
    by_cases hl : lt d[i]! d[i - 1]! = true
    · rw [if_neg (by simp [hl])]
      refine ⟨K1 ?_,Nat.le_refl _,hib⟩
      simp only [Jt,t,cond_true,w,gx (d:=d) (k:=i) (by omega),gx (d:=d) (k:=i - 1) (by omega),Option.bind_some,h1,h2,hl,Bool.not_true,cond_false]
    · have hl : lt d[i]! d[i - 1]! = false:=by simpa using hl
      rw [if_pos (by simp [hl];omega)]
      have ihc:=ih (i + 1) (by omega) (by omega) (by omega)
      refine ⟨?_,by omega,ihc.2.2⟩
      rw [Kf (a':=((i + 1 : Nat) : Int)) ?_]
      · exact ihc.1
      · simp only [Jt,t,cond_true,w,gx (d:=d) (k:=i) (by omega),gx (d:=d) (k:=i - 1) (by omega),Option.bind_some,h1,h2,hl,Bool.not_false,w1p i (by omega)]
theorem qjz (hq : K8 q lt P) (n : Nat) : ∀ (j : Nat) (d : Array T),AllP n P d→j < n→loop (Ju q) ((j : Int),d.toList) = some (Sort.shiftDown lt j d).toList∧AllP n P (Sort.shiftDown lt j d)
  | 0,d,hd,hj=>by
    have t : decide (((0 : Nat) : Int) ≥ 1) = false:=decide_eq_false (by omega)
    exact ⟨K1 (by simp only [Ju,t,cond_false];rfl),hd⟩
  | j + 1,d,hd,hj=>by
    have hsz:=hd.1
    have hn:=hd.2.1
    have t : decide (((j + 1 : Nat) : Int) ≥ 1) = true:=decide_eq_true (by omega)
    obtain ⟨r,h1,h2⟩:=hq d[j + 1]! d[j]! (hd.2.2 _ hj) (hd.2.2 _ (by omega))
    unfold Sort.shiftDown
    by_cases hl : lt d[j + 1]! d[j]! = true
    · rw [if_neg (by simp [hl])]
      have ih:=qjz hq n j _ (hd.swp (a:=j + 1) (b:=j) hj (by omega)) (by omega)
      refine ⟨?_,ih.2⟩
      rw [Kf (a':=((j : Int),(Sort.swp d (j + 1) j).toList)) ?_]
      · exact ih.1
      · simp only [Ju,t,cond_true,gx (d:=d) (k:=j + 1) (by omega),w1m j (by omega),gx (d:=d) (k:=j) (by omega),gxs (d:=d) (k:=j) (by omega),Option.bind_some,h1,h2,hl,Bool.not_true,cond_false,Int.toNat_natCast,gswp]
    · have hl : lt d[j + 1]! d[j]! = false:=by simpa using hl
      rw [if_pos (by simp [hl])]
      refine ⟨K1 ?_,hd⟩
      simp only [Ju,t,cond_true,gx (d:=d) (k:=j + 1) (by omega),w1m j (by omega),gx (d:=d) (k:=j) (by omega),Option.bind_some,h1,h2,hl,Bool.not_false]
theorem qk1 (hq : K8 q lt P) {b n : Nat} (hb : b≤n) (c : Int) : ∀ (m j : Nat) (d : Array T),b - j = m→AllP n P d→1≤j→loop (Jv (b : Int) q c) ((j : Int),d.toList) = some (c,(Sort.shiftUp lt b j d).toList)∧AllP n P (Sort.shiftUp lt b j d):=by
  intro m
  induction m with
  | zero=>
    intro j d hm hd hj
    unfold Sort.shiftUp
    rw [if_neg (by omega)]
    have t : decide ((j : Int) < (b : Int)) = false:=decide_eq_false (by omega)
    exact ⟨K1 (by simp only [Jv,t,cond_false]),hd⟩
  | succ m ih=>
    intro j d hm hd hj
    have hsz:=hd.1
    have hn:=hd.2.1
    unfold Sort.shiftUp
    rw [if_pos (by omega)]
    have t : decide ((j : Int) < (b : Int)) = true:=decide_eq_true (by omega)
    have w : w64 ((j : Int) - 1) = ((j - 1 : Nat) : Int):=by rw [qu (by omega)];omega
    obtain ⟨r,h1,h2⟩:=hq d[j]! d[j - 1]! (hd.2.2 _ (by omega)) (hd.2.2 _ (by omega))
    by_cases hl : lt d[j]! d[j - 1]! = true
    · rw [if_neg (by simp [hl])]
      have ihc:=ih (j + 1) _ (by omega) (hd.swp (a:=j) (b:=j - 1) (by omega) (by omega)) (by omega)
      refine ⟨?_,ihc.2⟩
      rw [Kf (a':=(((j + 1 : Nat) : Int),(Sort.swp d j (j - 1)).toList)) ?_]
      · exact ihc.1
      · simp only [Jv,t,cond_true,w,gx (d:=d) (k:=j) (by omega),gx (d:=d) (k:=j - 1) (by omega),gxs (d:=d) (k:=j - 1) (by omega),Option.bind_some,h1,h2,hl,Bool.not_true,cond_false,Int.toNat_natCast,gswp,w1p j (by omega)]
    · have hl : lt d[j]! d[j - 1]! = false:=by simpa using hl
      rw [if_pos (by simp [hl])]
      refine ⟨K1 ?_,hd⟩
      simp only [Jv,t,cond_true,w,gx (d:=d) (k:=j) (by omega),gx (d:=d) (k:=j - 1) (by omega),Option.bind_some,h1,h2,hl,Bool.not_false]
theorem qj0 (hq : K8 q lt P) {a b n : Nat} (hb : b≤n) : ∀ (s i : Nat) (d : Array T),s≤5→AllP n P d→a < i→i≤b→
    ∃ m,loop (Yz (b : Int) q (a : Int)) ((i : Int),((5 - s : Nat) : Int),d.toList) = some m∧(match m with | .inl b441=>some (false,b441) | .inr x1=>some x1) = some ((Sort.partialIns lt a b s i d).2,(Sort.partialIns lt a b s i d).1.toList)
  | 0,i,d,hs,hd,hi,hib=>by
    have t : decide (((5 - 0 : Nat) : Int) < 5) = false:=decide_eq_false (by omega)
    refine ⟨.inl d.toList,K1 (by simp only [Yz,t,cond_false]),rfl⟩
  | s + 1,i,d,hs,hd,hi,hib=>by
    have hsz:=hd.1
    have hn:=hd.2.1
    have t : decide (((5 - (s + 1) : Nat) : Int) < 5) = true:=decide_eq_true (by omega)
    rw [Sort.partialIns_succ]
    obtain ⟨s1,l1,u1⟩:=qtd hq hb hd (i : Int) ((5 - (s + 1) : Nat) : Int) _ i rfl (by omega) hib
    generalize Sort.scanSorted lt d b i = k at s1 l1 u1 ⊢
    by_cases hk : k = b
    · subst hk
      rw [if_pos rfl]
      refine ⟨.inr (true,d.toList),K1 ?_,rfl⟩
      simp only [Yz,t,cond_true,s1,Option.bind_some,beq_self_eq_true]
    · rw [if_neg hk]
      have tk : ((k : Int) == (b : Int)) = false:=by simp;omega
      have e0 : w64 ((b : Int) - (a : Int)) = ((b - a : Nat) : Int):=wsub (by omega) (by omega)
      by_cases h50 : b - a < 50
      · rw [if_pos h50]
        have t50 : decide (((b - a : Nat) : Int) < 50) = true:=decide_eq_true (by omega)
        refine ⟨.inr (false,d.toList),K1 ?_,rfl⟩
        simp only [Yz,t,cond_true,s1,Option.bind_some,tk,cond_false,e0,t50]
      · rw [if_neg h50]
        have t50 : decide (((b - a : Nat) : Int) < 50) = false:=decide_eq_false (by omega)
        have wk : w64 ((k : Int) - 1) = ((k - 1 : Nat) : Int):=by rw [qu (by omega)];omega
        have wa : w64 ((k : Int) - (a : Int)) = ((k - a : Nat) : Int):=wsub (by omega) (by omega)
        have wb : w64 ((b : Int) - (k : Int)) = ((b - k : Nat) : Int):=wsub (by omega) (by omega)
        have hd1:=hd.swp (a:=k) (b:=k - 1) (by omega) (by omega)
        have down : (cond (decide (((k - a : Nat) : Int) ≥ 2)) ((loop (Ju q) (((k - 1 : Nat) : Int),(Sort.swp d k (k - 1)).toList)).bind fun x0=>some x0) (some (Sort.swp d k (k - 1)).toList)) = some (Sort.fixDown lt a k (Sort.swp d k (k - 1))).toList∧AllP n P (Sort.fixDown lt a k (Sort.swp d k (k - 1))):=by
          unfold Sort.fixDown
          by_cases h2 : k - a ≥ 2
          · have t2 : decide (((k - a : Nat) : Int) ≥ 2) = true:=decide_eq_true (by omega)
            obtain ⟨x,y⟩:=qjz hq n (k - 1) _ hd1 (by omega)
            rw [if_pos h2,t2,cond_true,x];exact ⟨rfl,y⟩
          · have t2 : decide (((k - a : Nat) : Int) ≥ 2) = false:=decide_eq_false (by omega)
            rw [if_neg h2,t2,cond_false];exact ⟨rfl,hd1⟩
        obtain ⟨dn,hd2⟩:=down
        have hd3 : AllP n P (Sort.fixUp lt b k (Sort.fixDown lt a k (Sort.swp d k (k - 1)))):=by
          unfold Sort.fixUp
          split
          · exact (qk1 hq hb 0 _ (k + 1) _ rfl hd2 (by omega)).2
          · exact hd2
        obtain ⟨m,hm1,hm2⟩:=qj0 (a:=a) hq hb s k _ (by omega) hd3 (by omega) u1
        refine ⟨m,?_,hm2⟩
        rw [Kf (a':=((k : Int),((5 - s : Nat) : Int),(Sort.fixUp lt b k (Sort.fixDown lt a k (Sort.swp d k (k - 1)))).toList)) ?_]
        · exact hm1
        · have w5 : w64 (((5 - (s + 1) : Nat) : Int) + 1) = ((5 - s : Nat) : Int):=by rw [qu (by omega)];omega
          simp only [Yz,t,cond_true,s1,Option.bind_some,tk,cond_false,e0,t50,wk,gx (d:=d) (k:=k) (by omega),gx (d:=d) (k:=k - 1) (by omega),gxs (d:=d) (k:=k - 1) (by omega),Int.toNat_natCast,gswp,wa,dn,wb,w1p k (by omega)]
          unfold Sort.fixUp
          by_cases h2 : b - k ≥ 2
          · have t2 : decide (((b - k : Nat) : Int) ≥ 2) = true:=decide_eq_true (by omega)
            obtain ⟨x,y⟩:=qk1 hq hb (k : Int) _ (k + 1) _ rfl hd2 (by omega)
            rw [if_pos h2,t2,cond_true,x]
            simp only [Option.bind_some,w5]
          · have t2 : decide (((b - k : Nat) : Int) ≥ 2) = false:=decide_eq_false (by omega)
            rw [if_neg h2,t2,cond_false]
            simp only [Option.bind_some,w5]
theorem qrk (hq : K8 q lt P) {a b n : Nat} (hb : b≤n) (hab : a < b) {d : Array T} (hd : AllP n P d) :
    Jb q d.toList (a : Int) (b : Int) = some ((Sort.partialInsertionSort lt d a b).2,(Sort.partialInsertionSort lt d a b).1.toList):=by
  have hn:=hd.2.1
  obtain ⟨m,h1,h2⟩:=qj0 (a:=a) hq hb 5 (a + 1) d (by omega) hd (by omega) (by omega)
  have h1 : loop (Yz (b : Int) q (a : Int)) (((a + 1 : Nat) : Int),0,d.toList) = some m:=h1
  unfold Jb Sort.partialInsertionSort
  rw [w1p a (by omega),h1]
  exact h2
end
end Go.Sh
namespace Go.Sh
open Go Go.Am
theorem qi4 {α β : Type} {f : α→Option (α ⊕ β)} {a : α} (h : f a = none) : loop f a = none:=by
  apply Option.ext
  intro b
  rw [q4r]
  constructor
  · rintro ⟨n,hn⟩
    cases n with
    | zero=>simp [iter] at hn
    | succ n=>simp [iter,h] at hn
  · intro h;cases h
section
variable {T : Type} [Inhabited T] {P : T→Prop} {lt : T→T→Bool} {q : T→T→Option Int}
def Srt (lt : T→T→Bool) (a b : Nat) (d : Array T) (o : Option (List T)) : Prop:=∃ d' : Array T,o = some d'.toList∧Sort.PermIn a b d d'∧Sort.SortedIn lt a b d'
theorem qrn (hq : K8 q lt P) (hS : Sort.SWO lt) {n N : Nat} (rec : List T→Int→Int→Int→Option (List T))
    (hrec : ∀ (a b limit : Nat) (d : Array T),AllP n P d→a≤b→b≤n→limit≤1000→Sort.Below lt a b d→Srt lt a b d (rec d.toList (a : Int) (b : Int) (limit : Int))∨(N≤b - a∧rec d.toList (a : Int) (b : Int) (limit : Int) = none)) :
    ∀ (m a b limit : Nat) (wb wp : Bool) (d : Array T),b - a = m→AllP n P d→a≤b→b≤n→limit≤1000→Sort.Below lt a b d→
      Srt lt a b d (loop (Yp q rec) ((a : Int),(b : Int),(limit : Int),wb,wp,d.toList))∨(N + 1≤b - a∧loop (Yp q rec) ((a : Int),(b : Int),(limit : Int),wb,wp,d.toList) = none):=by
  intro m
  induction m using Nat.strongRecOn with
  | _ m ih=>
    intro a b limit wb wp d hm hd hab hb hl hB
    have hsz:=hd.1
    have hn:=hd.2.1
    have e0 : w64 ((b : Int) - (a : Int)) = ((b - a : Nat) : Int):=wsub hab (by omega)
    by_cases h12 : b - a≤12
    ·
      have t : decide (((b - a : Nat) : Int)≤12) = true:=decide_eq_true (by omega)
      obtain ⟨x,y⟩:=Sort.insertionSort_holds (lt:=lt) hS d a b hab (by omega)
      have s:=qp9 hq hb hab hd
      refine .inl ⟨_,K1 ?_,x,y⟩
      simp only [Yp,e0,t,cond_true,s,Option.bind_some,Je hd (hd.perm hab hb x)]
    have t12 : decide (((b - a : Nat) : Int)≤12) = false:=decide_eq_false (by omega)
    by_cases h0 : limit = 0
    ·
      have t : ((limit : Int) == 0) = true:=by simp [h0]
      obtain ⟨x,y⟩:=Sort.heapSort_holds (lt:=lt) hS d a b hab (by omega)
      have s:=qoz hq hb (by omega : a < b) hd
      refine .inl ⟨_,K1 ?_,x,y⟩
      simp only [Yp,e0,t12,cond_false,t,cond_true,s,Option.bind_some,Je hd (hd.perm hab hb x)]
    have t0 : ((limit : Int) == 0) = false:=by simp [h0]
    have hA : ∃ (l1 : Nat) (d1 : Array T),(cond (!wb) ((Uj q d.toList (a : Int) (b : Int)).bind fun e341=>(Qm e341.length d.toList.length).bind fun u343=>some (w64 ((limit : Int) - 1),e341)) (some ((limit : Int),d.toList))) = some ((l1 : Int),d1.toList)∧l1≤1000∧AllP n P d1∧Sort.PermIn a b d d1:=by
      cases wb with
      | true=>exact ⟨limit,d,rfl,hl,hd,Sort.permIn_refl _ _ _⟩
      | false=>
        have x:=Sort.breakPatterns_holds d a b hab (by omega)
        have hd1:=hd.perm hab hb x
        have w : w64 ((limit : Int) - 1) = ((limit - 1 : Nat) : Int):=by rw [qu (by omega)];omega
        refine ⟨limit - 1,_,?_,by omega,hd1,x⟩
        simp only [Bool.not_false,cond_true,qme (q:=q) hb (by omega : a < b) hd,Option.bind_some,Je hd hd1,w]
    obtain ⟨l1,d1,eA,hl1,hd1,p1⟩:=hA
    have hC:=qn9 hq hd1 (by omega : a < b) hb
    obtain ⟨c1,c2⟩:=Sort.choosePivot_holds lt d1 a b (by omega)
    generalize (Sort.choosePivot lt d1 a b).1 = c at hC c1 c2
    generalize qct (Sort.choosePivot lt d1 a b).2 = h at hC
    have hR : ∃ (p : Nat) (h2 : Int) (d2 : Array T),(cond (h == 2) ((Ur q d1.toList (a : Int) (b : Int)).bind fun e356=>(Qm e356.length d1.toList.length).bind fun u358=>some (w64 ((w64 ((b : Int) - 1)) - (w64 ((c : Int) - (a : Int)))),(1 : Int),e356)) (some ((c : Int),h,d1.toList))) = some ((p : Int),h2,d2.toList)∧a≤p∧p < b∧AllP n P d2∧Sort.PermIn a b d1 d2:=by
      cases hh : (h == 2) with
      | false=>exact ⟨c,h,d1,rfl,c1,c2,hd1,Sort.permIn_refl _ _ _⟩
      | true=>
        have x:=Sort.reverseRange_holds d1 a b hab (by rw [hd1.1];exact hb)
        have hd2:=hd1.perm hab hb x
        have w1 : w64 ((b : Int) - 1) = ((b - 1 : Nat) : Int):=by rw [qu (by omega)];omega
        have w2 : w64 ((c : Int) - (a : Int)) = ((c - a : Nat) : Int):=wsub c1 (by omega)
        have w3 : w64 (((b - 1 : Nat) : Int) - ((c - a : Nat) : Int)) = ((b - 1 - (c - a) : Nat) : Int):=wsub (by omega) (by omega)
        refine ⟨b - 1 - (c - a),1,_,?_,by omega,by omega,hd2,x⟩
        simp only [cond_true,qt9 (q:=q) hb (by omega : a < b) hd1,Option.bind_some,Je hd1 hd2,w1,w2,w3]
    obtain ⟨p,h2,d2,eR,hp1,hp2,hd2,p2⟩:=hR
    have hB2 : Sort.Below lt a b d2:=(hB.perm (by omega) p1).perm (by rw [hd1.1];exact hb) p2
    have p12:=Sort.permIn_trans _ _ _ a b p1 p2
    have hP : ∀ cc : Bool,∃ m376 : (List T) ⊕ (List T),(cond cc ((Jb q d2.toList (a : Int) (b : Int)).bind fun e378=>(Qm e378.2.length d2.toList.length).bind fun u380=>cond e378.1 (some (.inr e378.2)) (some (.inl e378.2))) (some (.inl d2.toList)) : Option ((List T) ⊕ (List T))) = some m376∧
        ((∃ d3 : Array T,m376 = .inr d3.toList∧Sort.PermIn a b d2 d3∧Sort.SortedIn lt a b d3)∨(∃ d3 : Array T,m376 = .inl d3.toList∧AllP n P d3∧Sort.PermIn a b d2 d3)):=by
      intro cc
      cases cc with
      | false=>exact ⟨_,rfl,.inr ⟨d2,rfl,hd2,Sort.permIn_refl _ _ _⟩⟩
      | true=>
        obtain ⟨x,y⟩:=Sort.partialInsertionSort_holds (lt:=lt) hS d2 a b (by omega) (by rw [hd2.1];exact hb) hB2
        have hd3:=hd2.perm hab hb x
        have s:=qrk hq hb (by omega : a < b) hd2
        simp only [cond_true,s,Option.bind_some,Je hd2 hd3]
        cases hz : (Sort.partialInsertionSort lt d2 a b).2 with
        | true=>exact ⟨_,rfl,.inl ⟨_,rfl,x,y hz⟩⟩
        | false=>exact ⟨_,rfl,.inr ⟨_,rfl,hd3,x⟩⟩
    obtain ⟨m376,eP,hm3⟩:=hP (wb && wp && (h2 == 1))
    have hBB : ∀ {γ : Type} (X : Bool→Option γ),((cond wb (some wp) (some false)).bind fun c361=>(cond c361 (some (h2 == 1)) (some false)).bind X) = X (wb && wp && (h2 == 1)):=by
      intro γ X;cases wb <;> cases wp <;> rfl
    have head : Yp q rec ((a : Int),(b : Int),(limit : Int),wb,wp,d.toList) = (match (generalizing:=false) m376 with | .inl b377=>(cond (decide ((a : Int) > 0)) ((idx b377 (w64 ((a : Int) - 1))).bind fun v405=>(idx b377 (p : Int)).bind fun v407=>(q v405 v407).bind fun r409=>some (!(decide (r409 < 0)))) (some false)).bind fun c389=>cond c389 ((Uo q b377 (a : Int) (b : Int) (p : Int)).bind fun e416=>(Qm e416.2.length b377.length).bind fun u418=>some (.inl (e416.1,(b : Int),(l1 : Int),wb,wp,e416.2))) ((Un q b377 (a : Int) (b : Int) (p : Int)).bind fun e421=>(Qm e421.2.2.length b377.length).bind fun u423=>cond (decide ((w64 (e421.1 - (a : Int))) < (w64 ((b : Int) - e421.1)))) ((rec e421.2.2 (a : Int) e421.1 (l1 : Int)).bind fun e426=>(Qm e426.length e421.2.2.length).bind fun u428=>some (.inl (w64 (e421.1 + 1),(b : Int),(l1 : Int),decide ((w64 (e421.1 - (a : Int))) ≥ (w64 (Int.tdiv ((b - a : Nat) : Int) 8))),e421.2.1,e426))) ((rec e421.2.2 (w64 (e421.1 + 1)) (b : Int) (l1 : Int)).bind fun e431=>(Qm e431.length e421.2.2.length).bind fun u433=>some (.inl ((a : Int),e421.1,(l1 : Int),decide ((w64 ((b : Int) - e421.1)) ≥ (w64 (Int.tdiv ((b - a : Nat) : Int) 8))),e421.2.1,e431)))) | .inr x1=>some (.inr x1)):=by
      simp only [Yp,e0,t12,cond_false,t0,eA,Option.bind_some,hC,eR,hBB,eP]
      clear eP hm3 hP hrec ih
      cases m376 <;> rfl
    rcases hm3 with ⟨d3,rfl,x,y⟩ | ⟨d3,rfl,hd3,p3⟩
    · refine .inl ⟨d3,K1 ?_,Sort.permIn_trans _ _ _ a b p12 x,y⟩
      rw [head]
    have hs3:=hd3.1
    have P3:=Sort.permIn_trans _ _ _ a b p12 p3
    have B3 : Sort.Below lt a b d3:=hB2.perm (by rw [hd2.1];exact hb) p3
    have hTest : (cond (decide ((a : Int) > 0)) ((idx d3.toList (w64 ((a : Int) - 1))).bind fun v405=>(idx d3.toList (p : Int)).bind fun v407=>(q v405 v407).bind fun r409=>some (!(decide (r409 < 0)))) (some false)) = some (decide (a > 0) && !lt d3[a - 1]! d3[p]!):=by
      by_cases ha : a > 0
      · have ta : decide ((a : Int) > 0) = true:=decide_eq_true (by omega)
        have w : w64 ((a : Int) - 1) = ((a - 1 : Nat) : Int):=by rw [qu (by omega)];omega
        obtain ⟨r,h1,h2⟩:=hq d3[a - 1]! d3[p]! (hd3.2.2 _ (by omega)) (hd3.2.2 _ (by omega))
        simp only [ta,cond_true,w,gx (d:=d3) (k:=a - 1) (by omega),gx (d:=d3) (k:=p) (by omega),Option.bind_some,h1,h2,decide_eq_true ha,Bool.true_and]
      · have ta : decide ((a : Int) > 0) = false:=decide_eq_false (by omega)
        simp only [ta,cond_false,decide_eq_false ha,Bool.false_and]
    simp only [hTest,Option.bind_some] at head
    by_cases hc : (decide (a > 0) && !lt d3[a - 1]! d3[p]!) = true
    ·
      rw [hc] at head
      have s:=qrl hq hb (by omega : a < b) (by omega : p < n) hd3
      simp only [Bool.and_eq_true,decide_eq_true_eq,Bool.not_eq_true'] at hc
      cases hx : Sort.partitionEqual lt d3 a b p with
      | mk mid d4=>
        obtain ⟨g1,g2,hs4,hB4,hfin⟩:=Sort.round_eq hS (Sort.partitionEqual_holds lt) hc.1 hp1 hp2 (by rw [hs3];exact hb) B3 hc.2 hx
        have hge : ∀ i,a≤i→i < b→lt d3[i]! d3[p]! = false:=fun i hi hi'=>by
          rcases B3 with h0 | hB
          · omega
          · exact hS.ntrans _ _ _ (hB i hi hi') hc.2
        obtain ⟨_,_,hperm,_,_⟩:=Sort.partitionEqual_holds lt hS d3 a b p hp1 hp2 (by rw [hs3];exact hb) hge
        rw [hx] at hperm s
        have hd4:=hd3.perm hab hb hperm
        simp only [cond_true,s,Option.bind_some,Je hd3 hd4] at head
        rw [Kf head]
        rcases ih (b - mid) (by omega) mid b l1 wb wp d4 rfl hd4 g2 hb hl1 hB4 with ⟨R,r0,r1,r2⟩ | ⟨r1,r2⟩
        · obtain ⟨q1,q2⟩:=hfin _ r1 r2
          exact .inl ⟨R,r0,Sort.permIn_trans _ _ _ a b P3 q1,q2⟩
        · exact .inr ⟨by omega,r2⟩
    ·
      have hc : (decide (a > 0) && !lt d3[a - 1]! d3[p]!) = false:=by simpa using hc
      rw [hc] at head
      have s:=qrm hq hb (by omega : a < b) (by omega : p < n) hd3
      cases hx : Sort.partition lt d3 a b p with
      | mk mid r=>
      cases r with
      | mk ap d4=>
        obtain ⟨g1,g2,hs4,hBa,hBr,hleft,hright⟩:=Sort.round_part hS (Sort.partition_holds lt) hp1 hp2 (by rw [hs3];exact hb) B3 hx
        obtain ⟨_,_,hperm,_,_⟩:=Sort.partition_holds lt hS d3 a b p hp1 hp2 (by rw [hs3];exact hb)
        rw [hx] at hperm s
        have hd4:=hd3.perm hab hb hperm
        have w1 : w64 ((mid : Int) - (a : Int)) = ((mid - a : Nat) : Int):=wsub g1 (by omega)
        have w2 : w64 ((b : Int) - (mid : Int)) = ((b - mid : Nat) : Int):=wsub (by omega) (by omega)
        simp only [cond_false,s,Option.bind_some,Je hd3 hd4,w1,w2,w1p mid (by omega)] at head
        by_cases hlt : mid - a < b - mid
        · have tl : decide (((mid - a : Nat) : Int) < ((b - mid : Nat) : Int)) = true:=decide_eq_true (by omega)
          simp only [tl,cond_true] at head
          rcases hrec a mid l1 d4 hd4 g1 (by omega) hl1 hBa with ⟨L,e,l1',l2'⟩ | ⟨r1,r2⟩
          · have hdL:=hd4.perm g1 (by omega) l1'
            obtain ⟨hBL,hfin⟩:=hleft _ l1' l2'
            simp only [e,Option.bind_some,Je hd4 hdL] at head
            rw [Kf head]
            rcases ih (b - (mid + 1)) (by omega) (mid + 1) b l1 _ _ L rfl hdL (by omega) hb hl1 hBL with ⟨R,r0,r1,r2⟩ | ⟨r1,r2⟩
            · obtain ⟨q1,q2⟩:=hfin _ r1 r2
              exact .inl ⟨R,r0,Sort.permIn_trans _ _ _ a b P3 q1,q2⟩
            · exact .inr ⟨by omega,r2⟩
          · simp only [r2,Option.bind_none] at head
            exact .inr ⟨by omega,qi4 head⟩
        · have tl : decide (((mid - a : Nat) : Int) < ((b - mid : Nat) : Int)) = false:=decide_eq_false (by omega)
          simp only [tl,cond_false] at head
          rcases hrec (mid + 1) b l1 d4 hd4 (by omega) hb hl1 hBr with ⟨L,e,l1',l2'⟩ | ⟨r1,r2⟩
          · have hdL:=hd4.perm (by omega : mid + 1≤b) hb l1'
            obtain ⟨hBL,hfin⟩:=hright _ l1' l2'
            simp only [e,Option.bind_some,Je hd4 hdL] at head
            rw [Kf head]
            rcases ih (mid - a) (by omega) a mid l1 _ _ L rfl hdL g1 (by omega) hl1 hBL with ⟨R,r0,r1,r2⟩ | ⟨r1,r2⟩
            · obtain ⟨q1,q2⟩:=hfin _ r1 r2
              exact .inl ⟨R,r0,Sort.permIn_trans _ _ _ a b P3 q1,q2⟩
            · exact .inr ⟨by omega,r2⟩
          · simp only [r2,Option.bind_none] at head
            exact .inr ⟨by omega,qi4 head⟩
theorem qj1 (hq : K8 q lt P) (hS : Sort.SWO lt) {n : Nat} : ∀ (N a b limit : Nat) (d : Array T),AllP n P d→a≤b→b≤n→limit≤1000→Sort.Below lt a b d→
    Srt lt a b d (Yl N q d.toList (a : Int) (b : Int) (limit : Int))∨(N≤b - a∧Yl N q d.toList (a : Int) (b : Int) (limit : Int) = none)
  | 0,a,b,limit,d,_,_,_,_,_=>.inr ⟨by omega,rfl⟩
  | N + 1,a,b,limit,d,hd,hab,hb,hl,hB=>by
    have h:=qrn hq hS (N:=N) (Yl N q) (fun a b limit d h1 h2 h3 h4 h5=>qj1 hq hS N a b limit d h1 h2 h3 h4 h5) _ a b limit true true d rfl hd hab hb hl hB
    have e : Yl (N + 1) q d.toList (a : Int) (b : Int) (limit : Int) = loop (Yp q (Yl N q)) ((a : Int),(b : Int),(limit : Int),true,true,d.toList):=by
      show Jy (Yl N q) q d.toList (a : Int) (b : Int) (limit : Int) = _
      unfold Jy
      cases loop (Yp q (Yl N q)) ((a : Int),(b : Int),(limit : Int),true,true,d.toList) <;> rfl
    rw [e]
    exact h
theorem qkn (hq : K8 q lt P) (hS : Sort.SWO lt) (xs : List T) (hl : xs.length≤1000000) (hP : ∀ x∈xs,P x) :
    ∃ ys,q1c q xs = some ys∧ys.Perm xs∧ys.Pairwise (fun x y=>lt y x = false):=by
  have hd : AllP xs.length P xs.toArray:=by
    refine ⟨by simp,hl,fun i hi=>?_⟩
    have : xs.toArray[i]! = xs[i]:=by simp [hi]
    rw [this];exact hP _ (List.getElem_mem hi)
  have hk : Sort.bitsLen xs.length≤20:=(Sort.bitsLen_le_iff _ 20).2 (by omega)
  have hall : ∀ N,_:=fun N=>qj1 hq hS N 0 xs.length (Sort.bitsLen xs.length) xs.toArray hd (by omega) (by omega) (by omega) (.inl rfl)
  have h1:=hall (xs.length + 1)
  rcases h1 with ⟨d',e,_,_⟩ | ⟨h,_⟩
  · obtain ⟨r,hr⟩:=qpn (f:=fun N=>Yl N q xs 0 (xs.length : Int) ((Sort.bitsLen xs.length : Nat) : Int)) e
    obtain ⟨N,hN⟩:=qd0 hr
    have hN : Yl N q xs 0 (xs.length : Int) ((Sort.bitsLen xs.length : Nat) : Int) = some r:=hN
    rcases hall N with ⟨d2,e2,x,y⟩ | ⟨_,e2⟩
    · have e2 : Yl N q xs 0 (xs.length : Int) ((Sort.bitsLen xs.length : Nat) : Int) = some d2.toList:=e2
      rw [hN] at e2
      obtain rfl : r = d2.toList:=Option.some.inj e2
      have hsz : d2.size = xs.length:=by rw [x.1];simp
      refine ⟨d2.toList,?_,?_,?_⟩
      · unfold q1c
        rw [q14,show ((xs.length : Int) % 18446744073709551616) = (xs.length : Int) by omega,qi2 _ hl]
        simp only [Option.bind_some,hr]
        unfold Qm
        rw [if_pos (by simp [hsz])]
        rfl
      · have:=x.2.2
        have t1 : d2.extract 0 xs.length = d2:=by rw [← hsz];simp
        have t2 : xs.toArray.extract 0 xs.length = xs.toArray:=by simp
        rw [t1,t2] at this
        exact this
      · rw [List.pairwise_iff_getElem]
        intro i j hi hj hij
        have hi2 : i < d2.size:=by simpa using hi
        have hj2 : j < d2.size:=by simpa using hj
        have:=y i j (by omega) hij (by omega)
        rw [getElem!_pos d2 i hi2,getElem!_pos d2 j hj2] at this
        simpa using this
    · have e2 : Yl N q xs 0 (xs.length : Int) ((Sort.bitsLen xs.length : Nat) : Int) = none:=e2
      rw [hN] at e2;cases e2
  · omega
end
end Go.Sh
namespace Go.Sh
open Go Go.Am
theorem qud : qbb = q4j:=rfl
theorem qte : q1n = q2l:=by
  funext p0
  simp only [q1n,q2l,qud]
  all_goals repeat' first | with_reducible rfl | (refine funext fun (m : Sum _ _)=>?_;cases m <;> (first | with_reducible rfl | rfl)) | (congr 1) | funext _
  done
theorem qjt : U1 = Ui:=by
  funext p0
  simp only [U1,Ui,qte]
  all_goals repeat' first | with_reducible rfl | (refine funext fun (m : Sum _ _)=>?_;cases m <;> (first | with_reducible rfl | rfl)) | (congr 1) | funext _
  done
theorem qto : q8h = J9:=by
  funext p1 q1 a459
  simp only [q8h,J9]
  all_goals repeat' first | with_reducible rfl | (refine funext fun (m : Sum _ _)=>?_;cases m <;> (first | with_reducible rfl | rfl)) | (congr 1) | funext _
  done
theorem qtn : q8g = Um:=by
  funext p2 p1 q1 a278
  simp only [q8g,Um,qto]
  all_goals repeat' first | with_reducible rfl | (refine funext fun (m : Sum _ _)=>?_;cases m <;> (first | with_reducible rfl | rfl)) | (congr 1) | funext _
  done
theorem qtm : q8f = q1f:=by
  funext q1 p0 p1 p2
  simp only [q8f,q1f,qtn]
  all_goals repeat' first | with_reducible rfl | (refine funext fun (m : Sum _ _)=>?_;cases m <;> (first | with_reducible rfl | rfl)) | (congr 1) | funext _
  done
theorem quc : q8z = Jc:=by
  funext p2 p3 q1 a197
  simp only [q8z,Jc]
  all_goals repeat' first | with_reducible rfl | (refine funext fun (m : Sum _ _)=>?_;cases m <;> (first | with_reducible rfl | rfl)) | (congr 1) | funext _
  done
theorem qjv : q6a = Jz:=by
  funext q1 p0 p1 p2 p3
  simp only [q6a,Jz,quc]
  all_goals repeat' first | with_reducible rfl | (refine funext fun (m : Sum _ _)=>?_;cases m <;> (first | with_reducible rfl | rfl)) | (congr 1) | funext _
  done
theorem qtk : q8d = Uk:=by
  funext q1 p2 p1 a123
  simp only [q8d,Uk,qjv]
  all_goals repeat' first | with_reducible rfl | (refine funext fun (m : Sum _ _)=>?_;cases m <;> (first | with_reducible rfl | rfl)) | (congr 1) | funext _
  done
theorem qtl : q8e = Ul:=by
  funext p1 q1 a191
  simp only [q8e,Ul,qjv]
  all_goals repeat' first | with_reducible rfl | (refine funext fun (m : Sum _ _)=>?_;cases m <;> (first | with_reducible rfl | rfl)) | (congr 1) | funext _
  done
theorem qtj : q8c = q1e:=by
  funext q1 p0 p1 p2
  simp only [q8c,q1e,qtk,qtl]
  all_goals repeat' first | with_reducible rfl | (refine funext fun (m : Sum _ _)=>?_;cases m <;> (first | with_reducible rfl | rfl)) | (congr 1) | funext _
  done
theorem qtq : q10 = q1g:=by
  funext p0
  simp only [q10,q1g,qjt]
  all_goals repeat' first | with_reducible rfl | (refine funext fun (m : Sum _ _)=>?_;cases m <;> (first | with_reducible rfl | rfl)) | (congr 1) | funext _
  done
theorem que : q11 = q1k:=by
  funext p0
  simp only [q11,q1k]
  all_goals repeat' first | with_reducible rfl | (refine funext fun (m : Sum _ _)=>?_;cases m <;> (first | with_reducible rfl | rfl)) | (congr 1) | funext _
  done
theorem qth : q8a = Jq:=by
  funext p1 p2 r101 a153
  simp only [q8a,Jq,que]
  all_goals repeat' first | with_reducible rfl | (refine funext fun (m : Sum _ _)=>?_;cases m <;> (first | with_reducible rfl | rfl)) | (congr 1) | funext _
  done
theorem qtg : q89 = Uj:=by
  funext q1 p0 p1 p2
  simp only [q89,Uj,qtq,qth]
  all_goals repeat' first | with_reducible rfl | (refine funext fun (m : Sum _ _)=>?_;cases m <;> (first | with_reducible rfl | rfl)) | (congr 1) | funext _
  done
theorem qtr : q3f = Js:=by
  funext q1 p0 p1 p2 p3
  simp only [q3f,Js]
  all_goals repeat' first | with_reducible rfl | (refine funext fun (m : Sum _ _)=>?_;cases m <;> (first | with_reducible rfl | rfl)) | (congr 1) | funext _
  done
theorem qju : q5q = Jr:=by
  funext q1 p0 p1 p2 p3 p4
  simp only [q5q,Jr,qtr]
  all_goals repeat' first | with_reducible rfl | (refine funext fun (m : Sum _ _)=>?_;cases m <;> (first | with_reducible rfl | rfl)) | (congr 1) | funext _
  done
theorem qtp : q3d = Ja:=by
  funext q1 p0 p1 p2
  simp only [q3d,Ja,qju]
  all_goals repeat' first | with_reducible rfl | (refine funext fun (m : Sum _ _)=>?_;cases m <;> (first | with_reducible rfl | rfl)) | (congr 1) | funext _
  done
theorem qti : q8b = q1d:=by
  funext p0 p1 p2 p3
  simp only [q8b,q1d,qju,qtp]
  all_goals repeat' first | with_reducible rfl | (refine funext fun (m : Sum _ _)=>?_;cases m <;> (first | with_reducible rfl | rfl)) | (congr 1) | funext _
  done
theorem qub : q8x = q1j:=by
  funext a119
  simp only [q8x,q1j]
  all_goals repeat' first | with_reducible rfl | (refine funext fun (m : Sum _ _)=>?_;cases m <;> (first | with_reducible rfl | rfl)) | (congr 1) | funext _
  done
theorem qua : q8w = Ur:=by
  funext q1 p0 p1 p2
  simp only [q8w,Ur,qub]
  all_goals repeat' first | with_reducible rfl | (refine funext fun (m : Sum _ _)=>?_;cases m <;> (first | with_reducible rfl | rfl)) | (congr 1) | funext _
  done
theorem qtu : q8i = Jt:=by
  funext p2 a438 q1 a681
  simp only [q8i,Jt]
  all_goals repeat' first | with_reducible rfl | (refine funext fun (m : Sum _ _)=>?_;cases m <;> (first | with_reducible rfl | rfl)) | (congr 1) | funext _
  done
theorem qtv : q8j = Ju:=by
  funext q1 a838
  simp only [q8j,Ju]
  all_goals repeat' first | with_reducible rfl | (refine funext fun (m : Sum _ _)=>?_;cases m <;> (first | with_reducible rfl | rfl)) | (congr 1) | funext _
  done
theorem qtw : q8k = Jv:=by
  funext p2 q1 b684 a928
  simp only [q8k,Jv]
  all_goals repeat' first | with_reducible rfl | (refine funext fun (m : Sum _ _)=>?_;cases m <;> (first | with_reducible rfl | rfl)) | (congr 1) | funext _
  done
theorem qtt : q5s = Yz:=by
  funext p2 q1 p1 a438
  have mm : @q5s.match_1.{1} = @Yz.match_1.{1} qh:=by funext motive m f g;cases m <;> rfl
  unfold q5s Yz
  rw [mm]
  simp only [qtu,qtv,qtw]
theorem qts : q5r = Jb:=by
  funext q1 p0 p1 p2
  have mm : @q5r.match_1.{1} = @Jb.match_1.{1} qh:=by funext motive m f g;cases m <;> rfl
  unfold q5r Jb
  rw [mm]
  simp only [qtt]
theorem qu0 : q8u = Jw:=by
  funext a318 p1 q1 a378
  simp only [q8u,Jw]
  all_goals repeat' first | with_reducible rfl | (refine funext fun (m : Sum _ _)=>?_;cases m <;> (first | with_reducible rfl | rfl)) | (congr 1) | funext _
  done
theorem qu1 : q8v = Jx:=by
  funext b381 a318 p1 q1 a463
  simp only [q8v,Jx]
  all_goals repeat' first | with_reducible rfl | (refine funext fun (m : Sum _ _)=>?_;cases m <;> (first | with_reducible rfl | rfl)) | (congr 1) | funext _
  done
theorem qtz : q8t = Up:=by
  funext p1 q1 a318
  simp only [q8t,Up,qu0,qu1]
  all_goals repeat' first | with_reducible rfl | (refine funext fun (m : Sum _ _)=>?_;cases m <;> (first | with_reducible rfl | rfl)) | (congr 1) | funext _
  done
theorem qty : q8s = Uo:=by
  funext q1 p0 p1 p2 p3
  simp only [q8s,Uo,qtz]
  all_goals repeat' first | with_reducible rfl | (refine funext fun (m : Sum _ _)=>?_;cases m <;> (first | with_reducible rfl | rfl)) | (congr 1) | funext _
  done
theorem qu2 : q8n = q1h:=by
  funext p2 p0 p1 v101 p3 v103 q1 a163
  simp only [q8n,q1h]
  all_goals repeat' first | with_reducible rfl | (refine funext fun (m : Sum _ _)=>?_;cases m <;> (first | with_reducible rfl | rfl)) | (congr 1) | funext _
  done
theorem qu3 : q8o = q1i:=by
  funext b166 p0 p1 v101 p3 v103 q1 a249
  simp only [q8o,q1i]
  all_goals repeat' first | with_reducible rfl | (refine funext fun (m : Sum _ _)=>?_;cases m <;> (first | with_reducible rfl | rfl)) | (congr 1) | funext _
  done
theorem qu5 : q8q = Za:=by
  funext a514 p1 q1 a572
  simp only [q8q,Za]
  all_goals repeat' first | with_reducible rfl | (refine funext fun (m : Sum _ _)=>?_;cases m <;> (first | with_reducible rfl | rfl)) | (congr 1) | funext _
  done
theorem qu6 : q8r = Zb:=by
  funext b575 a514 p1 q1 a658
  simp only [q8r,Zb]
  all_goals repeat' first | with_reducible rfl | (refine funext fun (m : Sum _ _)=>?_;cases m <;> (first | with_reducible rfl | rfl)) | (congr 1) | funext _
  done
theorem qu4 : q8p = Uq:=by
  funext p1 q1 a514
  simp only [q8p,Uq,qu5,qu6]
  all_goals repeat' first | with_reducible rfl | (refine funext fun (m : Sum _ _)=>?_;cases m <;> (first | with_reducible rfl | rfl)) | (congr 1) | funext _
  done
theorem qtx : q8m = Un:=by
  funext q1 p0 p1 p2 p3
  simp only [q8m,Un,qu2,qu3,qu4]
  all_goals repeat' first | with_reducible rfl | (refine funext fun (m : Sum _ _)=>?_;cases m <;> (first | with_reducible rfl | rfl)) | (congr 1) | funext _
  done
theorem qu8 : q66 = Yp:=by
  funext q1 rec a309
  have mm : @q66.match_1.{1} = @Yp.match_1.{1} qh:=by funext motive m f g;cases m <;> rfl
  unfold q66 Yp
  rw [mm]
  simp only [qtm,qtj,qtg,qti,qua,qts,qty,qtx]
theorem qu9 : q67 = Jy:=by
  funext rec q1 p0 p1 p2 p3
  simp only [q67,Jy,qu8]
  all_goals repeat' first | with_reducible rfl | (refine funext fun (m : Sum _ _)=>?_;cases m <;> (first | with_reducible rfl | rfl)) | (congr 1) | funext _
  done
theorem qu7 : ∀ N q,q65 N q = Yl N q:=by
  intro N q
  induction N with
  | zero=>rfl
  | succ N ih=>
    funext a b c d
    show q67 (q65 N q) q a b c d = Jy (Yl N q) q a b c d
    rw [ih,qu9]
theorem qtf : q5g = q1c:=by
  funext q1 p0
  simp only [q5g,q1c,qjt,qu7]
  all_goals repeat' first | with_reducible rfl | (refine funext fun (m : Sum _ _)=>?_;cases m <;> (first | with_reducible rfl | rfl)) | (congr 1) | funext _
  done
end Go.Sh
namespace Go.Sh
open Go Go.Am
instance : Inhabited qh:=⟨⟨0,0,0⟩⟩
theorem qxw (q : qh→qh→Option Int) (xs : List qh) : q5g q xs = q1c q xs:=by rw [qtf]
def evs (s : List qk) (l : Int) : List qh:=s.flatMap fun t=>[{at_:=t.Lo,list_:=l,by_:=1},{at_:=t.Hi,list_:=l,by_:=-1}]
theorem q72 (s : List qk) (l : Int) : (evs s l).length = 2 * s.length:=by
  induction s with
  | nil=>rfl
  | cons t s ih=>simp only [evs,List.flatMap_cons,List.length_append,List.length_cons,List.length_nil] at ih ⊢;omega
theorem qad {s : List qk} {l : Int} {e : qh} (h : e∈evs s l) : e.list_ = l∧(e.by_ = 1∨e.by_ = -1)∧∃ t∈s,e.at_ = t.Lo∨e.at_ = t.Hi:=by
  simp only [evs,List.mem_flatMap] at h
  obtain ⟨t,ht,h⟩:=h
  simp only [List.mem_cons,List.not_mem_nil,or_false] at h
  rcases h with rfl | rfl
  · exact ⟨rfl,.inl rfl,t,ht,.inl rfl⟩
  · exact ⟨rfl,.inr rfl,t,ht,.inr rfl⟩
theorem qge (s : List qk) (l : Int) (y : List qh) (hs : s.length≤1000) (base : List qh) (hb : base.length≤10000) :
    loop (q3x s (l,y)) (0,base) = some (base ++ evs s l):=by
  have:=Zd (f:=q3x s (l,y)) (σ:=List qh) (fun k c=>((k : Int),c)) s.length (fun k c=>c = base ++ evs (s.take k) l) (fun t=>t = base ++ evs s l) ?_ ?_ (k0:=0) (c0:=base) (by omega) (by simp [evs])
  · obtain ⟨b,h1,rfl⟩:=this;exact h1
  · rintro k c hk rfl
    have hb1 : decide ((k : Int) < (s.length : Int)) = true:=decide_eq_true (by omega)
    refine .inl ⟨base ++ evs (s.take (k + 1)) l,?_,rfl⟩
    have hlen : (evs (s.take k) l).length≤2000:=by rw [q72,List.length_take];omega
    simp only [q3x,hb1,cond_true,Ql hk,Option.bind_some]
    rw [Kq (by rw [List.length_append];simp only [List.length_cons,List.length_nil];omega),Option.bind_some,qu (by omega),List.take_succ_eq_append_getElem hk,List.append_assoc]
    have : evs (s.take k ++ [s[k]]) l = evs (s.take k) l ++ [{at_:=s[k].Lo,list_:=l,by_:=1},{at_:=s[k].Hi,list_:=l,by_:=-1}]:=by simp only [evs,List.flatMap_append,List.flatMap_cons,List.flatMap_nil,List.append_nil]
    rw [this];rfl
  · rintro c rfl
    have hb1 : decide ((s.length : Int) < (s.length : Int)) = false:=decide_eq_false (by omega)
    exact ⟨_,by simp only [q3x,hb1,cond_false];rfl,by rw [List.take_length]⟩
def ltE (a b : qh) : Bool:=decide (a.at_ < b.at_)
def inE (e : qh) : Prop:=-1000000≤e.at_∧e.at_≤1000000
theorem swoE : Sort.SWO ltE where
  irrefl:=by intro x;simp [ltE]
  trans:=by intro x y z;simp only [ltE,decide_eq_true_eq];omega
  ntrans:=by intro x y z;simp only [ltE,decide_eq_false_iff_not];omega
theorem cmpE : K8 (fun x0 x1=>q94 x0 x1) ltE inE:=by
  rintro x y ⟨h1,h2⟩ ⟨h3,h4⟩
  refine ⟨x.at_ - y.at_,?_,?_⟩
  · show some (w64 (x.at_ - y.at_)) = _;rw [qu (by omega)]
  · unfold ltE;exact decide_eq_decide.2 (by omega)
theorem qxv (p q : List qk) (hp : p.length≤500) (hq : q.length≤500) (vp : ∀ t∈p,vld t) (vq : ∀ t∈q,vld t) :
    ∃ ys,q95 [p,q] = some ([p,q],ys)∧ys.Perm (evs p 0 ++ evs q 1)∧ys.Pairwise (fun x y=>x.at_≤y.at_):=by
  have hP : ∀ x∈evs p 0 ++ evs q 1,inE x:=by
    intro x hx
    rcases List.mem_append.1 hx with h | h
    · obtain ⟨_,_,t,ht,h⟩:=qad h
      obtain ⟨a,b,c⟩:=vp t ht
      unfold inE;rcases h with h | h <;> omega
    · obtain ⟨_,_,t,ht,h⟩:=qad h
      obtain ⟨a,b,c⟩:=vq t ht
      unfold inE;rcases h with h | h <;> omega
  have l1:=q72 p 0
  have l2:=q72 q 1
  obtain ⟨ys,h1,h2,h3⟩:=qkn cmpE swoE (evs p 0 ++ evs q 1) (by rw [List.length_append];omega) hP
  refine ⟨ys,?_,h2,h3.imp (fun {x y} h=>by simp only [ltE,decide_eq_false_iff_not] at h;omega)⟩
  have hloop : loop (Ua [p,q]) (0,[]) = some (evs p 0 ++ evs q 1):=by
    have s0 : Ua [p,q] (0,[]) = some (.inl (1,evs p 0)):=by
      have t : decide ((0 : Int) < (([p,q] : List (List qk)).length : Int)) = true:=rfl
      simp only [Ua,t,cond_true]
      have : idx [p,q] 0 = some p:=rfl
      rw [this]
      simp only [Option.bind_some,qge p 0 [] (by omega) [] (by simp),List.nil_append]
      rfl
    have s1 : Ua [p,q] (1,evs p 0) = some (.inl (2,evs p 0 ++ evs q 1)):=by
      have t : decide ((1 : Int) < (([p,q] : List (List qk)).length : Int)) = true:=rfl
      simp only [Ua,t,cond_true]
      have : idx [p,q] 1 = some q:=rfl
      rw [this]
      simp only [Option.bind_some,qge q 1 (evs p 0) (by omega) (evs p 0) (by omega)]
      rfl
    have s2 : Ua [p,q] (2,evs p 0 ++ evs q 1) = some (.inr (evs p 0 ++ evs q 1)):=by
      have t : decide ((2 : Int) < (([p,q] : List (List qk)).length : Int)) = false:=rfl
      simp only [Ua,t,cond_false]
    rw [Kf s0,Kf s1,K1 s2]
  unfold q95
  rw [hloop]
  simp only [Option.bind_some,qxw,h1]
  have le : Qm ys.length (evs p 0 ++ evs q 1).length = some ():=by unfold Qm;rw [if_pos h2.length_eq]
  have le2 : Qm ys.length ys.length = some ():=by unfold Qm;rw [if_pos rfl]
  simp only [le,Option.bind_some,qb6,le2]
def cnt (l : Int) (c : Int→Bool) : List qh→Int
  | []=>0
  | e::es=>(if e.list_ = l∧c e.at_ = true then e.by_ else 0) + cnt l c es
theorem q16 (l : Int) (c : Int→Bool) (a b : List qh) : cnt l c (a ++ b) = cnt l c a + cnt l c b:=by
  induction a with
  | nil=>simp [cnt]
  | cons e a ih=>simp only [List.cons_append,cnt,ih];omega
theorem qg1 {l : Int} {c : Int→Bool} {a b : List qh} (h : a.Perm b) : cnt l c a = cnt l c b:=by
  induction h with
  | nil=>rfl
  | cons x _ ih=>simp only [cnt,ih]
  | swap x y l=>simp only [cnt];omega
  | trans _ _ ih1 ih2=>rw [ih1,ih2]
theorem qfy {l : Int} {c c' : Int→Bool} : ∀ {a : List qh},(∀ e∈a,c e.at_ = c' e.at_)→cnt l c a = cnt l c' a
  | [],_=>rfl
  | e::a,h=>by simp only [cnt,h e (by simp),qfy (fun e he=>h e (List.mem_cons_of_mem _ he))]
theorem qg0 {l : Int} {c : Int→Bool} : ∀ {a : List qh},(∀ e∈a,c e.at_ = false)→cnt l c a = 0
  | [],_=>rfl
  | e::a,h=>by
    simp only [cnt,qg0 (fun e he=>h e (List.mem_cons_of_mem _ he)),h e (by simp)]
    simp
theorem q6s {s : List qk} {l l' : Int} {c : Int→Bool} (h : l≠l') : cnt l c (evs s l') = 0:=by
  induction s with
  | nil=>rfl
  | cons t s ih=>
    have : evs (t::s) l' = [{at_:=t.Lo,list_:=l',by_:=1},{at_:=t.Hi,list_:=l',by_:=-1}] ++ evs s l':=rfl
    rw [this,q16,ih]
    have h' : ¬ l' = l:=fun e=>h e.symm
    simp [cnt,h']
theorem qfz {s : List qk} {l : Int} (v : ∀ t∈s,vld t) (x : Int) : 0≤cnt l (fun a=>decide (a≤x)) (evs s l)∧(0 < cnt l (fun a=>decide (a≤x)) (evs s l)↔has s x):=by
  induction s with
  | nil=>exact ⟨Int.le_refl 0,by simp [evs,cnt,has]⟩
  | cons t s ih=>
    obtain ⟨i1,i2⟩:=ih (fun t ht=>v t (List.mem_cons_of_mem _ ht))
    have hv:=v t (by simp)
    have : evs (t::s) l = [{at_:=t.Lo,list_:=l,by_:=1},{at_:=t.Hi,list_:=l,by_:=-1}] ++ evs s l:=rfl
    rw [this,q16,Yt,← i2]
    obtain ⟨v1,v2,v3⟩:=hv
    simp only [cnt,true_and,decide_eq_true_eq]
    split <;> split <;> omega
theorem qg2 {s : List qk} {l : Int} : cnt l (fun _=>true) (evs s l) = 0:=by
  induction s with
  | nil=>rfl
  | cons t s ih=>
    have : evs (t::s) l = [{at_:=t.Lo,list_:=l,by_:=1},{at_:=t.Hi,list_:=l,by_:=-1}] ++ evs s l:=rfl
    rw [this,q16,ih]
    simp [cnt]
theorem qc5 {l : Int} {c : Int→Bool} : ∀ {a : List qh},(∀ e∈a,e.by_ = 1∨e.by_ = -1)→-(a.length : Int)≤cnt l c a∧cnt l c a≤(a.length : Int)
  | [],_=>by simp [cnt]
  | e::a,h=>by
    obtain ⟨h1,h2⟩:=qc5 (l:=l) (c:=c) (fun e he=>h e (List.mem_cons_of_mem _ he))
    have:=h e (by simp)
    simp only [cnt,List.length_cons]
    split <;> omega
end Go.Sh
namespace Go.Sh
open Go Go.Am
theorem qnb (at_ last : Int) (inn : Bool) (out : List qk) (h : out.length≤10000) :
    q96 at_ inn last out = some (inn,last,if inn = true∧last≠at_ then addS out last at_ else out):=by
  unfold q96
  cases inn with
  | false=>rfl
  | true=>
    by_cases he : last = at_
    · simp [he]
    · have hb : (last == at_) = false:=by simpa using he
      simp only [Bool.not_true,cond_false,Option.bind_some,hb]
      rw [if_pos ⟨trivial,he⟩]
      rcases qb7 out with rfl | ⟨d,t,rfl⟩
      · rfl
      · have hl : (d ++ [t]).length = d.length + 1:=by simp
        have h0 : decide (((d ++ [t]).length : Int) > 0) = true:=decide_eq_true (by omega)
        have hw : w64 (((d ++ [t]).length : Int) - 1) = (d.length : Int):=by rw [qu (by omega)];omega
        have hx : idx (d ++ [t]) (d.length : Int) = some t:=by
          rw [Ql (by omega)];simp
        simp only [h0,cond_true,hw,hx,Option.bind_some]
        by_cases h2 : t.Hi = last
        · subst h2
          simp only [beq_self_eq_true,cond_true,q9m,Int.toNat_natCast,qjy]
        · have hb2 : (t.Hi == last) = false:=by simpa using h2
          simp only [hb2,cond_false,q9n h2]
          rw [Kq (by simp;omega)]
          rfl
open Classical in
structure qlv (f : Bool→Bool→Bool) (p q : List qk) (ys : List qh) (k : Nat) (c : List Int × Int × Bool × List qk) : Prop where
  opn : c.1 = [cnt 0 (fun _=>true) (ys.take k),cnt 1 (fun _=>true) (ys.take k)]
  inn : c.2.2.1 = f (decide (0 < cnt 0 (fun _=>true) (ys.take k))) (decide (0 < cnt 1 (fun _=>true) (ys.take k)))
  lst : ∀ (h : k - 1 < ys.length),0 < k→c.2.1 = ys[k - 1].at_
  can : Can c.2.2.2
  his : ∀ t∈c.2.2.2,t.Hi≤c.2.1
  zro : k = 0→c.2.2.2 = []
  pts : ∀ x,has c.2.2.2 x↔0 < k∧x < c.2.1∧f (decide (has p x)) (decide (has q x)) = true
  len : c.2.2.2.length≤k
theorem qlx (c : List qk) (a b : Int) : (addS c a b).length≤c.length + 1:=by
  rcases qb7 c with rfl | ⟨d,t,rfl⟩
  · simp [qf5]
  · by_cases h : t.Hi = a
    · subst h;rw [q9m];simp
    · rw [q9n h];simp
theorem qfx {p q : List qk} {ys : List qh} (hp : ∀ t∈p,vld t) (hq : ∀ t∈q,vld t) (hperm : ys.Perm (evs p 0 ++ evs q 1)) (hs : ys.Pairwise (fun x y=>x.at_≤y.at_)) (k : Nat) (x : Int)
    (h1 : ∀ i (h : i < ys.length),i < k→ys[i].at_≤x) (h2 : ∀ i (h : i < ys.length),k≤i→x < ys[i].at_) :
    (0 < cnt 0 (fun _=>true) (ys.take k)↔has p x)∧(0 < cnt 1 (fun _=>true) (ys.take k)↔has q x):=by
  have key : ∀ l,cnt l (fun _=>true) (ys.take k) = cnt l (fun a=>decide (a≤x)) (evs p 0) + cnt l (fun a=>decide (a≤x)) (evs q 1):=by
    intro l
    rw [← q16,← qg1 hperm]
    conv=>rhs;rw [← List.take_append_drop k ys]
    rw [q16]
    have a1 : cnt l (fun a=>decide (a≤x)) (ys.drop k) = 0:=by
      refine qg0 fun e he=>?_
      obtain ⟨i,hi,rfl⟩:=List.mem_iff_getElem.1 he
      rw [List.getElem_drop]
      rw [List.length_drop] at hi
      have:=h2 (k + i) (by omega) (by omega)
      exact decide_eq_false (by omega)
    have a2 : cnt l (fun a=>decide (a≤x)) (ys.take k) = cnt l (fun _=>true) (ys.take k):=by
      refine qfy fun e he=>?_
      obtain ⟨i,hi,rfl⟩:=List.mem_iff_getElem.1 he
      rw [List.getElem_take]
      rw [List.length_take] at hi
      exact decide_eq_true (h1 i (by omega) (by omega))
    rw [a1,a2];omega
  rw [key 0,key 1,q6s (l:=0) (l':=1) (by decide),q6s (l:=1) (l':=0) (by decide)]
  have e1:=qfz (l:=0) hp x
  have e2:=qfz (l:=1) hq x
  rw [Int.add_zero,Int.zero_add]
  exact ⟨e1.2,e2.2⟩
open Classical in
theorem qpd (f : Bool→Bool→Bool) (hf : f false false = false) (p2 : Bool→Bool→Option Bool) (hp2 : ∀ a b,p2 a b = some (f a b)) (p q : List qk)
    (hp : p.length≤500) (hq : q.length≤500) (vp : ∀ t∈p,vld t) (vq : ∀ t∈q,vld t) :
    ∃ out,q6m p q p2 = some out∧Can out∧∀ x,has out x↔f (decide (has p x)) (decide (has q x)) = true:=by
  obtain ⟨ys,e1,hperm,hs⟩:=qxv p q hp hq vp vq
  have hlen : ys.length≤2000:=by rw [hperm.length_eq,List.length_append,q72,q72];omega
  have hle : ∀ i j (hi : i < ys.length) (hj : j < ys.length),i≤j→ys[i].at_≤ys[j].at_:=by
    intro i j hi hj hij
    rcases Nat.lt_or_ge i j with h | h
    · exact List.pairwise_iff_getElem.1 hs i j hi hj h
    · obtain rfl : i = j:=by omega
      exact Int.le_refl _
  have hmem : ∀ e∈ys,(e.list_ = 0∨e.list_ = 1)∧(e.by_ = 1∨e.by_ = -1):=by
    intro e he
    rcases List.mem_append.1 (hperm.mem_iff.1 he) with h | h
    · obtain ⟨a,b,_⟩:=qad h;exact ⟨.inl a,b⟩
    · obtain ⟨a,b,_⟩:=qad h;exact ⟨.inr a,b⟩
  have:=Zd (f:=q3y ([p,q],ys) p2) (σ:=List Int × Int × Bool × List qk) (fun k c=>((k : Int),c)) ys.length (qlv f p q ys) (fun out=>Can out∧∀ x,has out x↔f (decide (has p x)) (decide (has q x)) = true) ?_ ?_ (k0:=0) (c0:=([0,0],0,false,[])) (by omega) ?_
  · obtain ⟨out,h1,h2⟩:=this
    refine ⟨out,?_,h2⟩
    unfold q6m
    have h1 : loop (q3y ([p,q],ys) p2) (0,[0,0],0,false,[]) = some out:=h1
    rw [e1]
    simp only [Option.bind_some,h1]
    rfl
  · rintro k ⟨opn,last,inn,out⟩ hk ⟨s1,s2,s3,s4,s5,s6,s7,s8⟩
    simp only at s1 s2 s3 s4 s5 s6 s7 s8
    have hb1 : decide ((k : Int) < (ys.length : Int)) = true:=decide_eq_true (by omega)
    have hcl:=qnb ys[k].at_ last inn out (by omega)
    have hm:=hmem ys[k] (List.getElem_mem hk)
    have htk : ys.take (k + 1) = ys.take k ++ [ys[k]]:=List.take_succ_eq_append_getElem hk
    have hby : ∀ e∈ys.take k,e.by_ = 1∨e.by_ = -1:=fun e he=>(hmem e (List.mem_of_mem_take he)).2
    have b0:=qc5 (l:=0) (c:=fun _=>true) hby
    have b1:=qc5 (l:=1) (c:=fun _=>true) hby
    have hlt : (ys.take k).length = k:=by rw [List.length_take];omega
    rw [hlt] at b0 b1
    have hopen : ∃ v,idxA 2 opn ys[k].list_ = some v∧opn.set ys[k].list_.toNat (w64 (v + ys[k].by_)) = [cnt 0 (fun _=>true) (ys.take (k + 1)),cnt 1 (fun _=>true) (ys.take (k + 1))]:=by
      subst s1
      rw [htk,q16,q16]
      rcases hm.1 with h | h
      · refine ⟨cnt 0 (fun _=>true) (ys.take k),by rw [h];rfl,?_⟩
        rw [h,qu (by omega)]
        simp [cnt,h]
      · refine ⟨cnt 1 (fun _=>true) (ys.take k),by rw [h];rfl,?_⟩
        rw [h,qu (by omega)]
        simp [cnt,h]
    obtain ⟨v,o1,o2⟩:=hopen
    refine .inl ⟨([cnt 0 (fun _=>true) (ys.take (k + 1)),cnt 1 (fun _=>true) (ys.take (k + 1))],ys[k].at_,f (decide (0 < cnt 0 (fun _=>true) (ys.take (k + 1)))) (decide (0 < cnt 1 (fun _=>true) (ys.take (k + 1)))),if inn = true∧last≠ys[k].at_ then addS out last ys[k].at_ else out),?_,?_⟩
    · have x0 : ∀ a b : Int,idxA 2 [a,b] 0 = some a:=fun a b=>rfl
      have x1 : ∀ a b : Int,idxA 2 [a,b] 1 = some b:=fun a b=>rfl
      simp only [q3y,hb1,cond_true,Ql hk,Option.bind_some,hcl,o1,o2,x0,x1,hp2,Bool.not_true,cond_false]
      rw [qu (by omega)]
      rfl
    · have hall1 : ∀ x,(0 < k→last≤x)→∀ i (h : i < ys.length),i < k→ys[i].at_≤x:=by
        intro x hx i hi hik
        have:=s3 (by omega) (by omega)
        have:=hle i (k - 1) hi (by omega) (by omega)
        have:=hx (by omega)
        omega
      have hall2 : ∀ x,x < ys[k].at_→∀ i (h : i < ys.length),k≤i→x < ys[i].at_:=by
        intro x hx i hi hik
        have:=hle k i hk hi hik
        omega
      have hF : ∀ x,(0 < k→last≤x)→x < ys[k].at_→f (decide (has p x)) (decide (has q x)) = inn:=by
        intro x hx hx2
        obtain ⟨c1,c2⟩:=qfx vp vq hperm hs k x (hall1 x hx) (hall2 x hx2)
        rw [s2,decide_eq_decide.2 c1,decide_eq_decide.2 c2]
      have hlast : 0 < k→last≤ys[k].at_:=by
        intro h0
        rw [s3 (by omega) h0]
        exact hle (k - 1) k (by omega) hk (by omega)
      have hin0 : k = 0→inn = false:=by
        intro h0
        subst h0
        rw [s2];exact hf
      by_cases hc : inn = true∧last≠ys[k].at_
      · have hk0 : 0 < k:=by
          rcases Nat.eq_zero_or_pos k with h | h
          · rw [hin0 h] at hc;cases hc.1
          · exact h
        have hl:=hlast hk0
        have hab : last < ys[k].at_:=by have:=hc.2;omega
        obtain ⟨d1,d2,d3,d4⟩:=qf6 s4 s5 hab
        constructor
        · rfl
        · rfl
        · intro h _;rfl
        · simp only [if_pos hc];exact d1
        · simp only [if_pos hc];exact d3
        · omega
        · intro x
          simp only [if_pos hc]
          rw [d2,s7]
          constructor
          · rintro (⟨h0,h1,h2⟩ | ⟨h1,h2⟩)
            · exact ⟨by omega,by omega,h2⟩
            · exact ⟨by omega,h2,by rw [hF x (fun _=>h1) h2];exact hc.1⟩
          · rintro ⟨h0,h1,h2⟩
            by_cases hx : x < last
            · exact .inl ⟨hk0,hx,h2⟩
            · exact .inr ⟨by omega,h1⟩
        · simp only [if_pos hc]
          have:=qlx out last ys[k].at_
          omega
      · constructor
        · rfl
        · rfl
        · intro h _;rfl
        · simp only [if_neg hc];exact s4
        · simp only [if_neg hc]
          intro t ht
          rcases Nat.eq_zero_or_pos k with h | h
          · rw [s6 h] at ht;cases ht
          · have:=s5 t ht;have:=hlast h;omega
        · omega
        · intro x
          simp only [if_neg hc]
          rw [s7]
          constructor
          · rintro ⟨h0,h1,h2⟩
            exact ⟨by omega,by have:=hlast h0;omega,h2⟩
          · rintro ⟨h0,h1,h2⟩
            by_cases hx : 0 < k∧x < last
            · exact ⟨hx.1,hx.2,h2⟩
            · have hx' : 0 < k→last≤x:=fun h=>by
                refine Int.not_lt.1 fun h'=>hx ⟨h,h'⟩
              have:=hF x hx' h1
              rw [this] at h2
              refine absurd ⟨h2,?_⟩ hc
              intro e
              rcases Nat.eq_zero_or_pos k with h | h
              · rw [hin0 h] at h2;cases h2
              · have:=hx' h;omega
        · simp only [if_neg hc];omega
  · rintro ⟨opn,last,inn,out⟩ ⟨s1,s2,s3,s4,s5,s6,s7,s8⟩
    simp only at s1 s2 s3 s4 s5 s6 s7 s8
    have hb1 : decide ((ys.length : Int) < (ys.length : Int)) = false:=decide_eq_false (by omega)
    refine ⟨out,by simp only [q3y,hb1,cond_false],s4,fun x=>?_⟩
    rw [s7]
    constructor
    · rintro ⟨_,_,h⟩;exact h
    · intro h
      by_cases hx : 0 < ys.length∧x < last
      · exact ⟨hx.1,hx.2,h⟩
      · obtain ⟨c1, c2⟩ := qfx vp vq hperm hs ys.length x (fun i hi _ => by
            have:=s3 (by omega) (by omega)
            have:=hle i (ys.length - 1) hi (by omega) (by omega)
            have : last≤x:=Int.not_lt.1 fun h'=>hx ⟨by omega,h'⟩
            omega) (fun i hi hi2=>by omega)
        have tot : ∀ l,cnt l (fun _=>true) (ys.take ys.length) = 0:=by
          intro l
          rw [List.take_length,qg1 hperm,q16]
          by_cases h0 : l = 0
          · subst h0;rw [qg2,q6s (by decide)];rfl
          · rw [q6s h0]
            by_cases h1 : l = 1
            · subst h1;rw [qg2];rfl
            · rw [q6s h1];rfl
        rw [tot] at c1 c2
        have n1 : ¬ has p x:=fun h=>absurd (c1.2 h) (by decide)
        have n2 : ¬ has q x:=fun h=>absurd (c2.2 h) (by decide)
        rw [decide_eq_false n1,decide_eq_false n2,hf] at h
        cases h
  · constructor
    · simp [cnt]
    · simp [cnt,hf]
    · intro h h0;omega
    · exact ⟨fun t ht=>(by cases ht),.nil⟩
    · intro t ht;cases ht
    · intro _;rfl
    · intro x;simp [has]
    · simp
end Go.Sh
namespace Go.Sh
open Go Go.Am
theorem qn8 {s : List qk} (h : Jn s = 0) : s.length≤400∧Good s:=by
  unfold Jn at h
  split at h
  · cases h
  · split at h
    · rename_i h1 h2;exact ⟨by omega,h2⟩
    · cases h
def dst (x : Int) (t : qk) : Int:=max (max (t.Lo - x) (x - t.Hi + 1)) 0
end Go.Sh
namespace Go.Sh
open Go Go.Am
noncomputable def q2p (kind : Int) (p q : List qk) : List qk:=(qan kind p q).getD []
theorem q77 (kind : Int) (p q : List qk) (hp : p.length≤100000) (hq : q.length≤100000) : qan kind p q = some (q2p kind p q)∧qbp kind p q (q2p kind p q):=by
  obtain ⟨out,h1,h2⟩:=qpj kind p q hp hq
  unfold q2p
  rw [h1];exact ⟨rfl,h2⟩
theorem qp6 (s : List qk) (p1 : qk→Option Bool) (c : qk→Bool) (h : ∀ t,p1 t = some (c t)) (hl : s.length≤1000000) :
    ∃ r,q88 s p1 = some r∧decide (r ≥ 0) = s.any c:=by
  have:=Zd (f:=q1z s p1) (σ:=Unit) (fun k _=>(k : Int)) s.length (fun k _=>∀ i (h : i < s.length),i < k→c s[i] = false)
    (fun m=>∃ r : Int,(match m with | .inl b22=>some (-1) | .inr x1=>some x1) = some r∧decide (r ≥ 0) = s.any c) ?_ ?_ (k0:=0) (c0:=()) (by omega) (fun i _ hi=>by omega)
  · obtain ⟨m,h1,r,h2,h3⟩:=this
    have h1 : loop (q1z s p1) 0 = some m:=h1
    exact ⟨r,by unfold q88;rw [h1];exact h2,h3⟩
  · rintro k _ hk hi
    have hb : decide ((k : Int) < (s.length : Int)) = true:=decide_eq_true (by omega)
    cases hc : c s[k] with
    | true=>
      refine .inr ⟨.inr (k : Int),?_,(k : Int),rfl,?_⟩
      · simp only [q1z,hb,cond_true,Ql hk,Option.bind_some,h,hc]
      · have : s.any c = true:=List.any_eq_true.2 ⟨s[k],List.getElem_mem hk,hc⟩
        rw [this];exact decide_eq_true (by omega)
    | false=>
      refine .inl ⟨(),?_,?_⟩
      · simp only [q1z,hb,cond_true,Ql hk,Option.bind_some,h,hc,cond_false]
        rw [qu (by omega)];rfl
      · intro i hi1 hi2
        by_cases e : i = k
        · subst e;exact hc
        · exact hi i hi1 (by omega)
  · rintro _ hi
    have hb : decide ((s.length : Int) < (s.length : Int)) = false:=decide_eq_false (by omega)
    refine ⟨.inl (),by simp only [q1z,hb,cond_false],-1,rfl,?_⟩
    have : s.any c = false:=by
      rw [List.any_eq_false]
      intro t ht
      obtain ⟨i,hi1,rfl⟩:=List.mem_iff_getElem.1 ht
      simp [hi i hi1 hi1]
    rw [this];rfl
theorem qnr (s : List qk) (p1 : qk→Option Bool) (c : qk→Bool) (h : ∀ t,p1 t = some (c t)) (hl : s.length≤1000000) : q84 s p1 = some (s.any c):=by
  obtain ⟨r,h1,h2⟩:=qp6 s p1 c h hl
  unfold q84
  rw [h1,Option.bind_some,h2]
open Classical in
noncomputable def qd3 (s : List qk) : List qk × Int:=if 400 < s.length then ([],4) else if ∀ t∈s,vld t then (q2p 2 s [],0) else ([],8)
theorem qpy (s : List qk) (hl : s.length≤400) (hv : ∀ t∈s,vld t) (p2 : Bool→Bool→Option Bool) (hp2 : ∀ a b,p2 a b = some a) : q6m s [] p2 = some (q2p 2 s []):=by
  classical
  obtain ⟨out,h1,h2,h3⟩:=qpd (fun a _=>a) rfl p2 hp2 s [] (by omega) (by simp) hv (fun t ht=>by cases ht)
  obtain ⟨_,j⟩:=q77 2 s [] (by omega) (by simp)
  rw [h1]
  congr 1
  refine q6q h2 j.can fun x=>?_
  rw [h3,j.pts]
  simp [Kl,Us]
theorem qpx (s : List qk) : q6l s = some (qd3 s):=by
  classical
  unfold q6l qd3
  by_cases hl : 400 < s.length
  · have e : decide ((s.length : Int) > 400) = true:=decide_eq_true (by omega)
    rw [e,if_pos hl];rfl
  · have e : decide ((s.length : Int) > 400) = false:=decide_eq_false (by omega)
    rw [e,if_neg hl,cond_false,qnr s _ (fun t=>!decide (vld t)) (fun t=>by show (q25 t).bind _ = _;rw [qlh];rfl) (by omega),Option.bind_some]
    by_cases hv : ∀ t∈s,vld t
    · have : (s.any fun t=>!decide (vld t)) = false:=by
        rw [List.any_eq_false];intro t ht;simp [hv t ht]
      rw [this,cond_false,if_pos hv,qpy s (by omega) hv (fun x0 x1=>q93 x0 x1) (fun a b=>rfl)]
      rfl
    · have : (s.any fun t=>!decide (vld t)) = true:=by
        rw [List.any_eq_true]
        obtain ⟨t,hv⟩:=Classical.not_forall.1 hv
        obtain ⟨ht,h⟩:=Classical.not_imp.1 hv
        exact ⟨t,ht,by simp [h]⟩
      rw [this,cond_true,if_neg hv]
def lenL : List qk→Int
  | []=>0
  | t::s=>(t.Hi - t.Lo) + lenL s
theorem qi0 (a b : List qk) : lenL (a ++ b) = lenL a + lenL b:=by
  induction a with
  | nil=>simp [lenL]
  | cons t a ih=>simp only [List.cons_append,lenL,ih];omega
theorem qi1 : ∀ {s : List qk},(∀ t∈s,vld t)→0≤lenL s∧lenL s≤2000000 * (s.length : Int)
  | [],_=>by simp [lenL]
  | t::s,h=>by
    obtain ⟨h1,h2⟩:=qi1 (fun t ht=>h t (List.mem_cons_of_mem _ ht))
    obtain ⟨v1,v2,v3⟩:=h t (by simp)
    simp only [lenL,List.length_cons]
    omega
noncomputable def qcz (s : List qk) : Int × Int:=if Jn s = 0 then (lenL s,0) else (0,Jn s)
theorem qpm (s : List qk) (hl : s.length≤400) (hv : ∀ t∈s,vld t) : loop (q92 s) (0,0) = some (lenL s)∧loop (q7j s) (0,0) = some (lenL s):=by
  have hb0 : ∀ k,0≤lenL (s.take k)∧lenL (s.take k)≤800000000:=by
    intro k
    have:=qi1 (s:=s.take k) (fun t ht=>hv t (List.mem_of_mem_take ht))
    have : (s.take k).length≤400:=by rw [List.length_take];omega
    omega
  constructor
  · have:=Zd (f:=q92 s) (σ:=Int) (fun k c=>(c,(k : Int))) s.length (fun k c=>c = lenL (s.take k)) (fun r=>r = lenL s) ?_ ?_ (k0:=0) (c0:=0) (by omega) (by simp [lenL])
    · obtain ⟨b,h1,rfl⟩:=this;exact h1
    · rintro k c hk rfl
      have hb : decide ((k : Int) < (s.length : Int)) = true:=decide_eq_true (by omega)
      obtain ⟨v1,v2,v3⟩:=hv _ (List.getElem_mem hk)
      have:=hb0 k
      refine .inl ⟨lenL (s.take (k + 1)),?_,rfl⟩
      simp only [q92,hb,cond_true,Ql hk,Option.bind_some]
      rw [qu (x:=s[k].Hi - s[k].Lo) (by omega),qu (x:=lenL (s.take k) + _) (by omega),qu (by omega),List.take_succ_eq_append_getElem hk,qi0]
      simp only [lenL,Int.add_zero];rfl
    · rintro c rfl
      have hb : decide ((s.length : Int) < (s.length : Int)) = false:=decide_eq_false (by omega)
      exact ⟨_,by simp only [q92,hb,cond_false];rfl,by rw [List.take_length]⟩
  · have:=Zd (f:=q7j s) (σ:=Int) (fun k c=>(c,(k : Int))) s.length (fun k c=>c = lenL (s.take k)) (fun r=>r = lenL s) ?_ ?_ (k0:=0) (c0:=0) (by omega) (by simp [lenL])
    · obtain ⟨b,h1,rfl⟩:=this;exact h1
    · rintro k c hk rfl
      have hb : decide ((k : Int) < (s.length : Int)) = true:=decide_eq_true (by omega)
      obtain ⟨v1,v2,v3⟩:=hv _ (List.getElem_mem hk)
      have:=hb0 k
      refine .inl ⟨lenL (s.take (k + 1)),?_,rfl⟩
      simp only [q7j,hb,cond_true,Ql hk,Option.bind_some]
      rw [qu (x:=lenL (s.take k) + s[k].Hi) (by omega),qu (x:=lenL (s.take k) + s[k].Hi - _) (by omega),qu (by omega),List.take_succ_eq_append_getElem hk,qi0]
      have : lenL (s.take k) + s[k].Hi - s[k].Lo = lenL (s.take k) + lenL [s[k]]:=by simp only [lenL];omega
      rw [this];rfl
    · rintro c rfl
      have hb : decide ((s.length : Int) < (s.length : Int)) = false:=decide_eq_false (by omega)
      exact ⟨_,by simp only [q7j,hb,cond_false];rfl,by rw [List.take_length]⟩
theorem qzr (s : List qk) : qkr s = some (qcz s)∧qj8 s = some (qcz s):=by
  unfold qkr qj8 qcz
  simp only [qfs,qry,Option.bind_some]
  by_cases h : Jn s = 0
  · obtain ⟨hl,hg⟩:=qn8 h
    obtain ⟨a,b⟩:=qpm s hl hg.1
    have e : (Jn s != 0) = false:=by simpa using h
    simp only [e,cond_false,a,b,Option.bind_some]
    simp only [h,if_true]
    exact ⟨trivial,trivial⟩
  · have e : (Jn s != 0) = true:=by simpa using h
    simp only [e,cond_true,if_neg h]
    exact ⟨trivial,trivial⟩
end Go.Sh
