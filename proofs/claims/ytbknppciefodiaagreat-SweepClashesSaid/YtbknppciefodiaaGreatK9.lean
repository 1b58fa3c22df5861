/- Pl1 Pl2 Pl3 Pg0 Pg1 Pg2 Pg3 -/
import Derived.Test.YtbknppciefodiaaGreatK8
import Derived.Sort.AssemblyPlain
import Derived.Sort.LotD5
namespace Go.Sh
open Go Go.Am
def has (s : List qj) (x : Int) : Prop:=∃ t∈s,t.Lo≤x∧x < t.Hi
def Can (s : List qj) : Prop:=(∀ t∈s,t.Lo < t.Hi)∧s.Pairwise (fun a b=>a.Hi < b.Lo)
def vld (t : qj) : Prop:=t.Lo < t.Hi∧-1000000≤t.Lo∧t.Hi≤1000000
instance (t : qj) : Decidable (vld t):=by unfold vld;exact inferInstance
def Good (s : List qj) : Prop:=(∀ t∈s,vld t)∧s.Pairwise (fun a b=>a.Hi < b.Lo)
theorem Good.can {s : List qj} (h : Good s) : Can s:=⟨fun t a=>(h.1 t a).1,h.2⟩
theorem q1b (x : Int) : ¬ has [] x:=by rintro ⟨t,h,_⟩;cases h
theorem Zg {a : qj} {s : List qj} {x : Int} : has (a::s) x↔(a.Lo≤x∧x < a.Hi)∨has s x:=by
  constructor
  · rintro ⟨t,b,h⟩
    rcases List.mem_cons.1 b with rfl | b
    · exact .inl h
    · exact .inr ⟨t,b,h⟩
  · rintro (h | ⟨t,b,h⟩)
    · exact ⟨a,qe,h⟩
    · exact ⟨t,by simp [b],h⟩
theorem qrt {a b : List qj} {x : Int} : has (a ++ b) x↔has a x∨has b x:=by
  induction a with
  | nil=>simp [q1b]
  | cons t r ih=>simp only [List.cons_append,Zg,ih,or_assoc]
theorem Can.tail {a : qj} {s : List qj} (h : Can (a::s)) : Can s:=⟨fun t b=>h.1 t (by simp [b]),(List.pairwise_cons.1 h.2).2⟩
theorem Can.lt {a : qj} {s : List qj} (h : Can (a::s)) : ∀ t∈s,a.Hi < t.Lo:=(List.pairwise_cons.1 h.2).1
theorem Can.tail_gt {a : qj} {s : List qj} (h : Can (a::s)) {x : Int} (b : has s x) : a.Hi < x:=by
  obtain ⟨t,c,f,d⟩:=b
  have:=h.lt t c
  omega
theorem q4s : ∀ {s t : List qj},Can s→Can t→(∀ x,has s x↔has t x)→s = t
  | [],[],_,_,_=>rfl
  | [],b::t,_,c,h=>absurd ((h b.Lo).2 (Zg.2 (.inl ⟨Int.le_refl _,c.1 b qe⟩))) (q1b _)
  | a::s,[],hs,_,h=>absurd ((h a.Lo).1 (Zg.2 (.inl ⟨Int.le_refl _,hs.1 a qe⟩))) (q1b _)
  | a::s,b::t,hs,c,h=>by
    have m:=hs.1 a qe
    have hb:=c.1 b qe
    have lo : ∀ {a b : qj} {s t : List qj},Can (a::s)→Can (b::t)→(∀ x,has (a::s) x↔has (b::t) x)→b.Lo≤a.Lo:=by
      intro a b s t hs c h
      rcases Zg.1 ((h a.Lo).1 (Zg.2 (.inl ⟨Int.le_refl _,hs.1 a qe⟩))) with d | d
      · exact d.1
      · have:=c.tail_gt d;have:=c.1 b qe;omega
    have j : a.Lo = b.Lo:=Int.le_antisymm (lo c hs fun x=>(h x).symm) (lo hs c h)
    have hi : ∀ {a b : qj} {s t : List qj},Can (a::s)→Can (b::t)→(∀ x,has (a::s) x↔has (b::t) x)→a.Lo = b.Lo→b.Hi≤a.Hi:=by
      intro a b s t hs c h e
      have m:=hs.1 a qe
      have hb:=c.1 b qe
      refine Int.not_lt.1 fun k=>?_
      rcases Zg.1 ((h a.Hi).2 (Zg.2 (.inl ⟨q0,k⟩))) with d | d
      · omega
      · have:=hs.tail_gt d;omega
    have l : a.Hi = b.Hi:=Int.le_antisymm (hi c hs (fun x=>(h x).symm) j.symm) (hi hs c h j)
    have e : a = b:=by cases a;cases b;simp at j l;simp [j,l]
    subst e
    congr 1
    refine q4s hs.tail c.tail fun x=>⟨fun f=>?_,fun f=>?_⟩
    · have d:=hs.tail_gt f
      rcases Zg.1 ((h x).1 (Zg.2 (.inr f))) with g | g
      · omega
      · exact g
    · have d:=c.tail_gt f
      rcases Zg.1 ((h x).2 (Zg.2 (.inr f))) with g | g
      · omega
      · exact g
theorem qo9 (t : qj) : q2z t = some (decide (vld t)):=by
  unfold q2z vld
  by_cases a : t.Lo < t.Hi <;> by_cases c : -1000000≤t.Lo <;> by_cases b : t.Hi≤1000000 <;> simp [a,c,b]
open Classical in
noncomputable def Yi (s : List qj) : Int:=if 400 < s.length then 4 else if Good s then 0 else 8
def qh0 (s : List qj) (k : Nat) : Prop:=(∀ i (h : i < s.length),i < k→vld s[i])∧∀ i (h : i + 1 < s.length),i + 1 < k→s[i].Hi < s[i+1].Lo
theorem qrk {s : List qj} (h : qh0 s s.length) : Good s:=by
  refine ⟨fun t b=>?_,?_⟩
  · obtain ⟨i,hi,rfl⟩:=List.mem_iff_getElem.1 b
    exact h.1 i hi hi
  · have key : ∀ i j (hi : i < s.length) (a : j < s.length),i < j→s[i].Hi < s[j].Lo:=by
      intro i j hi a c
      induction j with
      | zero=>omega
      | succ j ih=>
        have d:=h.2 j a a
        by_cases e : i = j
        · subst e;exact d
        · have f:=ih q0 q0
          have g:=(h.1 j q0 q0).1
          omega
    rw [List.pairwise_iff_getElem]
    exact key
theorem Good.get {s : List qj} (h : Good s) (i : Nat) (hi : i < s.length) : vld s[i]:=h.1 _ (List.getElem_mem hi)
theorem Good.nxt {s : List qj} (h : Good s) (i j : Nat) (hi : i < s.length) (b : j < s.length) (a : i < j) : s[i].Hi < s[j].Lo:=List.pairwise_iff_getElem.1 h.2 i j hi b a
theorem qe6 (s : List qj) : q2x s = some (Yi s):=by
  unfold q2x Yi
  by_cases n : 400 < s.length
  · have : decide ((s.length : Int) > 400) = true:=by simp;omega
    simp [this,n]
  · have hd : decide ((s.length : Int) > 400) = false:=by simp;omega
    simp only [hd,n,if_false,cond_false]
    have:=Zs (f:=q1q s) (σ:=Unit) (fun k _=>(k : Int)) s.length (fun k _=>qh0 s k) (fun b=>(b = .inl ()∧Good s)∨(b = .inr 8∧¬ Good s)) ?_ ?_ (k0:=0) (c0:=()) q0 ⟨fun i _ h=>q0,fun i _ h=>q0⟩
    · obtain ⟨b,l,g⟩:=this
      have l : loop (q1q s) 0 = some b:=l
      rw [l]
      rcases g with ⟨rfl,g⟩ | ⟨rfl,g⟩ <;> simp [g]
    · intro k _ m d
      have hb : decide ((k : Int) < (s.length : Int)) = true:=by simp;omega
      simp only [q1q,hb,cond_true,Qi m,Option.bind_some,qo9]
      have bad : ¬ Good s→∃ b,(some (Sum.inr (Sum.inr 8)) : Option (Int ⊕ (Unit ⊕ Int))) = some (.inr b)∧((b = .inl ()∧Good s)∨(b = .inr 8∧¬ Good s)):=fun h=>⟨_,rfl,.inr ⟨rfl,h⟩⟩
      by_cases c : vld s[k]
      · simp only [c,decide_true,Bool.not_true,cond_false]
        by_cases o : k = 0
        · subst o
          refine .inl ⟨(),by simp [Qe],⟨fun i hi h=>?_,fun i hi h=>q0⟩⟩
          (obtain rfl : i = 0:=by omega)
          exact c
        · obtain ⟨j,rfl⟩ : ∃ j,k = j + 1:=⟨k - 1,q0⟩
          have hp : decide (((j + 1 : Nat) : Int) > 0) = true:=decide_eq_true q0
          have p : idx s (w64 (((j + 1 : Nat) : Int) - 1)) = some (s[j]'(q0)):=by
            rw [Qe q0];exact Zr q0 q0
          simp only [hp,cond_true,p,Option.bind_some]
          by_cases a : s[j].Hi < s[j+1].Lo
          · have : decide (s[j].Hi ≥ s[j+1].Lo) = false:=by simp;omega
            simp only [this,cond_false]
            rw [Qe q0]
            refine .inl ⟨(),rfl,⟨fun i hi h=>?_,fun i hi h=>?_⟩⟩
            · by_cases e : i = j + 1
              · subst e;exact c
              · exact d.1 i hi q0
            · by_cases e : i = j
              · subst e;exact a
              · exact d.2 i hi q0
          · have : decide (s[j].Hi ≥ s[j+1].Lo) = true:=by simp;omega
            simp only [this,cond_true]
            exact .inr (bad fun h=>a (h.nxt j (j + 1) q0 m q0))
      · simp only [c,decide_false,Bool.not_false,cond_true,Option.bind_some]
        exact .inr (bad fun h=>c (h.get k m))
    · intro _ d
      have hb : decide ((s.length : Int) < (s.length : Int)) = false:=by simp
      simp only [q1q,hb,cond_false]
      exact ⟨_,rfl,.inl ⟨rfl,qrk d⟩⟩
theorem qv8 : qln = q2z:=rfl
theorem qv4 (s : List qj) : qfw s = q1q s:=by
  funext a
  unfold qfw q1q
  cases h : idx s a <;> simp [h,qv8]
theorem qv7 (s : List qj) : qc6 s = some (Yi s):=by
  rw [← qe6];unfold qc6 q2x;rw [qv4]
open Classical in
theorem qll (s : List qj) (x : Int) (l : s.length≤1000000) : qc7 s x = some (decide (has s x)):=by
  have:=Zs (f:=q8x s x) (σ:=Unit) (fun k _=>(k : Int)) s.length (fun k _=>∀ i (h : i < s.length),i < k→¬ (s[i].Lo≤x∧x < s[i].Hi)) (fun b=>(b = .inl ()∧¬ has s x)∨(b = .inr true∧has s x)) ?_ ?_ (k0:=0) (c0:=()) q0 (fun i _ h=>q0)
  · obtain ⟨b,c,a⟩:=this
    have c : loop (q8x s x) 0 = some b:=c
    unfold qc7
    rw [c]
    rcases a with ⟨rfl,a⟩ | ⟨rfl,a⟩ <;> simp [a]
  · intro k _ g d
    have hb : decide ((k : Int) < (s.length : Int)) = true:=decide_eq_true q0
    simp only [q8x,hb,cond_true,Qi g,Option.bind_some]
    by_cases c : s[k].Lo≤x <;> by_cases a : x < s[k].Hi
    · exact .inr ⟨.inr true,by simp [c,a],.inr ⟨rfl,s[k],List.getElem_mem g,c,a⟩⟩
    all_goals
      refine .inl ⟨(),by simp [c,a];exact Qe q0,fun i hi h=>?_⟩
      by_cases e : i = k
      · subst e;omega
      · exact d i hi q0
  · intro _ d
    have hb : decide ((s.length : Int) < (s.length : Int)) = false:=decide_eq_false q0
    simp only [q8x,hb,cond_false]
    refine ⟨_,rfl,.inl ⟨rfl,?_⟩⟩
    rintro ⟨t,j,h⟩
    obtain ⟨i,hi,rfl⟩:=List.mem_iff_getElem.1 j
    exact d i hi hi h
end Go.Sh
namespace Go.Sh
open Go Go.Am
theorem qry (out : List Int) (v : Int) (b : Nat) (hb : b≤out.length) :
    (cpyw (out ++ [0]) (b + 1,(out ++ [0]).length - (b + 1)) ((((out ++ [0]).drop b).take ((out ++ [0]).length - b)))).set b v = out.take b ++ v::out.drop b:=by
  have f : ((out ++ [0]).drop b).take ((out ++ [0]).length - b) = (out ++ [0]).drop b:=List.take_of_length_le qe
  rw [f]
  unfold cpyw splice
  have g : (min ((out ++ [0]).drop b).length ((out ++ [0]).length - (b + 1))) = out.length - b:=by simp;omega
  simp only [g]
  have d : ((out ++ [0]).drop b).take (out.length - b) = out.drop b:=by
    rw [List.drop_append_of_le_length hb,List.take_append_of_le_length qe]
    exact List.take_of_length_le qe
  rw [d]
  have j : (out ++ [0]).drop (b + 1 + (out.drop b).length) = []:=by
    apply List.drop_of_length_le;simp;omega
  rw [j,List.append_nil]
  have h : ∃ y,(out ++ [0]).take (b + 1) = out.take b ++ [y]:=by
    refine ⟨(out ++ [0])[b]'(by simp;omega),?_⟩
    rw [List.take_succ_eq_append_getElem (by simp;omega),List.take_append_of_le_length hb]
  obtain ⟨y,c⟩:=h
  have key : ∀ (xs ys : List Int) (y v : Int),(xs ++ (y::ys)).set xs.length v = xs ++ v::ys:=by
    intro xs ys y v
    induction xs with
    | nil=>rfl
    | cons x xs ih=>simp [ih]
  have a : (out.take b).length = b:=by simp;omega
  rw [c,List.append_assoc]
  have:=key (out.take b) (out.drop b) y v
  rw [a] at this
  exact this
def Yq (l out : List Int) : Prop:=out.Pairwise (· < ·)∧∀ x,x∈out↔x∈l
theorem q11e (a : Int × List Int) (l : List Int) (i : Nat) (hi : i < l.length) (r : a.1 = i) (o : a.2.length≤1000000) (hs : a.2.Pairwise (· < ·)) :
    ∃ b : Int,loop (q3n a l) (a.2.length : Int) = some b∧∃ k : Nat,b = k∧k≤a.2.length∧(∀ j (h : j < a.2.length),k≤j→l[i] < a.2[j])∧(∀ j (h : j < a.2.length),j < k→a.2[j]≤l[i]):=by
  refine qsk (fun b : Int=>∃ k : Nat,b = k∧k≤a.2.length∧(∀ j (h : j < a.2.length),k≤j→l[i] < a.2[j])) (fun b=>b.toNat) _ ?_ ⟨a.2.length,rfl,q0,fun j h f=>q0⟩
  rintro b ⟨k,rfl,q,c⟩
  cases k with
  | zero=>
    refine .inr ⟨0,?_,0,rfl,q0,c,fun j h f=>q0⟩
    simp [q3n]
  | succ k=>
    have m : decide (((k + 1 : Nat) : Int) > 0) = true:=decide_eq_true q0
    have p : idx a.2 (w64 (((k + 1 : Nat) : Int) - 1)) = some (a.2[k]'(q0)):=by rw [Qe q0];exact Zr q0 q0
    have n : idx l a.1 = some l[i]:=by rw [r];exact Qi hi
    have g : k < a.2.length:=by omega
    by_cases d : a.2[k] > l[i]
    · refine .inl ⟨(k : Int),?_,⟨k,rfl,q0,fun j h f=>?_⟩,qe⟩
      · simp only [q3n,m,p,n,cond_true,Option.bind_some,d,decide_true]
        rw [Qe q0]
        congr 2;omega
      · by_cases e : j = k
        · subst e;exact d
        · exact c j h q0
    · refine .inr ⟨((k + 1 : Nat) : Int),?_,k + 1,rfl,q,c,fun j h f=>?_⟩
      · simp only [q3n,m,p,n,cond_true,Option.bind_some,d,decide_false,cond_false]
      · by_cases e : j = k
        · subst e;omega
        · have : a.2[j] < a.2[k]:=List.pairwise_iff_getElem.1 hs j k h g q0
          omega
theorem qny {l out : List Int} {v : Int} {i : Nat} (hi : i < l.length) (c : l[i] = v) (h : Yq (l.take i) out) (a : List Int) (hs : a.Pairwise (· < ·)) (b : ∀ x,x∈a↔x∈out∨x = v) : Yq (l.take (i + 1)) a:=by
  refine ⟨hs,fun x=>?_⟩
  rw [b,h.2,List.take_succ_eq_append_getElem hi]
  simp [c]
theorem qnd (l : List Int) (hl : l.length≤1000000) : ∃ t,Jr l = some t∧Yq l t∧t.length≤l.length:=by
  have:=Zs (f:=q3m l) (σ:=List Int) (fun k c=>((k : Int),c)) l.length (fun k c=>Yq (l.take k) c∧c.length≤k) (fun t=>Yq l t∧t.length≤l.length) ?_ ?_ (k0:=0) (c0:=[]) q0 ⟨⟨.nil,qe⟩,qe⟩
  · obtain ⟨b,g,o⟩:=this
    have g : loop (q3m l) (0,[]) = some b:=g
    exact ⟨b,by unfold Jr;rw [g];rfl,o⟩
  · intro k c hk a
    obtain ⟨a,am⟩:=a
    have hb : decide ((k : Int) < (l.length : Int)) = true:=decide_eq_true q0
    obtain ⟨b,s,j,rfl,hj,p,n⟩:=q11e ((k : Int),c) l k hk rfl (by simp;omega) a.1
    simp only at hj p n s
    refine .inl ?_
    simp only [q3m,hb,cond_true,s,Option.bind_some,Qi hk]
    have hw : w64 ((k : Int) + 1) = ((k + 1 : Nat) : Int):=by rw [Qe q0];omega
    by_cases q : 0 < j∧∃ h : j - 1 < c.length,c[j-1] = l[k]
    · obtain ⟨r,d,he⟩:=q
      have v : decide ((j : Int) > 0) = true:=decide_eq_true q0
      have g : idx c (w64 ((j : Int) - 1)) = some (c[j-1]):=by rw [Qe q0];exact Zr q0 d
      refine ⟨c,by simp only [v,g,cond_true,Option.bind_some,he,beq_self_eq_true,hw],?_,q0⟩
      refine qny hk rfl a c a.1 fun x=>⟨.inl,?_⟩
      rintro (h | rfl)
      · exact h
      · rw [← he];exact List.getElem_mem d
    · have hc : (cond (decide ((j : Int) > 0)) ((idx c (w64 ((j : Int) - 1))).bind fun u=>some (u == l[k])) (some false)) = some false:=by
        by_cases r : 0 < j
        · have d : j - 1 < c.length:=by omega
          have v : decide ((j : Int) > 0) = true:=decide_eq_true q0
          have g : idx c (w64 ((j : Int) - 1)) = some (c[j-1]):=by rw [Qe q0];exact Zr q0 d
          simp only [v,g,cond_true,Option.bind_some]
          have : c[j-1]≠l[k]:=fun e=>q ⟨r,d,e⟩
          simp [this]
        · have v : decide ((j : Int) > 0) = false:=decide_eq_false q0
          simp only [v,cond_false]
      have ad : app 8 c [0] = some (c ++ [0]):=Ky (by simp;omega)
      have ab : sub2 (c ++ [0]).length (w64 ((j : Int) + 1)) ((c ++ [0]).length : Int) = some (j + 1,(c ++ [0]).length - (j + 1)):=by
        rw [Qe q0];unfold sub2
        rw [if_pos ⟨q0,by simp;omega,q0⟩]
        congr 2
      have af : sub2 (c ++ [0]).length (j : Int) ((c ++ [0]).length : Int) = some (j,(c ++ [0]).length - j):=by
        unfold sub2
        rw [if_pos ⟨q0,by simp;omega,q0⟩]
        congr 2
      simp only [hc,Option.bind_some,cond_false,ad,ab,af]
      have w : j < (cpyw (c ++ [0]) (j + 1,(c ++ [0]).length - (j + 1)) (((c ++ [0]).drop j).take ((c ++ [0]).length - j))).length:=by
        rw [qij (by simp;omega)];simp;omega
      rw [Qi w]
      simp only [Option.bind_some,Int.toNat_natCast,qry c l[k] j hj,hw]
      refine ⟨_,rfl,?_,by simp;omega⟩
      refine qny hk rfl a _ ?_ fun x=>?_
      · rw [List.pairwise_append]
        refine ⟨a.1.sublist (List.take_sublist _ _),?_,?_⟩
        · rw [List.pairwise_cons]
          refine ⟨fun y hy=>?_,a.1.sublist (List.drop_sublist _ _)⟩
          obtain ⟨i,hi,rfl⟩:=List.mem_iff_getElem.1 hy
          rw [List.getElem_drop]
          exact p _ _ q0
        · intro y hy z hz
          obtain ⟨i,hi,rfl⟩:=List.mem_iff_getElem.1 hy
          rw [List.getElem_take]
          simp at hi
          have g:=n i q0 q0
          have o : c[i]≠l[k]∧c[i] < l[k]∨c[i] = l[k]:=by omega
          have h3 : c[i] < l[k]:=by
            rcases o with o | o
            · exact o.2
            · exfalso
              by_cases e : i = j - 1
              · subst e;exact q ⟨q0,q0,o⟩
              · have : c[i] < c[j-1]'(q0):=List.pairwise_iff_getElem.1 a.1 i (j-1) q0 q0 q0
                have:=n (j-1) q0 q0
                omega
          rcases List.mem_cons.1 hz with rfl | hz
          · exact h3
          · obtain ⟨m,hm,rfl⟩:=List.mem_iff_getElem.1 hz
            rw [List.getElem_drop]
            simp at hm
            have:=p (j + m) q0 q0
            omega
      · constructor
        · intro h
          rcases List.mem_append.1 h with h | h
          · exact .inl (List.mem_of_mem_take h)
          · rcases List.mem_cons.1 h with h | h
            · exact .inr h
            · exact .inl (List.mem_of_mem_drop h)
        · rintro (h | rfl)
          · rw [← List.take_append_drop j c] at h
            rcases List.mem_append.1 h with h | h
            · exact List.mem_append_left _ h
            · exact List.mem_append_right _ (List.mem_cons_of_mem _ h)
          · simp
  · intro c a
    have hb : decide ((l.length : Int) < (l.length : Int)) = false:=decide_eq_false q0
    simp only [q3m,hb,cond_false]
    refine ⟨_,rfl,by simpa using a.1,a.2⟩
def ends (s : List qj) : List Int:=s.flatMap fun t=>[t.Lo,t.Hi]
theorem q8s {s : List qj} {x : Int} : x∈ends s↔∃ t∈s,x = t.Lo∨x = t.Hi:=by simp [ends]
theorem qqs {s : List qj} {k : Nat} (h : k < s.length) : ends (s.take (k + 1)) = ends (s.take k) ++ [s[k].Lo,s[k].Hi]:=by
  unfold ends;rw [List.take_succ_eq_append_getElem h,List.flatMap_append];simp
theorem qbm (s : List qj) : (ends s).length = 2 * s.length:=by
  induction s with
  | nil=>rfl
  | cons t r ih=>simp only [ends,List.flatMap_cons,List.length_append,List.length_cons,List.length_nil] at ih ⊢;omega
theorem qio (s : List qj) (c0 : List Int) (hs : s.length≤100000) (g : c0.length≤200000) : loop (q8w s) (0,c0) = some (c0 ++ ends s):=by
  have:=Zs (f:=q8w s) (σ:=List Int) (fun k c=>((k : Int),c)) s.length (fun k c=>c = c0 ++ ends (s.take k)) (fun t=>t = c0 ++ ends s) ?_ ?_ (k0:=0) (c0:=c0) q0 (by simp [ends])
  · obtain ⟨b,d,rfl⟩:=this;exact d
  · rintro k c a rfl
    have hb : decide ((k : Int) < (s.length : Int)) = true:=decide_eq_true q0
    refine .inl ⟨c0 ++ ends (s.take (k + 1)),?_,rfl⟩
    simp only [q8w,hb,cond_true,Qi a,Option.bind_some]
    rw [Ky (by simp [qbm];omega),Qe q0,qqs a]
    simp
  · rintro c rfl
    have hb : decide ((s.length : Int) < (s.length : Int)) = false:=decide_eq_false q0
    simp [q8w,hb]
theorem qqr (p q : List qj) (hp : p.length≤100000) (d : q.length≤100000) : ∃ t,qfx p q = some t∧Yq (ends p ++ ends q) t∧t.length≤2 * (p.length + q.length):=by
  have b : loop (qlk q) (0,ends p) = some (ends p ++ ends q):=qio q (ends p) d (by rw [qbm];omega)
  obtain ⟨t,c,a,f⟩:=qnd (ends p ++ ends q) (by simp [qbm];omega)
  refine ⟨t,?_,a,by simp [qbm] at f;omega⟩
  unfold qfx
  rw [qio p [] hp qe]
  simp only [List.nil_append,Option.bind_some,b,c]
end Go.Sh
namespace Go.Sh
open Go Go.Am
def addS (c : List qj) (a b : Int) : List qj:=match c.getLast? with
  | some t=>if t.Hi = a then c.dropLast ++ [{Lo:=t.Lo,Hi:=b}] else c ++ [{Lo:=a,Hi:=b}]
  | none=>[{Lo:=a,Hi:=b}]
theorem qh4 (a b : Int) : addS [] a b = [{Lo:=a,Hi:=b}]:=rfl
theorem qb7 {c : List qj} {t : qj} {b : Int} : addS (c ++ [t]) t.Hi b = c ++ [{Lo:=t.Lo,Hi:=b}]:=by simp [addS]
theorem qb8 {c : List qj} {t : qj} {a b : Int} (h : t.Hi≠a) : addS (c ++ [t]) a b = (c ++ [t]) ++ [{Lo:=a,Hi:=b}]:=by simp [addS,h]
theorem qcy {α : Type} (c : List α) : c = []∨∃ d t,c = d ++ [t]:=by
  rcases List.eq_nil_or_concat c with h | ⟨d,t,h⟩
  · exact .inl h
  · exact .inr ⟨d,t,by simpa using h⟩
theorem qe0 {d : List qj} {t : qj} : Can (d ++ [t])↔Can d∧t.Lo < t.Hi∧∀ s∈d,s.Hi < t.Lo:=by
  unfold Can
  constructor
  · rintro ⟨b,a⟩
    rw [List.pairwise_append] at a
    exact ⟨⟨fun s hs=>b s (by simp [hs]),a.1⟩,b t qe,fun s hs=>a.2.2 s hs t qe⟩
  · rintro ⟨⟨b,a⟩,g,f⟩
    refine ⟨fun s hs=>?_,?_⟩
    · rcases List.mem_append.1 hs with hs | hs
      · exact b s hs
      · simp at hs;subst hs;exact g
    · rw [List.pairwise_append]
      exact ⟨a,qe,fun s hs u c=>by simp at c;subst c;exact f s hs⟩
theorem qex {d : List qj} {t : qj} {x : Int} : has (d ++ [t]) x↔has d x∨(t.Lo≤x∧x < t.Hi):=by
  rw [qrt,Zg];simp [q1b]
theorem qh5 {c : List qj} {a b : Int} (j : Can c) (g : ∀ t∈c,t.Hi≤a) (f : a < b) :
    Can (addS c a b)∧(∀ x,has (addS c a b) x↔has c x∨(a≤x∧x < b))∧(∀ t∈addS c a b,t.Hi≤b)∧(addS c a b).length≤c.length + 1∧
    (∀ t∈addS c a b,(t.Lo = a∨∃ u∈c,t.Lo = u.Lo)∧(t.Hi = b∨∃ u∈c,t.Hi = u.Hi)):=by
  rcases qcy c with rfl | ⟨d,t,rfl⟩
  · rw [qh4]
    refine ⟨⟨by simpa using f,qe⟩,fun x=>?_,qe,qe,qe⟩
    rw [Zg];simp [q1b]
  · have h:=qe0.1 j
    have k : t.Hi≤a:=g t qe
    by_cases e : t.Hi = a
    · subst e
      rw [qb7]
      refine ⟨qe0.2 ⟨h.1,by simp;omega,h.2.2⟩,fun x=>?_,fun s hs=>?_,qe,fun s hs=>?_⟩
      · rw [qex,qex];by_cases hd : has d x <;> simp only [hd,true_or,false_or] <;> omega
      · rcases List.mem_append.1 hs with hs | hs
        · have:=g s (by simp [hs]);omega
        · simp at hs;subst hs;simp
      · rcases List.mem_append.1 hs with hs | hs
        · exact ⟨.inr ⟨s,by simp [hs],rfl⟩,.inr ⟨s,by simp [hs],rfl⟩⟩
        · simp at hs;subst hs;exact ⟨.inr ⟨t,qe,rfl⟩,.inl rfl⟩
    · rw [qb8 e]
      refine ⟨qe0.2 ⟨j,f,fun s hs=>?_⟩,fun x=>?_,fun s hs=>?_,qe,fun s hs=>?_⟩
      · rcases List.mem_append.1 hs with hs | hs
        · have:=h.2.2 s hs;simp only;omega
        · simp at hs;subst hs;simp only;omega
      · rw [qex]
      · rcases List.mem_append.1 hs with hs | hs
        · have:=g s hs;omega
        · simp at hs;subst hs;simp
      · rcases List.mem_append.1 hs with hs | hs
        · exact ⟨.inr ⟨s,hs,rfl⟩,.inr ⟨s,hs,rfl⟩⟩
        · simp at hs;subst hs;exact ⟨.inl rfl,.inl rfl⟩
theorem qml {d : List qj} {t u : qj} : (d ++ [t]).set d.length u = d ++ [u]:=by
  induction d with
  | nil=>rfl
  | cons x d ih=>simp [ih]
structure qdi (cuts : List Int) (ins : List Bool) (k : Nat) (c : List qj) : Prop where
  can : Can c
  pts : ∀ x,has c x↔∃ i,∃ (h : i + 1 < cuts.length) (h' : i < ins.length),i < k∧ins[i] = true∧cuts[i]≤x∧x < cuts[i + 1]
  hi : ∀ t∈c,∃ (h : k < cuts.length),t.Hi≤cuts[k]
  len : c.length≤k
  ends : ∀ t∈c,t.Lo∈cuts∧t.Hi∈cuts
theorem qhs (a : List Int) (g : List Bool) (hs : a.Pairwise (· < ·)) (hl : a.length≤1000000) (hi : a.length≤g.length + 1) :
    ∃ c,q3k a g = some c∧qdi a g (a.length - 1) c:=by
  have:=Zs (f:=q3l a g) (σ:=List qj) (fun k c=>((k : Int),c)) (a.length - 1) (fun k c=>qdi a g k c) (fun c=>qdi a g (a.length - 1) c) ?_ ?_ (k0:=0) (c0:=[]) q0
    ⟨⟨qe,qe⟩,fun x=>⟨fun h=>absurd h (q1b x),fun ⟨i,_,_,h,_⟩=>q0⟩,qe,qe,qe⟩
  · obtain ⟨b,m,n⟩:=this
    have m : loop (q3l a g) (0,[]) = some b:=m
    exact ⟨b,by unfold q3k;rw [m];rfl,n⟩
  · intro k c hk j
    have hw : w64 ((k : Int) + 1) = ((k + 1 : Nat) : Int):=by rw [Qe q0];omega
    have l : k + 1 < a.length:=by omega
    have p : k < a.length:=by omega
    have ae : k < g.length:=by omega
    have hb : decide (((k + 1 : Nat) : Int) < (a.length : Int)) = true:=decide_eq_true q0
    refine .inl ?_
    simp only [q3l,hw,hb,cond_true,Qi ae,Qi l,Qi p,Option.bind_some]
    have ai : a[k] < a[k+1]:=List.pairwise_iff_getElem.1 hs k (k+1) p l q0
    have ad : ∀ t∈c,t.Hi≤a[k]:=fun t q=>(j.hi t q).2
    cases ab : g[k] with
    | false=>
      refine ⟨c,qe,j.can,fun x=>?_,fun t q=>⟨l,by have:=ad t q;omega⟩,by have:=j.len;omega,j.ends⟩
      rw [j.pts]
      constructor
      · rintro ⟨i,m,n,h3,o⟩;exact ⟨i,m,n,q0,o⟩
      · rintro ⟨i,m,n,h3,o⟩
        by_cases e : i = k
        · subst e;rw [ab] at o;simp at o
        · exact ⟨i,m,n,q0,o⟩
    | true=>
      have r : (cond (!true) (some c) ((cond (decide ((c.length : Int) > 0)) ((idx c (w64 ((c.length : Int) - 1))).bind fun ac=>some (ac.Hi == a[k])) (some false)).bind fun w=>cond w ((idx c (w64 ((c.length : Int) - 1))).bind fun s=>some (c.set (w64 ((c.length : Int) - 1)).toNat ({Lo:=s.Lo,Hi:=a[k+1]} : qj))) ((app 16 c [({Lo:=a[k],Hi:=a[k+1]} : qj)]).bind fun v=>some v))) = some (addS c a[k] a[k+1]):=by
        have aa : ∀ y,app 16 c [y] = some (c ++ [y]):=fun y=>Ky (by have:=j.len;simp;omega)
        rcases qcy c with rfl | ⟨d,t,rfl⟩
        · simp [aa,addS]
        · have h0 : decide ((((d ++ [t]).length : Nat) : Int) > 0) = true:=decide_eq_true (by rw [List.length_append,List.length_singleton];omega)
          have ak:=j.len
          have af : (((d ++ [t]).length : Nat) : Int) = d.length + 1:=by simp
          have am : d.length + 1≤k:=by simpa using ak
          have m : w64 (((d ++ [t]).length : Int) - 1) = (d.length : Int):=by rw [af,Qe q0];omega
          have n : idx (d ++ [t]) (d.length : Int) = some t:=by rw [Qi qe];simp
          simp only [Bool.not_true,cond_false,h0,cond_true,m,n,Option.bind_some,Int.toNat_natCast,qml,aa]
          by_cases e : t.Hi = a[k]
          · simp [e,← qb7]
          · have e' : (t.Hi == a[k]) = false:=by simpa using e
            simp only [e',cond_false,qb8 e]
      rw [r]
      obtain ⟨a1,a2,a3,a4,a5⟩:=qh5 j.can ad ai
      refine ⟨_,rfl,a1,fun x=>?_,fun t q=>⟨l,a3 t q⟩,by have:=j.len;omega,fun t q=>?_⟩
      · rw [a2,j.pts]
        constructor
        · rintro (⟨i,m,n,h3,o⟩ | h)
          · exact ⟨i,m,n,q0,o⟩
          · exact ⟨k,l,ae,q0,ab,h⟩
        · rintro ⟨i,m,n,h3,o⟩
          by_cases e : i = k
          · subst e;exact .inr o.2
          · exact .inl ⟨i,m,n,q0,o⟩
      · obtain ⟨b1,z⟩:=a5 t q
        constructor
        · rcases b1 with b1 | ⟨u,hu,b1⟩
          · rw [b1];exact List.getElem_mem p
          · rw [b1];exact (j.ends u hu).1
        · rcases z with z | ⟨u,hu,z⟩
          · rw [z];exact List.getElem_mem l
          · rw [z];exact (j.ends u hu).2
  · intro c j
    refine ⟨c,?_,j⟩
    have hw : decide (w64 (((a.length - 1 : Nat) : Int) + 1) < (a.length : Int)) = false:=by
      rw [Qe q0];exact decide_eq_false q0
    simp only [q3l,hw,cond_false]
def Ki (kind : Int) (a b : Prop) : Prop:=(kind = 1∧a∧b)∨(kind = 2∧(a∨b))∨(kind≠1∧kind≠2∧a∧¬ b)
open Classical in
theorem qjv (kind : Int) (a b : Prop) : q5h kind (decide a) (decide b) = some (decide (Ki kind a b)):=by
  unfold q5h Ki
  by_cases f : kind = 1
  · subst f;by_cases c : a <;> by_cases hb : b <;> simp [c,hb]
  · by_cases d : kind = 2
    · subst d;by_cases c : a <;> by_cases hb : b <;> simp [c,hb]
    · have g : (kind == 1) = false:=by simpa using f
      have h : (kind == 2) = false:=by simpa using d
      by_cases c : a <;> by_cases hb : b <;> simp [c,hb,f,d,g,h]
theorem q2r {c : List Int} (hs : c.Pairwise (· < ·)) {p : List qj} (m : ∀ x∈ends p,x∈c) {i : Nat} (h : i + 1 < c.length) {x : Int} (s : c[i]≤x) (r : x < c[i + 1]) : has p x↔has p c[i]:=by
  have mono : ∀ a b (k : a < c.length) (hb : b < c.length),c[a] < c[b]→a < b:=by
    intro a b k hb q
    refine Nat.not_le.1 fun l=>?_
    by_cases e : a = b
    · subst e;omega
    · have:=List.pairwise_iff_getElem.1 hs b a hb k q0;omega
  have d : ∀ a b (k : a < c.length) (hb : b < c.length),a≤b→c[a]≤c[b]:=by
    intro a b k hb l
    by_cases e : a = b
    · subst e;omega
    · have:=List.pairwise_iff_getElem.1 hs a b k hb q0;omega
  constructor
  · rintro ⟨t,g,n,o⟩
    refine ⟨t,g,?_,q0⟩
    obtain ⟨j,f,e⟩:=List.mem_iff_getElem.1 (m t.Lo (q8s.2 ⟨t,g,.inl rfl⟩))
    have:=mono j (i + 1) f h q0
    have:=d j i f q0 q0
    omega
  · rintro ⟨t,g,n,o⟩
    refine ⟨t,g,q0,?_⟩
    obtain ⟨j,f,e⟩:=List.mem_iff_getElem.1 (m t.Hi (q8s.2 ⟨t,g,.inr rfl⟩))
    have:=mono i j q0 f q0
    have:=d (i + 1) j h f q0
    omega
theorem qbs {c : List Int} (hs : c.Pairwise (· < ·)) {p : List qj} (f : ∀ x∈ends p,x∈c) {x : Int} (h : has p x) : ∃ i,∃ (h : i + 1 < c.length),c[i]≤x∧x < c[i + 1]:=by
  obtain ⟨t,k,r,u⟩:=h
  obtain ⟨a,m,v⟩:=List.mem_iff_getElem.1 (f t.Lo (q8s.2 ⟨t,k,.inl rfl⟩))
  obtain ⟨b,hb,s⟩:=List.mem_iff_getElem.1 (f t.Hi (q8s.2 ⟨t,k,.inr rfl⟩))
  have key : ∀ n j (g : j < c.length),j + n = b→c[j]≤x→∃ i,∃ (h : i + 1 < c.length),c[i]≤x∧x < c[i + 1]:=by
    intro n
    induction n with
    | zero=>intro j g e l;simp at e;subst e;omega
    | succ n ih=>
      intro j g e l
      by_cases o : x < c[j+1]'(q0)
      · exact ⟨j,q0,l,o⟩
      · exact ih (j + 1) q0 q0 q0
  have q : a≤b:=by
    refine Nat.not_lt.1 fun d=>?_
    have:=List.pairwise_iff_getElem.1 hs b a hb m d
    omega
  exact key (b - a) a m q0 q0
structure qdk (kind : Int) (p q out : List qj) : Prop where
  can : Can out
  pts : ∀ x,has out x↔Ki kind (has p x) (has q x)
  ends : ∀ t∈out,(t.Lo∈ends p∨t.Lo∈ends q)∧(t.Hi∈ends p∨t.Hi∈ends q)
  len : out.length≤2 * (p.length + q.length)
open Classical in
theorem qs8 (a : List Int) (p q : List qj) (kind : Int) (h : a.length≤1000000) (hp : p.length≤100000) (j : q.length≤100000) :
    loop (q8y a p q kind) (0,[]) = some (a.map fun x=>decide (Ki kind (has p x) (has q x))):=by
  have:=Zs (f:=q8y a p q kind) (σ:=List Bool) (fun k c=>((k : Int),c)) a.length (fun k c=>c = (a.take k).map fun x=>decide (Ki kind (has p x) (has q x))) (fun t=>t = a.map fun x=>decide (Ki kind (has p x) (has q x))) ?_ ?_ (k0:=0) (c0:=[]) q0 qe
  · obtain ⟨b,g,rfl⟩:=this;exact g
  · rintro k c d rfl
    have hb : decide ((k : Int) < (a.length : Int)) = true:=decide_eq_true q0
    refine .inl ⟨_,?_,rfl⟩
    simp only [q8y,hb,cond_true,Qi d,Option.bind_some,qll p _ (by omega : p.length≤1000000),qll q _ (by omega : q.length≤1000000),qjv]
    rw [Ky (by simp;omega),Qe q0,List.take_succ_eq_append_getElem d,List.map_append]
    rfl
  · rintro c rfl
    have hb : decide ((a.length : Int) < (a.length : Int)) = false:=decide_eq_false q0
    simp [q8y,hb]
open Classical in
theorem qs9 (kind : Int) (p q : List qj) (hp : p.length≤100000) (s : q.length≤100000) : ∃ out,qc8 kind p q = some out∧qdk kind p q out:=by
  obtain ⟨d,w,⟨hs,k⟩,r⟩:=qqr p q hp s
  obtain ⟨c,u,l⟩:=qhs d (d.map fun x=>decide (Ki kind (has p x) (has q x))) hs q0 (by rw [List.length_map];omega)
  refine ⟨c,?_,l.can,fun x=>?_,fun t v=>?_,by have:=l.len;omega⟩
  · unfold qc8
    rw [w]
    simp only [Option.bind_some,qs8 d p q kind q0 hp s,u]
  · have mp : ∀ x∈ends p,x∈d:=fun x m=>(k x).2 (List.mem_append_left _ m)
    have mq : ∀ x∈ends q,x∈d:=fun x m=>(k x).2 (List.mem_append_right _ m)
    rw [l.pts]
    constructor
    · rintro ⟨i,f,y,_,o,g,j⟩
      simp only [List.getElem_map,decide_eq_true_eq] at o
      rw [q2r hs mp f g j,q2r hs mq f g j];exact o
    · intro h
      have n : has p x∨has q x:=by
        rcases h with ⟨_,h,_⟩ | ⟨_,h⟩ | ⟨_,_,h,_⟩
        · exact .inl h
        · exact h
        · exact .inl h
      obtain ⟨i,f,g,j⟩ : ∃ i,∃ (h : i + 1 < d.length),d[i]≤x∧x < d[i + 1]:=n.elim (qbs hs mp) (qbs hs mq)
      refine ⟨i,f,by rw [List.length_map];omega,q0,?_,g,j⟩
      simp only [List.getElem_map,decide_eq_true_eq]
      rw [← q2r hs mp f g j,← q2r hs mq f g j];exact h
  · obtain ⟨a,b⟩:=l.ends t v
    exact ⟨List.mem_append.1 ((k _).1 a),List.mem_append.1 ((k _).1 b)⟩
end Go.Sh
namespace Go.Sh
open Go Go.Am
def q4z : ByteArray:=⟨#[0,1,2,2,3,3,3,3,4,4,4,4,4,4,4,4,5,5,5,5,5,5,5,5,5,5,5,5,5,5,5,5,6,6,6,6,6,6,6,6,6,6,6,6,6,6,6,6,6,6,6,6,6,6,6,6,6,6,6,6,6,6,6,6,7,7,7,7,7,7,7,7,7,7,7,7,7,7,7,7,7,7,7,7,7,7,7,7,7,7,7,7,7,7,7,7,7,7,7,7,7,7,7,7,7,7,7,7,7,7,7,7,7,7,7,7,7,7,7,7,7,7,7,7,7,7,7,7,8,8,8,8,8,8,8,8,8,8,8,8,8,8,8,8,8,8,8,8,8,8,8,8,8,8,8,8,8,8,8,8,8,8,8,8,8,8,8,8,8,8,8,8,8,8,8,8,8,8,8,8,8,8,8,8,8,8,8,8,8,8,8,8,8,8,8,8,8,8,8,8,8,8,8,8,8,8,8,8,8,8,8,8,8,8,8,8,8,8,8,8,8,8,8,8,8,8,8,8,8,8,8,8,8,8,8,8,8,8,8,8,8,8,8,8,8,8,8,8,8,8,8,8,8,8,8,8]⟩
noncomputable def q38 (p0 : Int) : Option Int:=
  (cond (decide (p0 ≥ 4294967296)) (some (Int.fdiv p0 (2 ^ 32),32)) (some (p0,0))).bind fun b3=>(cond (decide (b3.1 ≥ 65536)) (some (Int.fdiv b3.1 (2 ^ 16),w64 (b3.2 + 16))) (some (b3.1,b3.2))).bind fun b6=>(cond (decide (b6.1 ≥ 256)) (some (Int.fdiv b6.1 (2 ^ 8),w64 (b6.2 + 8))) (some (b6.1,b6.2))).bind fun b9=>(q4e q4z (IntKind.wrap .u8 b9.1)).bind fun v10=>some (w64 (b9.2 + (w64 v10)))
noncomputable def q11 (p0 : Int) : Option Int:=
  (q38 p0).bind fun r1=>some r1
noncomputable def Jz {T : Type} (p1 : Int) (q1 : T→T→Option Int) (a459 : Int × List T) : Option ((Int × List T) ⊕ (List T)):=
  (cond (decide (a459.1 > p1)) ((idx a459.2 a459.1).bind fun v484=>(idx a459.2 (w64 (a459.1 - 1))).bind fun v486=>(q1 v484 v486).bind fun r488=>some (decide (r488 < 0))) (some false)).bind fun c469=>cond c469 ((idx a459.2 (w64 (a459.1 - 1))).bind fun v498=>(idx a459.2 a459.1).bind fun v500=>(idx a459.2 a459.1).bind fun v502=>(idx (a459.2.set a459.1.toNat v498) (w64 (a459.1 - 1))).bind fun v504=>some (.inl (w64 (a459.1 - 1),(a459.2.set a459.1.toNat v498).set (w64 (a459.1 - 1)).toNat v500))) (some (.inr a459.2))
noncomputable def q15 {T : Type} (p2 : Int) (p1 : Int) (q1 : T→T→Option Int) (a278 : Int × List T) : Option ((Int × List T) ⊕ (List T)):=
  cond (decide (a278.1 < p2)) (((loop (Jz p1 q1) (a278.1,a278.2)).bind fun x0=>some x0).bind fun b370=>some (.inl (w64 (a278.1 + 1),b370))) (some (.inr a278.2))
noncomputable def q24 {T : Type} (q1 : T→T→Option Int) (p0 : List T) (p1 : Int) (p2 : Int) : Option (List T):=
  (loop (q15 p2 p1 q1) (w64 (p1 + 1),p0)).bind fun x0=>some x0
noncomputable def U2 {T : Type} (p2 : Int) (p3 : Int) (q1 : T→T→Option Int) (a197 : Int × List T) : Option ((Int × List T) ⊕ (List T)):=
  cond (decide ((w64 ((w64 (2 * a197.1)) + 1)) ≥ p2)) (some (.inr a197.2)) ((cond (decide ((w64 ((w64 ((w64 (2 * a197.1)) + 1)) + 1)) < p2)) ((idx a197.2 (w64 (p3 + (w64 ((w64 (2 * a197.1)) + 1))))).bind fun v226=>(idx a197.2 (w64 ((w64 (p3 + (w64 ((w64 (2 * a197.1)) + 1)))) + 1))).bind fun v228=>(q1 v226 v228).bind fun r230=>some (decide (r230 < 0))) (some false)).bind fun c207=>(cond c207 (some (w64 ((w64 ((w64 (2 * a197.1)) + 1)) + 1))) (some (w64 ((w64 (2 * a197.1)) + 1)))).bind fun b234=>(idx a197.2 (w64 (p3 + a197.1))).bind fun v235=>(idx a197.2 (w64 (p3 + b234))).bind fun v237=>(q1 v235 v237).bind fun r239=>cond (!(decide (r239 < 0))) (some (.inr a197.2)) ((idx a197.2 (w64 (p3 + b234))).bind fun v241=>(idx a197.2 (w64 (p3 + a197.1))).bind fun v243=>(idx a197.2 (w64 (p3 + a197.1))).bind fun v245=>(idx (a197.2.set (w64 (p3 + a197.1)).toNat v241) (w64 (p3 + b234))).bind fun v247=>some (.inl (b234,(a197.2.set (w64 (p3 + a197.1)).toNat v241).set (w64 (p3 + b234)).toNat v243))))
noncomputable def Un {T : Type} (q1 : T→T→Option Int) (p0 : List T) (p1 : Int) (p2 : Int) (p3 : Int) : Option (List T):=
  (loop (U2 p2 p3 q1) (p1,p0)).bind fun x0=>some x0
noncomputable def q13 {T : Type} (q1 : T→T→Option Int) (p2 : Int) (p1 : Int) (a123 : Int × List T) : Option ((Int × List T) ⊕ (List T)):=
  cond (decide (a123.1 ≥ 0)) ((Un q1 a123.2 a123.1 (w64 (p2 - p1)) p1).bind fun e132=>(Qu e132.length a123.2.length).bind fun u134=>some (.inl (w64 (a123.1 - 1),e132))) (some (.inr a123.2))
noncomputable def q14 {T : Type} (p1 : Int) (q1 : T→T→Option Int) (a191 : Int × List T) : Option ((Int × List T) ⊕ (List T)):=
  cond (decide (a191.1 ≥ 0)) ((idx a191.2 (w64 (p1 + a191.1))).bind fun v208=>(idx a191.2 p1).bind fun v210=>(idx a191.2 p1).bind fun v212=>(idx (a191.2.set p1.toNat v208) (w64 (p1 + a191.1))).bind fun v214=>(Un q1 ((a191.2.set p1.toNat v208).set (w64 (p1 + a191.1)).toNat v210) 0 a191.1 p1).bind fun e216=>(Qu e216.length ((a191.2.set p1.toNat v208).set (w64 (p1 + a191.1)).toNat v210).length).bind fun u218=>some (.inl (w64 (a191.1 - 1),e216))) (some (.inr a191.2))
noncomputable def q23 {T : Type} (q1 : T→T→Option Int) (p0 : List T) (p1 : Int) (p2 : Int) : Option (List T):=
  (loop (q13 q1 p2 p1) (w64 (Int.tdiv (w64 ((w64 (p2 - p1)) - 1)) 2),p0)).bind fun b126=>(loop (q14 p1 q1) (w64 ((w64 (p2 - p1)) - 1),b126)).bind fun x0=>some x0
noncomputable def q25 (p0 : Int) : Option Int:=
  (q11 (IntKind.wrap .u64 p0)).bind fun r1=>(shlK .u64 1 r1).bind fun q3=>some q3
noncomputable def q29 (p0 : Int) : Option Int:=
  some (xorI .u64 (xorI .u64 (xorI .u64 p0 (IntKind.wrap .u64 (p0 * (2 ^ 13)))) (Int.fdiv (xorI .u64 p0 (IntKind.wrap .u64 (p0 * (2 ^ 13)))) (2 ^ 7))) (IntKind.wrap .u64 ((xorI .u64 (xorI .u64 p0 (IntKind.wrap .u64 (p0 * (2 ^ 13)))) (Int.fdiv (xorI .u64 p0 (IntKind.wrap .u64 (p0 * (2 ^ 13)))) (2 ^ 7))) * (2 ^ 17))))
noncomputable def Ue {T : Type} (p1 : Int) (p2 : Int) (r101 : Int) (a153 : Int × List T × Int) : Option ((Int × List T × Int) ⊕ (List T)):=
  cond (decide (a153.1≤(w64 ((w64 (p1 + (w64 ((w64 (Int.tdiv (w64 (p2 - p1)) 4)) * 2)))) + 1)))) ((q29 a153.2.2).bind fun e168=>(cond (decide ((w64 (andI .u64 e168 (IntKind.wrap .u64 (r101 - 1)))) ≥ (w64 (p2 - p1)))) (some (w64 ((w64 (andI .u64 e168 (IntKind.wrap .u64 (r101 - 1)))) - (w64 (p2 - p1))))) (some (w64 (andI .u64 e168 (IntKind.wrap .u64 (r101 - 1)))))).bind fun b172=>(idx a153.2.1 (w64 (p1 + b172))).bind fun v173=>(idx a153.2.1 a153.1).bind fun v175=>(idx a153.2.1 a153.1).bind fun v177=>(idx (a153.2.1.set a153.1.toNat v173) (w64 (p1 + b172))).bind fun v179=>some (.inl (w64 (a153.1 + 1),(a153.2.1.set a153.1.toNat v173).set (w64 (p1 + b172)).toNat v175,e168))) (some (.inr a153.2.1))
noncomputable def q12 {T : Type} (q1 : T→T→Option Int) (p0 : List T) (p1 : Int) (p2 : Int) : Option (List T):=
  cond (decide ((w64 (p2 - p1)) ≥ 8)) ((q25 (w64 (p2 - p1))).bind fun r101=>(loop (Ue p1 p2 r101) (w64 ((w64 (p1 + (w64 ((w64 (Int.tdiv (w64 (p2 - p1)) 4)) * 2)))) - 1),p0,IntKind.wrap .u64 (w64 (p2 - p1)))).bind fun x0=>some x0) (some p0)
noncomputable def Ug {T : Type} (q1 : T→T→Option Int) (p0 : List T) (p1 : Int) (p2 : Int) (p3 : Int) : Option (Int × Int × Int):=
  (idx p0 p2).bind fun v101=>(idx p0 p1).bind fun v103=>(q1 v101 v103).bind fun r105=>cond (decide (r105 < 0)) (some (p2,p1,w64 (p3 + 1))) (some (p1,p2,p3))
noncomputable def Uf {T : Type} (q1 : T→T→Option Int) (p0 : List T) (p1 : Int) (p2 : Int) (p3 : Int) (p4 : Int) : Option (Int × Int):=
  (Ug q1 p0 p1 p2 p4).bind fun e101=>(Ug q1 p0 e101.2.1 p3 e101.2.2).bind fun e103=>(Ug q1 p0 e101.1 e103.1 e103.2.2).bind fun e105=>some (e105.2.1,e105.2.2)
noncomputable def U0 {T : Type} (q1 : T→T→Option Int) (p0 : List T) (p1 : Int) (p2 : Int) : Option (Int × Int):=
  (Uf q1 p0 (w64 (p1 - 1)) p1 (w64 (p1 + 1)) p2).bind fun e101=>some (e101.1,e101.2)
noncomputable def q22 {T : Type} (p0 : List T) (p1 : Int) (p2 : Int) (p3 : T→T→Option Int) : Option (Int × Int):=
  (cond (decide ((w64 (p2 - p1)) ≥ 8)) ((cond (decide ((w64 (p2 - p1)) ≥ 50)) ((U0 p3 p0 (w64 (p1 + (w64 ((w64 (Int.tdiv (w64 (p2 - p1)) 4)) * 1)))) 0).bind fun e25=>(U0 p3 p0 (w64 (p1 + (w64 ((w64 (Int.tdiv (w64 (p2 - p1)) 4)) * 2)))) e25.2).bind fun e27=>(U0 p3 p0 (w64 (p1 + (w64 ((w64 (Int.tdiv (w64 (p2 - p1)) 4)) * 3)))) e27.2).bind fun e29=>some (e25.1,e27.1,e29.1,e29.2)) (some (w64 (p1 + (w64 ((w64 (Int.tdiv (w64 (p2 - p1)) 4)) * 1))),w64 (p1 + (w64 ((w64 (Int.tdiv (w64 (p2 - p1)) 4)) * 2))),w64 (p1 + (w64 ((w64 (Int.tdiv (w64 (p2 - p1)) 4)) * 3))),0))).bind fun b24=>(Uf p3 p0 b24.1 b24.2.1 b24.2.2.1 b24.2.2.2).bind fun e31=>some (e31.1,e31.2)) (some (w64 (p1 + (w64 ((w64 (Int.tdiv (w64 (p2 - p1)) 4)) * 2))),0))).bind fun b15=>cond (b15.2 == 0) (some (b15.1,1)) (cond (b15.2 == 12) (some (b15.1,2)) (some (b15.1,0)))
noncomputable def q28 {T : Type} (a119 : Int × Int × List T) : Option ((Int × Int × List T) ⊕ (List T)):=
  cond (decide (a119.1 < a119.2.1)) ((idx a119.2.2 a119.2.1).bind fun v123=>(idx a119.2.2 a119.1).bind fun v125=>(idx a119.2.2 a119.1).bind fun v127=>(idx (a119.2.2.set a119.1.toNat v123) a119.2.1).bind fun v129=>some (.inl (w64 (a119.1 + 1),w64 (a119.2.1 - 1),(a119.2.2.set a119.1.toNat v123).set a119.2.1.toNat v125))) (some (.inr a119.2.2))
noncomputable def q1a {T : Type} (q1 : T→T→Option Int) (p0 : List T) (p1 : Int) (p2 : Int) : Option (List T):=
  (loop q28 (p1,w64 (p2 - 1),p0)).bind fun x0=>some x0
noncomputable def Uh {T : Type} (p2 : Int) (a438 : Int × Int × List T) (q1 : T→T→Option Int) (a681 : Int) : Option ((Int) ⊕ (Int)):=
  (cond (decide (a681 < p2)) ((idx a438.2.2 a681).bind fun v707=>(idx a438.2.2 (w64 (a681 - 1))).bind fun v709=>(q1 v707 v709).bind fun r711=>some (!(decide (r711 < 0)))) (some false)).bind fun c691=>cond c691 (some (.inl (w64 (a681 + 1)))) (some (.inr a681))
noncomputable def Ui {T : Type} (q1 : T→T→Option Int) (a838 : Int × List T) : Option ((Int × List T) ⊕ (List T)):=
  cond (decide (a838.1 ≥ 1)) ((idx a838.2 a838.1).bind fun v856=>(idx a838.2 (w64 (a838.1 - 1))).bind fun v858=>(q1 v856 v858).bind fun r860=>cond (!(decide (r860 < 0))) (some (.inr a838.2)) ((idx a838.2 (w64 (a838.1 - 1))).bind fun v862=>(idx a838.2 a838.1).bind fun v864=>(idx a838.2 a838.1).bind fun v866=>(idx (a838.2.set a838.1.toNat v862) (w64 (a838.1 - 1))).bind fun v868=>some (.inl (w64 (a838.1 - 1),(a838.2.set a838.1.toNat v862).set (w64 (a838.1 - 1)).toNat v864)))) (some (.inr a838.2))
noncomputable def Uj {T : Type} (p2 : Int) (q1 : T→T→Option Int) (b684 : Int) (a928 : Int × List T) : Option ((Int × List T) ⊕ (Int × List T)):=
  cond (decide (a928.1 < p2)) ((idx a928.2 a928.1).bind fun v946=>(idx a928.2 (w64 (a928.1 - 1))).bind fun v948=>(q1 v946 v948).bind fun r950=>cond (!(decide (r950 < 0))) (some (.inr (b684,a928.2))) ((idx a928.2 (w64 (a928.1 - 1))).bind fun v952=>(idx a928.2 a928.1).bind fun v954=>(idx a928.2 a928.1).bind fun v956=>(idx (a928.2.set a928.1.toNat v952) (w64 (a928.1 - 1))).bind fun v958=>some (.inl (w64 (a928.1 + 1),(a928.2.set a928.1.toNat v952).set (w64 (a928.1 - 1)).toNat v954)))) (some (.inr (b684,a928.2)))
noncomputable def Zq {T : Type} (p2 : Int) (q1 : T→T→Option Int) (p1 : Int) (a438 : Int × Int × List T) : Option ((Int × Int × List T) ⊕ ((List T) ⊕ (Bool × List T))):=
  cond (decide (a438.2.1 < 5)) (((loop (Uh p2 a438 q1) a438.1).bind fun b684=>cond (b684 == p2) (some (.inr (true,a438.2.2))) (cond (decide ((w64 (p2 - p1)) < 50)) (some (.inr (false,a438.2.2))) ((idx a438.2.2 (w64 (b684 - 1))).bind fun v713=>(idx a438.2.2 b684).bind fun v715=>(idx a438.2.2 b684).bind fun v717=>(idx (a438.2.2.set b684.toNat v713) (w64 (b684 - 1))).bind fun v719=>(cond (decide ((w64 (b684 - p1)) ≥ 2)) ((loop (Ui q1) (w64 (b684 - 1),(a438.2.2.set b684.toNat v713).set (w64 (b684 - 1)).toNat v715)).bind fun x0=>some x0) (some ((a438.2.2.set b684.toNat v713).set (w64 (b684 - 1)).toNat v715))).bind fun b779=>cond (decide ((w64 (p2 - b684)) ≥ 2)) ((loop (Uj p2 q1 b684) (w64 (b684 + 1),b779)).bind fun x0=>some (.inl x0)) (some (.inl (b684,b779))))) : Option ((Int × List T) ⊕ (Bool × List T))).bind fun m621=>(match m621 with | .inl b622=>some (.inl (b622.1,w64 (a438.2.1 + 1),b622.2)) | .inr x1=>some (.inr (.inr x1)))) (some (.inr (.inl a438.2.2)))
noncomputable def U1 {T : Type} (q1 : T→T→Option Int) (p0 : List T) (p1 : Int) (p2 : Int) : Option (Bool × List T):=
  (loop (Zq p2 q1 p1) (w64 (p1 + 1),0,p0) : Option ((List T) ⊕ (Bool × List T))).bind fun m439=>(match m439 with | .inl b441=>some (false,b441) | .inr x1=>some x1)
noncomputable def Uk {T : Type} (a318 : Int × Int × List T) (p1 : Int) (q1 : T→T→Option Int) (a378 : Int) : Option ((Int) ⊕ (Int)):=
  (cond (decide (a378≤a318.2.1)) ((idx a318.2.2 p1).bind fun v403=>(idx a318.2.2 a378).bind fun v405=>(q1 v403 v405).bind fun r407=>some (!(decide (r407 < 0)))) (some false)).bind fun c388=>cond c388 (some (.inl (w64 (a378 + 1)))) (some (.inr a378))
noncomputable def Ul {T : Type} (b381 : Int) (a318 : Int × Int × List T) (p1 : Int) (q1 : T→T→Option Int) (a463 : Int) : Option ((Int) ⊕ (Int)):=
  (cond (decide (b381≤a463)) ((idx a318.2.2 p1).bind fun v487=>(idx a318.2.2 a463).bind fun v489=>(q1 v487 v489).bind fun r491=>some (decide (r491 < 0))) (some false)).bind fun c473=>cond c473 (some (.inl (w64 (a463 - 1)))) (some (.inr a463))
noncomputable def q18 {T : Type} (p1 : Int) (q1 : T→T→Option Int) (a318 : Int × Int × List T) : Option ((Int × Int × List T) ⊕ (Int × List T)):=
  (loop (Uk a318 p1 q1) a318.1).bind fun b381=>(loop (Ul b381 a318 p1 q1) a318.2.1).bind fun b466=>cond (decide (b381 > b466)) (some (.inr (b381,a318.2.2))) ((idx a318.2.2 b466).bind fun v493=>(idx a318.2.2 b381).bind fun v495=>(idx a318.2.2 b381).bind fun v497=>(idx (a318.2.2.set b381.toNat v493) b466).bind fun v499=>some (.inl (w64 (b381 + 1),w64 (b466 - 1),(a318.2.2.set b381.toNat v493).set b466.toNat v495)))
noncomputable def q17 {T : Type} (q1 : T→T→Option Int) (p0 : List T) (p1 : Int) (p2 : Int) (p3 : Int) : Option (Int × List T):=
  (idx p0 p3).bind fun v101=>(idx p0 p1).bind fun v103=>(idx p0 p1).bind fun v105=>(idx (p0.set p1.toNat v101) p3).bind fun v107=>(loop (q18 p1 q1) (w64 (p1 + 1),w64 (p2 - 1),(p0.set p1.toNat v101).set p3.toNat v103)).bind fun b321=>some (b321.1,b321.2)
noncomputable def q26 {T : Type} (p2 : Int) (p0 : List T) (p1 : Int) (v101 : T) (p3 : Int) (v103 : T) (q1 : T→T→Option Int) (a163 : Int) : Option ((Int) ⊕ (Int)):=
  (cond (decide (a163≤(w64 (p2 - 1)))) ((idx ((p0.set p1.toNat v101).set p3.toNat v103) a163).bind fun v187=>(idx ((p0.set p1.toNat v101).set p3.toNat v103) p1).bind fun v189=>(q1 v187 v189).bind fun r191=>some (decide (r191 < 0))) (some false)).bind fun c173=>cond c173 (some (.inl (w64 (a163 + 1)))) (some (.inr a163))
noncomputable def q27 {T : Type} (b166 : Int) (p0 : List T) (p1 : Int) (v101 : T) (p3 : Int) (v103 : T) (q1 : T→T→Option Int) (a249 : Int) : Option ((Int) ⊕ (Int)):=
  (cond (decide (b166≤a249)) ((idx ((p0.set p1.toNat v101).set p3.toNat v103) a249).bind fun v274=>(idx ((p0.set p1.toNat v101).set p3.toNat v103) p1).bind fun v276=>(q1 v274 v276).bind fun r278=>some (!(decide (r278 < 0)))) (some false)).bind fun c259=>cond c259 (some (.inl (w64 (a249 - 1)))) (some (.inr a249))
noncomputable def Zz {T : Type} (a514 : Int × Int × List T) (p1 : Int) (q1 : T→T→Option Int) (a572 : Int) : Option ((Int) ⊕ (Int)):=
  (cond (decide (a572≤a514.2.1)) ((idx a514.2.2 a572).bind fun v596=>(idx a514.2.2 p1).bind fun v598=>(q1 v596 v598).bind fun r600=>some (decide (r600 < 0))) (some false)).bind fun c582=>cond c582 (some (.inl (w64 (a572 + 1)))) (some (.inr a572))
noncomputable def J0 {T : Type} (b575 : Int) (a514 : Int × Int × List T) (p1 : Int) (q1 : T→T→Option Int) (a658 : Int) : Option ((Int) ⊕ (Int)):=
  (cond (decide (b575≤a658)) ((idx a514.2.2 a658).bind fun v683=>(idx a514.2.2 p1).bind fun v685=>(q1 v683 v685).bind fun r687=>some (!(decide (r687 < 0)))) (some false)).bind fun c668=>cond c668 (some (.inl (w64 (a658 - 1)))) (some (.inr a658))
noncomputable def q19 {T : Type} (p1 : Int) (q1 : T→T→Option Int) (a514 : Int × Int × List T) : Option ((Int × Int × List T) ⊕ (Int × List T)):=
  (loop (Zz a514 p1 q1) a514.1).bind fun b575=>(loop (J0 b575 a514 p1 q1) a514.2.1).bind fun b661=>cond (decide (b575 > b661)) (some (.inr (b661,a514.2.2))) ((idx a514.2.2 b661).bind fun v689=>(idx a514.2.2 b575).bind fun v691=>(idx a514.2.2 b575).bind fun v693=>(idx (a514.2.2.set b575.toNat v689) b661).bind fun v695=>some (.inl (w64 (b575 + 1),w64 (b661 - 1),(a514.2.2.set b575.toNat v689).set b661.toNat v691)))
noncomputable def q16 {T : Type} (q1 : T→T→Option Int) (p0 : List T) (p1 : Int) (p2 : Int) (p3 : Int) : Option (Int × Bool × List T):=
  (idx p0 p3).bind fun v101=>(idx p0 p1).bind fun v103=>(idx p0 p1).bind fun v105=>(idx (p0.set p1.toNat v101) p3).bind fun v107=>(loop (q26 p2 p0 p1 v101 p3 v103 q1) (w64 (p1 + 1))).bind fun b166=>(loop (q27 b166 p0 p1 v101 p3 v103 q1) (w64 (p2 - 1))).bind fun b252=>cond (decide (b166 > b252)) ((idx ((p0.set p1.toNat v101).set p3.toNat v103) p1).bind fun v288=>(idx ((p0.set p1.toNat v101).set p3.toNat v103) b252).bind fun v290=>(idx ((p0.set p1.toNat v101).set p3.toNat v103) b252).bind fun v292=>(idx (((p0.set p1.toNat v101).set p3.toNat v103).set b252.toNat v288) p1).bind fun v294=>some (b252,true,(((p0.set p1.toNat v101).set p3.toNat v103).set b252.toNat v288).set p1.toNat v290)) ((idx ((p0.set p1.toNat v101).set p3.toNat v103) b252).bind fun v296=>(idx ((p0.set p1.toNat v101).set p3.toNat v103) b166).bind fun v298=>(idx ((p0.set p1.toNat v101).set p3.toNat v103) b166).bind fun v300=>(idx (((p0.set p1.toNat v101).set p3.toNat v103).set b166.toNat v296) b252).bind fun v302=>(loop (q19 p1 q1) (w64 (b166 + 1),w64 (b252 - 1),(((p0.set p1.toNat v101).set p3.toNat v103).set b166.toNat v296).set b252.toNat v298)).bind fun b517=>(idx b517.2 p1).bind fun v697=>(idx b517.2 b517.1).bind fun v699=>(idx b517.2 b517.1).bind fun v701=>(idx (b517.2.set b517.1.toNat v697) p1).bind fun v703=>some (b517.1,false,(b517.2.set b517.1.toNat v697).set p1.toNat v699))
noncomputable def Ze {T : Type} (q1 : T→T→Option Int) (rec : List T→Int→Int→Int→Option (List T)) (a309 : Int × Int × Int × Bool × Bool × List T) : Option ((Int × Int × Int × Bool × Bool × List T) ⊕ (List T)):=
  cond (decide ((w64 (a309.2.1 - a309.1))≤12)) ((q24 q1 a309.2.2.2.2.2 a309.1 a309.2.1).bind fun e318=>(Qu e318.length a309.2.2.2.2.2.length).bind fun u320=>some (.inr e318)) (cond (a309.2.2.1 == 0) ((q23 q1 a309.2.2.2.2.2 a309.1 a309.2.1).bind fun e328=>(Qu e328.length a309.2.2.2.2.2.length).bind fun u330=>some (.inr e328)) ((cond (!a309.2.2.2.1) ((q12 q1 a309.2.2.2.2.2 a309.1 a309.2.1).bind fun e341=>(Qu e341.length a309.2.2.2.2.2.length).bind fun u343=>some (w64 (a309.2.2.1 - 1),e341)) (some (a309.2.2.1,a309.2.2.2.2.2))).bind fun b340=>(q22 b340.2 a309.1 a309.2.1 q1).bind fun r346=>(cond (r346.2 == 2) ((q1a q1 b340.2 a309.1 a309.2.1).bind fun e356=>(Qu e356.length b340.2.length).bind fun u358=>some (w64 ((w64 (a309.2.1 - 1)) - (w64 (r346.1 - a309.1))),1,e356)) (some (r346.1,r346.2,b340.2))).bind fun b355=>(cond a309.2.2.2.1 (some a309.2.2.2.2.1) (some false)).bind fun c361=>(cond c361 (some (b355.2.1 == 1)) (some false)).bind fun c365=>(cond c365 ((U1 q1 b355.2.2 a309.1 a309.2.1).bind fun e378=>(Qu e378.2.length b355.2.2.length).bind fun u380=>cond e378.1 (some (.inr e378.2)) (some (.inl e378.2))) (some (.inl b355.2.2)) : Option ((List T) ⊕ (List T))).bind fun m376=>(match m376 with | .inl b377=>(cond (decide (a309.1 > 0)) ((idx b377 (w64 (a309.1 - 1))).bind fun v405=>(idx b377 b355.1).bind fun v407=>(q1 v405 v407).bind fun r409=>some (!(decide (r409 < 0)))) (some false)).bind fun c389=>cond c389 ((q17 q1 b377 a309.1 a309.2.1 b355.1).bind fun e416=>(Qu e416.2.length b377.length).bind fun u418=>some (.inl (e416.1,a309.2.1,b340.1,a309.2.2.2.1,a309.2.2.2.2.1,e416.2))) ((q16 q1 b377 a309.1 a309.2.1 b355.1).bind fun e421=>(Qu e421.2.2.length b377.length).bind fun u423=>cond (decide ((w64 (e421.1 - a309.1)) < (w64 (a309.2.1 - e421.1)))) ((rec e421.2.2 a309.1 e421.1 b340.1).bind fun e426=>(Qu e426.length e421.2.2.length).bind fun u428=>some (.inl (w64 (e421.1 + 1),a309.2.1,b340.1,decide ((w64 (e421.1 - a309.1)) ≥ (w64 (Int.tdiv (w64 (a309.2.1 - a309.1)) 8))),e421.2.1,e426))) ((rec e421.2.2 (w64 (e421.1 + 1)) a309.2.1 b340.1).bind fun e431=>(Qu e431.length e421.2.2.length).bind fun u433=>some (.inl (a309.1,e421.1,b340.1,decide ((w64 (a309.2.1 - e421.1)) ≥ (w64 (Int.tdiv (w64 (a309.2.1 - a309.1)) 8))),e421.2.1,e431)))) | .inr x1=>some (.inr x1))))
noncomputable def Um {T : Type} (rec : List T→Int→Int→Int→Option (List T)) (q1 : T→T→Option Int) (p0 : List T) (p1 : Int) (p2 : Int) (p3 : Int) : Option (List T):=
  (loop (Ze q1 rec) (p1,p2,p3,true,true,p0)).bind fun x0=>some x0
noncomputable def Z9 {T : Type} : Nat→(T→T→Option Int)→List T→Int→Int→Int→Option (List T)
  | 0,_,_,_,_,_=>none
  | n + 1,q1,p0,p1,p2,p3=>Um (Z9 n q1) q1 p0 p1 p2 p3
noncomputable def q21 {T : Type} (q1 : T→T→Option Int) (p0 : List T) : Option (List T):=
  (q11 (IntKind.wrap .u64 (p0.length : Int))).bind fun r101=>(lim (fun n=>Z9 n q1 p0 0 (p0.length : Int) r101)).bind fun e103=>(Qu e103.length p0.length).bind fun u105=>some e103
end Go.Sh
namespace Go.Sh
open Go Go.Am
section
variable {T : Type} [Inhabited T] {P : T→Prop} {lt : T→T→Bool} {q : T→T→Option Int}
def Ko (q : T→T→Option Int) (lt : T→T→Bool) (P : T→Prop) : Prop:=∀ x y,P x→P y→∃ r,q x y = some r∧decide (r < 0) = lt x y
def AllP (n : Nat) (P : T→Prop) (d : Array T) : Prop:=d.size = n∧n≤1000000∧∀ i,i < n→P d[i]!
theorem gx {d : Array T} {k : Nat} (h : k < d.size) : idx d.toList (k : Int) = some d[k]!:=by
  simp [idx,h]
theorem gxs {d : Array T} {k : Nat} {i : Nat} {v : T} (h : k < d.size) : idx (d.toList.set i v) (k : Int) = some (d.setIfInBounds i v)[k]!:=by
  have : d.toList.set i v = (d.setIfInBounds i v).toList:=by simp
  rw [this];exact gx (by simpa using h)
theorem gswp {d : Array T} {i j : Nat} : (d.toList.set i d[j]!).set j d[i]! = (Sort.swp d i j).toList:=by simp [Sort.swp]
theorem AllP.swp {n : Nat} {d : Array T} (h : AllP n P d) {a b : Nat} (l : a < n) (hb : b < n) : AllP n P (Sort.swp d a b):=by
  obtain ⟨j,f,c⟩:=h
  refine ⟨by rw [Sort.swp_size];exact j,f,fun k g=>?_⟩
  rw [Sort.swp_get d q0 q0]
  repeat' split
  all_goals first | exact c _ l | exact c _ hb | exact c _ g
theorem AllP.perm {n : Nat} {d f : Array T} (h : AllP n P d) {a b : Nat} (o : a≤b) (hb : b≤n) (hp : Sort.PermIn a b d f) : AllP n P f:=by
  obtain ⟨p,l,g⟩:=h
  refine ⟨by rw [hp.1];exact p,l,fun k m=>?_⟩
  by_cases c : k < a∨b≤k
  · rw [hp.2.1 k c];exact g k m
  · exact Sort.permIn_all d f a b P q0 hp (fun i hi j=>g i q0) k q0 q0
theorem w1m (j : Nat) (h : j < 2000000) : w64 (((j + 1 : Nat) : Int) - 1) = (j : Int):=by rw [Qe q0];omega
theorem w1p (j : Nat) (h : j < 2000000) : w64 ((j : Int) + 1) = ((j + 1 : Nat) : Int):=by rw [Qe q0];omega
theorem wsub {a b : Nat} (h : a≤b) (c : b < 2000000) : w64 ((b : Int) - (a : Int)) = ((b - a : Nat) : Int):=by rw [Qe q0];omega
theorem qjz (o : Ko q lt P) (a n : Nat) : ∀ (j : Nat) (d : Array T),AllP n P d→j < n→loop (Jz (a : Int) q) ((j : Int),d.toList) = some (Sort.insInner lt a j d).toList∧AllP n P (Sort.insInner lt a j d)
  | 0,d,hd,hj=>by
    have c : decide (((0 : Nat) : Int) > (a : Int)) = false:=decide_eq_false q0
    refine ⟨K7 ?_,hd⟩
    simp only [Jz,c,cond_false,Option.bind_some];rfl
  | j + 1,d,hd,hj=>by
    have p:=hd.1
    have s:=hd.2.1
    unfold Sort.insInner
    by_cases m : j + 1 > a
    · have c : decide (((j + 1 : Nat) : Int) > (a : Int)) = true:=decide_eq_true q0
      obtain ⟨r,l,h⟩:=o d[j + 1]! d[j]! (hd.2.2 _ hj) (hd.2.2 _ q0)
      by_cases f : lt d[j + 1]! d[j]! = true
      · rw [if_pos (by simp [m,f])]
        have g:=qjz o a n j _ (hd.swp (a:=j + 1) (b:=j) hj q0) q0
        refine ⟨?_,g.2⟩
        rw [Kr (a':=((j : Int),(Sort.swp d (j + 1) j).toList)) ?_]
        · exact g.1
        · simp only [Jz,c,cond_true,gx (d:=d) (k:=j + 1) q0,w1m j q0,gx (d:=d) (k:=j) q0,gxs (d:=d) (k:=j) q0,Option.bind_some,l,h,f,Int.toNat_natCast,gswp]
      · rw [if_neg (by simp [f])]
        refine ⟨K7 ?_,hd⟩
        simp only [Jz,c,cond_true,gx (d:=d) (k:=j + 1) q0,w1m j q0,gx (d:=d) (k:=j) q0,Option.bind_some,l,h,f,cond_false]
    · rw [if_neg (by simp [m])]
      have c : decide (((j + 1 : Nat) : Int) > (a : Int)) = false:=decide_eq_false q0
      refine ⟨K7 ?_,hd⟩
      simp only [Jz,c,cond_false,Option.bind_some]
theorem qrx (j : Ko q lt P) (a b n : Nat) (hb : b≤n) : ∀ (m i : Nat) (d : Array T),b - i = m→AllP n P d→i≤1000001→loop (q15 (b : Int) (a : Int) q) ((i : Int),d.toList) = some (Sort.insOuter lt a b i d).toList:=by
  intro m
  induction m with
  | zero=>
    intro i d f hd hi
    unfold Sort.insOuter
    rw [if_neg q0]
    have c : decide ((i : Int) < (b : Int)) = false:=decide_eq_false q0
    exact K7 (by simp only [q15,c,cond_false])
  | succ m ih=>
    intro i d f hd hi
    unfold Sort.insOuter
    rw [if_pos q0]
    have c : decide ((i : Int) < (b : Int)) = true:=decide_eq_true q0
    obtain ⟨h,g⟩:=qjz j a n i d hd q0
    have:=hd.2.1
    rw [Kr (a':=(((i + 1 : Nat) : Int),(Sort.insInner lt a i d).toList)) ?_]
    · exact ih (i + 1) _ q0 g q0
    · simp only [q15,c,cond_true,h,Option.bind_some,w1p i q0]
theorem qrz (f : Ko q lt P) {a b n : Nat} (hb : b≤n) (c : a≤b) {d : Array T} (hd : AllP n P d) : q24 q d.toList (a : Int) (b : Int) = some (Sort.insertionSort lt d a b).toList:=by
  have:=hd.2.1
  unfold q24 Sort.insertionSort
  rw [w1p a q0,qrx f a b n hb _ (a + 1) d rfl hd q0]
  rfl
theorem qxw (hq : Ko q lt P) (hi first n : Nat) (hb : first + hi≤n) : ∀ (m root : Nat) (d : Array T),hi - root = m→AllP n P d→root≤1000000→(root < hi∨hi≤1)→loop (U2 (hi : Int) (first : Int) q) ((root : Int),d.toList) = some (Sort.siftDown lt hi first root d).toList∧AllP n P (Sort.siftDown lt hi first root d):=by
  intro m
  induction m using Nat.strongRecOn with
  | _ m ih=>
    intro root d hm hd hr an
    have am:=hd.1
    have hn:=hd.2.1
    unfold Sort.siftDown
    have z : w64 ((w64 (2 * (root : Int))) + 1) = ((2 * root + 1 : Nat) : Int):=by rw [Qe (x:=2 * (root : Int)) q0,Qe q0];omega
    by_cases hc : 2 * root + 1 ≥ hi
    · rw [dif_pos hc]
      have u : decide (((2 * root + 1 : Nat) : Int) ≥ (hi : Int)) = true:=decide_eq_true q0
      refine ⟨K7 ?_,hd⟩
      simp only [U2,z,u,cond_true]
    · rw [dif_neg hc]
      have u : decide (((2 * root + 1 : Nat) : Int) ≥ (hi : Int)) = false:=decide_eq_false q0
      have e2 : w64 (((2 * root + 1 : Nat) : Int) + 1) = ((2 * root + 2 : Nat) : Int):=w1p _ q0
      have e3 : w64 ((first : Int) + ((2 * root + 1 : Nat) : Int)) = ((first + (2 * root + 1) : Nat) : Int):=by rw [Qe q0];omega
      have e4 : w64 ((first : Int) + ((2 * root + 2 : Nat) : Int)) = ((first + (2 * root + 2) : Nat) : Int):=by rw [Qe q0];omega
      have e5 : w64 ((first : Int) + (root : Int)) = ((first + root : Nat) : Int):=by rw [Qe q0];omega
      have e6 : w64 (((first + (2 * root + 1) : Nat) : Int) + 1) = ((first + (2 * root + 2) : Nat) : Int):=w1p _ q0
      have x1:=gx (d:=d) (k:=first + (2 * root + 1)) q0
      have x0:=gx (d:=d) (k:=first + root) q0
      have child : ∀ c,(c = 2 * root + 1∨c = 2 * root + 2)→c < hi→
          (∀ (h : (cond (decide (((2 * root + 2 : Nat) : Int) < (hi : Int))) ((idx d.toList ((first + (2 * root + 1) : Nat) : Int)).bind fun j=>(idx d.toList ((first + (2 * root + 2) : Nat) : Int)).bind fun t=>(q j t).bind fun s=>some (decide (s < 0))) (some false)) = some (decide (c = 2 * root + 2))),
          (loop (U2 (hi : Int) (first : Int) q) ((root : Int),d.toList) = some (if (!lt d[first + root]! d[first + c]!) = true then d else Sort.siftDown lt hi first c (Sort.swp d (first + root) (first + c))).toList)∧AllP n P (if (!lt d[first + root]! d[first + c]!) = true then d else Sort.siftDown lt hi first c (Sort.swp d (first + root) (first + c)))):=by
        intro c y aa h
        have xc:=gx (d:=d) (k:=first + c) q0
        have xs:=fun v=>gxs (d:=d) (k:=first + c) (i:=first + root) (v:=v) q0
        obtain ⟨r,l,g⟩:=hq d[first + root]! d[first + c]! (hd.2.2 _ q0) (hd.2.2 _ q0)
        have hb : (cond (decide (c = 2 * root + 2)) (some ((2 * root + 2 : Nat) : Int)) (some ((2 * root + 1 : Nat) : Int))) = some (c : Int):=by
          rcases y with rfl | rfl
          · simp
          · simp
        have ec : w64 ((first : Int) + (c : Int)) = ((first + c : Nat) : Int):=by rw [Qe q0];omega
        by_cases f : lt d[first + root]! d[first + c]! = true
        · have p:=ih (hi - c) q0 c _ rfl (hd.swp (a:=first + root) (b:=first + c) q0 q0) q0 (.inl aa)
          rw [if_neg (by simp [f])]
          refine ⟨?_,p.2⟩
          rw [Kr (a':=((c : Int),(Sort.swp d (first + root) (first + c)).toList)) ?_]
          · exact p.1
          · simp only [U2,z,u,cond_false,e2,e3,e6,h,Option.bind_some,hb,e5,ec,x0,xc,xs,l,g,f,Bool.not_true,Int.toNat_natCast,gswp]
        · rw [if_pos (by simp [f])]
          refine ⟨K7 ?_,hd⟩
          simp only [U2,z,u,cond_false,e2,e3,e6,h,Option.bind_some,hb,e5,ec,x0,xc,l,g,f,Bool.not_false,cond_true]
      by_cases o : 2 * root + 2 < hi
      · have x2:=gx (d:=d) (k:=first + (2 * root + 2)) q0
        have w : decide (((2 * root + 2 : Nat) : Int) < (hi : Int)) = true:=decide_eq_true q0
        obtain ⟨r,l,g⟩:=hq d[first + (2 * root + 1)]! d[first + (2 * root + 2)]! (hd.2.2 _ q0) (hd.2.2 _ q0)
        by_cases f : lt d[first + (2 * root + 1)]! d[first + (2 * root + 2)]! = true
        · rw [if_pos (by simp only [Bool.and_eq_true,decide_eq_true_eq];exact ⟨q0,f⟩)]
          have:=child (2 * root + 2) (.inr rfl) o (by simp only [w,cond_true,x1,x2,Option.bind_some,l,g,f,decide_true])
          rw [dif_pos o]
          exact this
        · rw [if_neg (by simp only [Bool.and_eq_true,decide_eq_true_eq];rintro ⟨_,h⟩;exact f h)]
          have:=child (2 * root + 1) (.inl rfl) q0 (by simp only [w,cond_true,x1,x2,Option.bind_some,l,g,f];simp)
          exact this
      · have w : decide (((2 * root + 2 : Nat) : Int) < (hi : Int)) = false:=decide_eq_false q0
        rw [if_neg (by simp only [Bool.and_eq_true,decide_eq_true_eq];rintro ⟨h,_⟩;omega)]
        have:=child (2 * root + 1) (.inl rfl) q0 (by simp only [w,cond_false];simp)
        exact this
end
end Go.Sh
namespace Go.Sh
open Go Go.Am
section
variable {T : Type} [Inhabited T] {P : T→Prop} {lt : T→T→Bool} {q : T→T→Option Int}
theorem U6 {n : Nat} {d a : Array T} (h : AllP n P d) (b : AllP n P a) : Qu a.toList.length d.toList.length = some ():=by
  unfold Qu
  rw [if_pos (by simp [h.1,b.1])]
theorem qjj (g : Ko q lt P) (hi first n root : Nat) (hb : first + hi≤n) (d : Array T) (hd : AllP n P d) (b : root≤1000000) (c : root < hi∨hi≤1) : Un q d.toList (root : Int) (hi : Int) (first : Int) = some (Sort.siftDown lt hi first root d).toList∧AllP n P (Sort.siftDown lt hi first root d):=by
  obtain ⟨f,a⟩:=qxw g hi first n hb _ root d rfl hd b c
  exact ⟨by unfold Un;rw [f];rfl,a⟩
theorem qjr (j : Ko q lt P) (a b n : Nat) (hb : b≤n) (c : a≤b) : ∀ (k : Nat) (d : Array T),AllP n P d→(k≤b - a∨b - a = 0∧k≤1)→loop (q13 q (b : Int) (a : Int)) ((k : Int) - 1,d.toList) = some (Sort.heapBuild lt (b - a) a k d).toList∧AllP n P (Sort.heapBuild lt (b - a) a k d)
  | 0,d,hd,hk=>by
    have f : decide (((0 : Nat) : Int) - 1 ≥ 0) = false:=decide_eq_false q0
    refine ⟨K7 ?_,hd⟩
    simp only [q13,f,cond_false];rfl
  | k + 1,d,hd,hk=>by
    have o:=hd.2.1
    have e : (((k + 1 : Nat) : Int) - 1) = (k : Int):=by omega
    rw [e]
    have f : decide ((k : Int) ≥ 0) = true:=decide_eq_true q0
    obtain ⟨l,h⟩:=qjj j (b - a) a n k q0 d hd q0 q0
    have g:=qjr j a b n hb c k _ h q0
    refine ⟨?_,g.2⟩
    rw [Kr (a':=((k : Int) - 1,(Sort.siftDown lt (b - a) a k d).toList)) ?_]
    · exact g.1
    · have m : w64 ((k : Int) - 1) = (k : Int) - 1:=Qe q0
      simp only [q13,f,cond_true,wsub c (by omega : b < 2000000),l,Option.bind_some,U6 hd h,m]
theorem qjs (j : Ko q lt P) (a n : Nat) : ∀ (k : Nat) (d : Array T),AllP n P d→a + k≤n→loop (q14 (a : Int) q) ((k : Int) - 1,d.toList) = some (Sort.heapPop lt a k d).toList
  | 0,d,hd,hk=>by
    have g : decide (((0 : Nat) : Int) - 1 ≥ 0) = false:=decide_eq_false q0
    refine K7 ?_
    simp only [q14,g,cond_false];rfl
  | k + 1,d,hd,hk=>by
    have m:=hd.1
    have r:=hd.2.1
    have e : (((k + 1 : Nat) : Int) - 1) = (k : Int):=by omega
    rw [e]
    have g : decide ((k : Int) ≥ 0) = true:=decide_eq_true q0
    have c:=hd.swp (a:=a) (b:=a + k) q0 q0
    obtain ⟨f,h⟩:=qjj j k a n 0 q0 _ c q0 q0
    have l:=qjs j a n k _ h q0
    rw [Kr (a':=((k : Int) - 1,(Sort.siftDown lt k a 0 (Sort.swp d a (a + k))).toList)) ?_]
    · exact l
    · have p : w64 ((k : Int) - 1) = (k : Int) - 1:=Qe q0
      have o : w64 ((a : Int) + (k : Int)) = ((a + k : Nat) : Int):=by rw [Qe q0];omega
      have f : Un q (Sort.swp d a (a + k)).toList 0 (k : Int) (a : Int) = _:=f
      simp only [q14,g,cond_true,o,gx (d:=d) (k:=a) q0,gx (d:=d) (k:=a + k) q0,gxs (d:=d) (k:=a + k) q0,Option.bind_some,Int.toNat_natCast,gswp,f,U6 c h,p]
theorem qru (c : Ko q lt P) {a b n : Nat} (hb : b≤n) (j : a < b) {d : Array T} (hd : AllP n P d) : q23 q d.toList (a : Int) (b : Int) = some (Sort.heapSort lt d a b).toList:=by
  have m:=hd.2.1
  have h : w64 ((b : Int) - (a : Int)) = ((b - a : Nat) : Int):=wsub q0 q0
  have l : w64 (((b - a : Nat) : Int) - 1) = ((b - a : Nat) : Int) - 1:=Qe q0
  have g : w64 (Int.tdiv (((b - a : Nat) : Int) - 1) 2) = (((b - a - 1) / 2 + 1 : Nat) : Int) - 1:=by
    rw [Int.tdiv_eq_ediv_of_nonneg q0,Qe q0];omega
  obtain ⟨k,f⟩:=qjr c a b n hb q0 ((b - a - 1) / 2 + 1) d hd q0
  unfold q23 Sort.heapSort
  rw [h,l,g,k,Option.bind_some,qjs c a n (b - a) _ f q0]
  rfl
theorem qwh (n : Nat) : ∀ (m i j : Nat) (d : Array T),j - i = m→AllP n P d→j < n→i≤1000001→loop (q28 (T:=T)) ((i : Int),(j : Int),d.toList) = some (Sort.reverseLoop i j d).toList:=by
  intro m
  induction m using Nat.strongRecOn with
  | _ m ih=>
    intro i j d h hd f hi
    have c:=hd.1
    have l:=hd.2.1
    unfold Sort.reverseLoop
    by_cases b : i < j
    · rw [if_pos b]
      have a : decide ((i : Int) < (j : Int)) = true:=decide_eq_true q0
      have g : w64 ((j : Int) - 1) = ((j - 1 : Nat) : Int):=by rw [Qe q0];omega
      rw [Kr (a':=(((i + 1 : Nat) : Int),((j - 1 : Nat) : Int),(Sort.swp d i j).toList)) ?_]
      · exact ih _ q0 _ _ _ rfl (hd.swp q0 f) q0 q0
      · simp only [q28,a,cond_true,gx (d:=d) (k:=i) q0,gx (d:=d) (k:=j) q0,gxs (d:=d) (k:=j) q0,Option.bind_some,Int.toNat_natCast,gswp,g,w1p i q0]
    · rw [if_neg b]
      have a : decide ((i : Int) < (j : Int)) = false:=decide_eq_false q0
      exact K7 (by simp only [q28,a,cond_false])
theorem qwi {a b n : Nat} (hb : b≤n) (c : a < b) {d : Array T} (hd : AllP n P d) : q1a q d.toList (a : Int) (b : Int) = some (Sort.reverseRange d a b).toList:=by
  have g:=hd.2.1
  have f : w64 ((b : Int) - 1) = ((b - 1 : Nat) : Int):=by rw [Qe q0];omega
  unfold q1a Sort.reverseRange
  rw [f,qwh n _ a (b - 1) d rfl hd q0 q0]
  rfl
theorem qft (l : Ko q lt P) {n : Nat} {d : Array T} (hd : AllP n P d) {a b s : Nat} (f : a < n) (hb : b < n) (hs : s≤1000) : Ug q d.toList (a : Int) (b : Int) (s : Int) = some (((Sort.order2 lt d a b s).1 : Int),((Sort.order2 lt d a b s).2.1 : Int),((Sort.order2 lt d a b s).2.2 : Int))∧(Sort.order2 lt d a b s).1 < n∧(Sort.order2 lt d a b s).2.1 < n∧(Sort.order2 lt d a b s).2.2≤s + 1:=by
  have g:=hd.1
  obtain ⟨r,j,h⟩:=l d[b]! d[a]! (hd.2.2 _ hb) (hd.2.2 _ f)
  unfold Ug Sort.order2
  rw [gx (d:=d) (k:=b) q0,gx (d:=d) (k:=a) q0]
  simp only [Option.bind_some,j,h]
  by_cases c : lt d[b]! d[a]! = true
  · rw [if_pos c]
    simp only [c,cond_true,w1p s q0]
    exact ⟨trivial,hb,f,q0⟩
  · rw [if_neg c]
    have : lt d[b]! d[a]! = false:=by simpa using c
    simp only [this,cond_false]
    exact ⟨trivial,f,hb,q0⟩
theorem qfd (f : Ko q lt P) {n : Nat} {d : Array T} (hd : AllP n P d) {a b c s : Nat} (o : a < n) (hb : b < n) (g : c < n) (hs : s≤900) : Uf q d.toList (a : Int) (b : Int) (c : Int) (s : Int) = some (((Sort.median lt d a b c s).1 : Int),((Sort.median lt d a b c s).2 : Int))∧(Sort.median lt d a b c s).1 < n∧(Sort.median lt d a b c s).2≤s + 3:=by
  obtain ⟨m,p,b1,c1⟩:=qft f hd o hb (s:=s) q0
  obtain ⟨j,h,r,c2⟩:=qft f hd b1 g (s:=(Sort.order2 lt d a b s).2.2) q0
  obtain ⟨k,t,l,c3⟩:=qft f hd p h (s:=(Sort.order2 lt d (Sort.order2 lt d a b s).2.1 c (Sort.order2 lt d a b s).2.2).2.2) q0
  unfold Uf Sort.median
  simp only [m,j,k,Option.bind_some]
  exact ⟨trivial,l,q0⟩
theorem qfc (k : Ko q lt P) {n : Nat} {d : Array T} (hd : AllP n P d) {a s : Nat} (l : 1≤a) (f : a + 1 < n) (hs : s≤900) : U0 q d.toList (a : Int) (s : Int) = some (((Sort.medianAdjacent lt d a s).1 : Int),((Sort.medianAdjacent lt d a s).2 : Int))∧(Sort.medianAdjacent lt d a s).1 < n∧(Sort.medianAdjacent lt d a s).2≤s + 3:=by
  have m:=hd.2.1
  obtain ⟨j,g,h⟩:=qfd k hd (a:=a - 1) (b:=a) (c:=a + 1) (s:=s) q0 q0 f hs
  have e : w64 ((a : Int) - 1) = ((a - 1 : Nat) : Int):=by rw [Qe q0];omega
  unfold U0 Sort.medianAdjacent
  rw [e,w1p a q0,j]
  exact ⟨rfl,g,h⟩
def qey : Sort.Hint→Int
  | .unknown=>0
  | .increasing=>1
  | .decreasing=>2
theorem qq3 (j : Ko q lt P) {n : Nat} {d : Array T} (hd : AllP n P d) {a b : Nat} (ag : a < b) (hb : b≤n) : q22 d.toList (a : Int) (b : Int) q = some (((Sort.choosePivot lt d a b).1 : Int),qey (Sort.choosePivot lt d a b).2):=by
  have hn:=hd.2.1
  have e0 : w64 ((b : Int) - (a : Int)) = ((b - a : Nat) : Int):=wsub q0 q0
  have e1 : w64 (Int.tdiv ((b - a : Nat) : Int) 4) = (((b - a) / 4 : Nat) : Int):=by
    rw [Int.tdiv_eq_ediv_of_nonneg q0,Qe q0];omega
  have y : ∀ k : Nat,k≤3→w64 ((a : Int) + (w64 ((((b - a) / 4 : Nat) : Int) * (k : Int)))) = ((a + (b - a) / 4 * k : Nat) : Int):=by
    intro k hk
    have : (b - a) / 4 * k≤(b - a) / 4 * 3:=Nat.mul_le_mul_left _ hk
    have e : ((((b - a) / 4 : Nat) : Int) * (k : Int)) = (((b - a) / 4 * k : Nat) : Int):=by push_cast;rfl
    rw [e,Qe (x:=(((b - a) / 4 * k : Nat) : Int)) q0,Qe q0];omega
  have u:=y 1 q0
  have h:=y 2 q0
  have l:=y 3 q0
  have f : ∀ r : Nat × Nat,(cond (((r.2 : Int)) == 0) (some ((r.1 : Int),(1 : Int))) (cond (((r.2 : Int)) == 12) (some ((r.1 : Int),(2 : Int))) (some ((r.1 : Int),(0 : Int))))) = some ((r.1 : Int),qey (if r.2 = 0 then Sort.Hint.increasing else if r.2 = 12 then Sort.Hint.decreasing else Sort.Hint.unknown)):=by
    intro r
    by_cases w : r.2 = 0
    · have : ((r.2 : Int) == 0) = true:=by simp [w]
      simp only [this,cond_true,if_pos w];rfl
    · have t0 : ((r.2 : Int) == 0) = false:=by simp;omega
      by_cases m : r.2 = 12
      · have : ((r.2 : Int) == 12) = true:=by simp;omega
        simp only [t0,this,cond_true,cond_false,if_neg w,if_pos m];rfl
      · have : ((r.2 : Int) == 12) = false:=by simp;omega
        simp only [t0,this,cond_false,if_neg w,if_neg m];rfl
  unfold q22 Sort.choosePivot
  simp only [e0,e1]
  by_cases h8 : b - a ≥ 8
  · have v : decide (((b - a : Nat) : Int) ≥ 8) = true:=decide_eq_true q0
    by_cases o : b - a ≥ 50
    · have g : decide (((b - a : Nat) : Int) ≥ 50) = true:=decide_eq_true q0
      obtain ⟨x1,y1,z1⟩:=qfc j hd (a:=a + (b - a) / 4 * 1) (s:=0) q0 q0 q0
      obtain ⟨x2,y2,z2⟩:=qfc j hd (a:=a + (b - a) / 4 * 2) (s:=(Sort.medianAdjacent lt d (a + (b - a) / 4 * 1) 0).2) q0 q0 q0
      obtain ⟨x3,y3,z3⟩:=qfc j hd (a:=a + (b - a) / 4 * 3) (s:=(Sort.medianAdjacent lt d (a + (b - a) / 4 * 2) (Sort.medianAdjacent lt d (a + (b - a) / 4 * 1) 0).2).2) q0 q0 q0
      obtain ⟨p,y4,z4⟩:=qfd j hd y1 y2 y3 (s:=(Sort.medianAdjacent lt d (a + (b - a) / 4 * 3) (Sort.medianAdjacent lt d (a + (b - a) / 4 * 2) (Sort.medianAdjacent lt d (a + (b - a) / 4 * 1) 0).2).2).2) q0
      simp only [if_pos h8,if_pos o,v,g,cond_true]
      have z : w64 ((a : Int) + (w64 ((((b - a) / 4 : Nat) : Int) * 1))) = _:=u
      have t : w64 ((a : Int) + (w64 ((((b - a) / 4 : Nat) : Int) * 2))) = _:=h
      have g3 : w64 ((a : Int) + (w64 ((((b - a) / 4 : Nat) : Int) * 3))) = _:=l
      have x1 : U0 q d.toList ((a + (b - a) / 4 * 1 : Nat) : Int) 0 = _:=x1
      rw [z,t,g3]
      simp only [x1,x2,x3,p,Option.bind_some]
      exact f _
    · have g : decide (((b - a : Nat) : Int) ≥ 50) = false:=decide_eq_false q0
      obtain ⟨p,y4,z4⟩:=qfd j hd (a:=a + (b - a) / 4 * 1) (b:=a + (b - a) / 4 * 2) (c:=a + (b - a) / 4 * 3) (s:=0) q0 q0 q0 q0
      simp only [if_pos h8,if_neg o,v,g,cond_true,cond_false]
      have z : w64 ((a : Int) + (w64 ((((b - a) / 4 : Nat) : Int) * 1))) = _:=u
      have t : w64 ((a : Int) + (w64 ((((b - a) / 4 : Nat) : Int) * 2))) = _:=h
      have g3 : w64 ((a : Int) + (w64 ((((b - a) / 4 : Nat) : Int) * 3))) = _:=l
      have p : Uf q d.toList ((a + (b - a) / 4 * 1 : Nat) : Int) ((a + (b - a) / 4 * 2 : Nat) : Int) ((a + (b - a) / 4 * 3 : Nat) : Int) 0 = _:=p
      rw [z,t,g3]
      simp only [p,Option.bind_some]
      exact f _
  · have v : decide (((b - a : Nat) : Int) ≥ 8) = false:=decide_eq_false q0
    simp only [if_neg h8,v,cond_false]
    have t : w64 ((a : Int) + (w64 ((((b - a) / 4 : Nat) : Int) * 2))) = _:=h
    rw [t]
    simp only [Option.bind_some]
    exact f (a + (b - a) / 4 * 2,0)
end
end Go.Sh
namespace Go.Sh
open Go Go.Am
theorem q1t (n : Int) : IntKind.u64.wrap n = n % 18446744073709551616:=by simp [IntKind.wrap,IntKind.bits,IntKind.signed]
theorem q13c (n : Int) : IntKind.u8.wrap n = n % 256:=by simp [IntKind.wrap,IntKind.bits,IntKind.signed]
theorem xorU (a b : Nat) (c : a < 18446744073709551616) (hb : b < 18446744073709551616) : xorI .u64 (a : Int) (b : Int) = ((a ^^^ b : Nat) : Int):=by
  have d : a ^^^ b < 2 ^ 64:=Nat.xor_lt_two_pow q0 q0
  unfold xorI
  rw [q1t]
  show ((BitVec.ofInt 64 (a : Int) ^^^ BitVec.ofInt 64 (b : Int)).toNat : Int) % _ = _
  rw [BitVec.ofInt_natCast,BitVec.ofInt_natCast,BitVec.toNat_xor,BitVec.toNat_ofNat,BitVec.toNat_ofNat,Nat.mod_eq_of_lt (a:=a) q0,Nat.mod_eq_of_lt (a:=b) q0]
  omega
theorem andU (a b : Nat) (c : a < 18446744073709551616) (hb : b < 18446744073709551616) : andI .u64 (a : Int) (b : Int) = ((a &&& b : Nat) : Int):=by
  have d : a &&& b≤a:=Nat.and_le_left
  unfold andI
  rw [q1t]
  show ((BitVec.ofInt 64 (a : Int) &&& BitVec.ofInt 64 (b : Int)).toNat : Int) % _ = _
  rw [BitVec.ofInt_natCast,BitVec.ofInt_natCast,BitVec.toNat_and,BitVec.toNat_ofNat,BitVec.toNat_ofNat,Nat.mod_eq_of_lt (a:=a) q0,Nat.mod_eq_of_lt (a:=b) q0]
  omega
theorem q13f (X : Nat) (d : X < 18446744073709551616) : q29 (X : Int) = some ((Sort.xorNextN X : Nat) : Int):=by
  obtain ⟨A,a⟩ : ∃ A : Nat,A = X ^^^ (X * 8192 % 18446744073709551616):=⟨_,rfl⟩
  obtain ⟨B,b⟩ : ∃ B : Nat,B = A ^^^ (A / 128):=⟨_,rfl⟩
  have f : A < 18446744073709551616:=by rw [a];exact Nat.xor_lt_two_pow (n:=64) q0 q0
  have c : B < 18446744073709551616:=by rw [b];exact Nat.xor_lt_two_pow (n:=64) q0 q0
  have g : xorI .u64 (X : Int) (IntKind.u64.wrap ((X : Int) * 2 ^ 13)) = (A : Int):=by
    rw [q1t,show ((X : Int) * 2 ^ 13 % 18446744073709551616) = ((X * 8192 % 18446744073709551616 : Nat) : Int) by omega,xorU _ _ d q0,a]
  have k : xorI .u64 (A : Int) (Int.fdiv (A : Int) (2 ^ 7)) = (B : Int):=by
    rw [Int.fdiv_eq_ediv_of_nonneg _ qs,show ((A : Int) / 2 ^ 7) = ((A / 128 : Nat) : Int) by omega,xorU _ _ f q0,b]
  have h : xorI .u64 (B : Int) (IntKind.u64.wrap ((B : Int) * 2 ^ 17)) = ((B ^^^ (B * 131072 % 18446744073709551616) : Nat) : Int):=by
    rw [q1t,show ((B : Int) * 2 ^ 17 % 18446744073709551616) = ((B * 131072 % 18446744073709551616 : Nat) : Int) by omega,xorU _ _ c q0]
  have j : Sort.xorNextN X = B ^^^ (B * 131072 % 18446744073709551616):=by unfold Sort.xorNextN;simp only [];rw [← a,← b]
  unfold q29
  rw [g,k,h,j]
theorem q12g : ∀ k : Nat,k < 256→q4e q4z (k : Int) = some ((Sort.bitsLen k : Nat) : Int):=by
  have key : ∀ k : Fin 256,(q4z[k.1]?).map (fun b=>b.toNat) = some (Sort.bitsLen k.1):=by decide +kernel
  intro k d
  have:=key ⟨k,d⟩
  unfold q4e
  rw [if_pos q0,Int.toNat_natCast]
  simp only [Option.map_eq_some_iff] at this ⊢
  obtain ⟨b,a,c⟩:=this
  exact ⟨b,a,by rw [c]⟩
theorem qhn (n k : Nat) (h : 2 ^ k≤n) : Sort.bitsLen n = Sort.bitsLen (n / 2 ^ k) + k:=by
  have hp : 0 < 2 ^ k:=Nat.two_pow_pos k
  apply Nat.le_antisymm
  · rw [Sort.bitsLen_le_iff]
    have:=Sort.lt_two_pow_bitsLen (n / 2 ^ k)
    rw [Nat.pow_add]
    exact (Nat.div_lt_iff_lt_mul hp).1 this
  · have b : k < Sort.bitsLen n:=by
      rcases Nat.lt_or_ge k (Sort.bitsLen n) with a | a
      · exact a
      · have:=(Sort.bitsLen_le_iff n k).1 a;omega
    have : Sort.bitsLen (n / 2 ^ k)≤Sort.bitsLen n - k:=by
      rw [Sort.bitsLen_le_iff,Nat.div_lt_iff_lt_mul hp,← Nat.pow_add,Nat.sub_add_cancel q0]
      exact Sort.lt_two_pow_bitsLen n
    omega
theorem qke (n : Nat) (j : n≤1000000) : q11 (n : Int) = some ((Sort.bitsLen n : Nat) : Int):=by
  unfold q11 q38
  have f : decide ((n : Int) ≥ 4294967296) = false:=decide_eq_false q0
  simp only [f,cond_false,Option.bind_some]
  have fin : ∀ m s : Nat,m < 256→s≤16→(q4e q4z (IntKind.u8.wrap (m : Int))).bind (fun b=>some (w64 ((s : Int) + (w64 b)))) = some ((Sort.bitsLen m + s : Nat) : Int):=by
    intro m s d hs
    rw [q13c,show ((m : Int) % 256) = (m : Int) by omega,q12g m d]
    have : Sort.bitsLen m≤8:=(Sort.bitsLen_le_iff m 8).2 q0
    rw [Option.bind_some,Qe (x:=((Sort.bitsLen m : Nat) : Int)) q0,Qe q0]
    congr 1;omega
  by_cases h : n ≥ 65536
  · have c : decide ((n : Int) ≥ 65536) = true:=decide_eq_true q0
    have e : Int.fdiv (n : Int) (2 ^ 16) = ((n / 65536 : Nat) : Int):=by rw [Int.fdiv_eq_ediv_of_nonneg _ qs];omega
    have a : decide (((n / 65536 : Nat) : Int) ≥ 256) = false:=decide_eq_false q0
    have w : w64 (0 + 16) = ((16 : Nat) : Int):=by rw [Qe q0];rfl
    simp only [c,cond_true,Option.bind_some,e,a,cond_false,w]
    rw [fin (n / 65536) 16 q0 q0,Option.bind_some,qhn n 16 q0]
  · have c : decide ((n : Int) ≥ 65536) = false:=decide_eq_false q0
    simp only [c,cond_false,Option.bind_some]
    by_cases g : n ≥ 256
    · have a : decide ((n : Int) ≥ 256) = true:=decide_eq_true q0
      have e : Int.fdiv (n : Int) (2 ^ 8) = ((n / 256 : Nat) : Int):=by rw [Int.fdiv_eq_ediv_of_nonneg _ qs];omega
      have w : w64 (0 + 8) = ((8 : Nat) : Int):=by rw [Qe q0];rfl
      simp only [a,cond_true,Option.bind_some,e,w]
      rw [fin (n / 256) 8 q0 q0,Option.bind_some,qhn n 8 q0]
    · have a : decide ((n : Int) ≥ 256) = false:=decide_eq_false q0
      simp only [a,cond_false,Option.bind_some]
      have:=fin n 0 q0 q0
      exact congrArg (fun o=>Option.bind o some) this
theorem qt4 (n : Nat) (a : n≤1000000) : q25 (n : Int) = some ((1 <<< Sort.bitsLen n : Nat) : Int):=by
  unfold q25
  rw [q1t,show ((n : Int) % 18446744073709551616) = (n : Int) by omega,qke n a]
  have b : Sort.bitsLen n≤20:=(Sort.bitsLen_le_iff n 20).2 q0
  have h : (2 : Nat) ^ Sort.bitsLen n≤2 ^ 20:=Nat.pow_le_pow_right qs b
  have e : min (Sort.bitsLen n) IntKind.u64.bits = Sort.bitsLen n:=Nat.min_eq_left (by show _≤64;omega)
  simp only [Option.bind_some,shlK]
  rw [if_neg q0,Int.toNat_natCast,e,q1t,Nat.one_shiftLeft,Option.bind_some,show ((1 : Int) * (2 : Int) ^ Sort.bitsLen n) = ((2 ^ Sort.bitsLen n : Nat) : Int) by push_cast;omega]
  generalize (2 : Nat) ^ Sort.bitsLen n = p at h
  congr 1;omega
section
variable {T : Type} [Inhabited T] {P : T→Prop} {lt : T→T→Bool} {q : T→T→Option Int}
theorem qdw {a b n : Nat} (hb : b≤n) (h8 : 8≤b - a) {d : Array T} (hd : AllP n P d) (k : Nat) (hk : k≤2) (r : UInt64) :
    Ue (a : Int) (b : Int) ((1 <<< Sort.bitsLen (b - a) : Nat) : Int) (((a + (b - a) / 4 * 2 - 1 + k : Nat) : Int),d.toList,((r.toNat : Nat) : Int)) =
      some (.inl (((a + (b - a) / 4 * 2 - 1 + k + 1 : Nat) : Int),(Sort.breakStep a (b - a) (1 <<< Sort.bitsLen (b - a)) (r,d) (a + (b - a) / 4 * 2 - 1 + k)).2.toList,(((Sort.breakStep a (b - a) (1 <<< Sort.bitsLen (b - a)) (r,d) (a + (b - a) / 4 * 2 - 1 + k)).1.toNat : Nat) : Int)))∧
      AllP n P (Sort.breakStep a (b - a) (1 <<< Sort.bitsLen (b - a)) (r,d) (a + (b - a) / 4 * 2 - 1 + k)).2:=by
  have ab:=hd.1
  have hn:=hd.2.1
  have q : r.toNat < 18446744073709551616:=r.toNat_lt
  have e0 : w64 ((b : Int) - (a : Int)) = ((b - a : Nat) : Int):=wsub q0 q0
  have e1 : w64 (Int.tdiv ((b - a : Nat) : Int) 4) = (((b - a) / 4 : Nat) : Int):=by
    rw [Int.tdiv_eq_ediv_of_nonneg q0,Qe q0];omega
  have x : w64 ((((b - a) / 4 : Nat) : Int) * 2) = (((b - a) / 4 * 2 : Nat) : Int):=by rw [Qe q0];omega
  have w : w64 ((a : Int) + (((b - a) / 4 * 2 : Nat) : Int)) = ((a + (b - a) / 4 * 2 : Nat) : Int):=by rw [Qe q0];omega
  have e4 : w64 (((a + (b - a) / 4 * 2 : Nat) : Int) + 1) = ((a + (b - a) / 4 * 2 + 1 : Nat) : Int):=w1p _ q0
  have v : decide (((a + (b - a) / 4 * 2 - 1 + k : Nat) : Int)≤((a + (b - a) / 4 * 2 + 1 : Nat) : Int)) = true:=decide_eq_true q0
  have hx:=q13f r.toNat q
  have hX : Sort.xorNextN r.toNat < 18446744073709551616:=Sort.xorNextN_lt _ q
  have f : Sort.bitsLen (b - a)≤20:=(Sort.bitsLen_le_iff _ 20).2 q0
  have h : (2 : Nat) ^ Sort.bitsLen (b - a)≤2 ^ 20:=Nat.pow_le_pow_right qs f
  have hp1 : 0 < (2 : Nat) ^ Sort.bitsLen (b - a):=Nat.two_pow_pos _
  have ad:=Sort.two_pow_bitsLen_le (n:=b - a) q0
  have c : (1 : Nat) <<< Sort.bitsLen (b - a) = 2 ^ Sort.bitsLen (b - a):=Nat.one_shiftLeft _
  have z : IntKind.u64.wrap (((1 <<< Sort.bitsLen (b - a) : Nat) : Int) - 1) = ((1 <<< Sort.bitsLen (b - a) - 1 : Nat) : Int):=by
    rw [q1t,c]
    generalize (2 : Nat) ^ Sort.bitsLen (b - a) = p at h hp1
    omega
  have g : (Sort.xorNextN r.toNat) &&& (1 <<< Sort.bitsLen (b - a) - 1) < 2 ^ Sort.bitsLen (b - a):=by
    rw [c]
    have : (Sort.xorNextN r.toNat) &&& (2 ^ Sort.bitsLen (b - a) - 1)≤2 ^ Sort.bitsLen (b - a) - 1:=Nat.and_le_right
    omega
  have s:=andU (Sort.xorNextN r.toNat) (1 <<< Sort.bitsLen (b - a) - 1) hX (by rw [c];omega)
  unfold Sort.breakStep
  simp only [Sort.xorNext_toNat]
  generalize hm : (Sort.xorNextN r.toNat) &&& (1 <<< Sort.bitsLen (b - a) - 1) = m at g s
  have u : m < 2 * (b - a):=by omega
  have ew : w64 (m : Int) = (m : Int):=Qe q0
  have l : (cond (decide ((m : Int) ≥ ((b - a : Nat) : Int))) (some (w64 ((m : Int) - ((b - a : Nat) : Int)))) (some (m : Int))) = some (((if m ≥ b - a then m - (b - a) else m) : Nat) : Int):=by
    by_cases j : m ≥ b - a
    · have t : decide ((m : Int) ≥ ((b - a : Nat) : Int)) = true:=decide_eq_true q0
      rw [t,cond_true,if_pos j,wsub j q0]
    · have t : decide ((m : Int) ≥ ((b - a : Nat) : Int)) = false:=decide_eq_false q0
      rw [t,cond_false,if_neg j]
  have ho : (if m ≥ b - a then m - (b - a) else m) < b - a:=by split <;> omega
  generalize (if m ≥ b - a then m - (b - a) else m) = o at l ho
  have y : w64 ((a : Int) + (o : Int)) = ((a + o : Nat) : Int):=by rw [Qe q0];omega
  refine ⟨?_,hd.swp q0 q0⟩
  simp only [Ue,e0,e1,x,w,e4,v,cond_true,hx,Option.bind_some,z,s,ew,l,y,gx (d:=d) (k:=a + o) q0,gx (d:=d) (k:=a + (b - a) / 4 * 2 - 1 + k) q0,gxs (d:=d) (k:=a + o) q0,Int.toNat_natCast,gswp,w1p (a + (b - a) / 4 * 2 - 1 + k) q0]
theorem qp5 {a b n : Nat} (hb : b≤n) (w : a < b) {d : Array T} (hd : AllP n P d) : q12 q d.toList (a : Int) (b : Int) = some (Sort.breakPatterns d a b).toList:=by
  have z:=hd.2.1
  have r : w64 ((b : Int) - (a : Int)) = ((b - a : Nat) : Int):=wsub q0 q0
  unfold q12 Sort.breakPatterns
  simp only [r]
  by_cases c : b - a ≥ 8
  · have t : decide (((b - a : Nat) : Int) ≥ 8) = true:=decide_eq_true q0
    rw [t,cond_true,if_pos c,qt4 _ q0,Option.bind_some]
    have g : w64 (Int.tdiv ((b - a : Nat) : Int) 4) = (((b - a) / 4 : Nat) : Int):=by
      rw [Int.tdiv_eq_ediv_of_nonneg q0,Qe q0];omega
    have p : w64 ((((b - a) / 4 : Nat) : Int) * 2) = (((b - a) / 4 * 2 : Nat) : Int):=by rw [Qe q0];omega
    have l : w64 ((a : Int) + (((b - a) / 4 * 2 : Nat) : Int)) = ((a + (b - a) / 4 * 2 : Nat) : Int):=by rw [Qe q0];omega
    have y : w64 (((a + (b - a) / 4 * 2 : Nat) : Int) - 1) = ((a + (b - a) / 4 * 2 - 1 : Nat) : Int):=by rw [Qe q0];omega
    have v : IntKind.u64.wrap ((b - a : Nat) : Int) = (((UInt64.ofNat (b - a)).toNat : Nat) : Int):=by
      rw [q1t,UInt64.toNat_ofNat'];omega
    rw [g,p,l,y,v]
    obtain ⟨k,o⟩:=qdw hb c hd 0 q0 (UInt64.ofNat (b - a))
    obtain ⟨m,j⟩:=qdw hb c o 1 q0 (Sort.breakStep a (b - a) (1 <<< Sort.bitsLen (b - a)) (UInt64.ofNat (b - a),d) (a + (b - a) / 4 * 2 - 1 + 0)).1
    obtain ⟨h,x⟩:=qdw hb c j 2 q0 (Sort.breakStep a (b - a) (1 <<< Sort.bitsLen (b - a)) ((Sort.breakStep a (b - a) (1 <<< Sort.bitsLen (b - a)) (UInt64.ofNat (b - a),d) (a + (b - a) / 4 * 2 - 1 + 0)).1,(Sort.breakStep a (b - a) (1 <<< Sort.bitsLen (b - a)) (UInt64.ofNat (b - a),d) (a + (b - a) / 4 * 2 - 1 + 0)).2) (a + (b - a) / 4 * 2 - 1 + 1)).1
    simp only [Nat.add_zero,Prod.eta] at k m h o j x
    rw [Kr k,Kr m,Kr h]
    have f : Ue (T:=T) (a : Int) (b : Int) ((1 <<< Sort.bitsLen (b - a) : Nat) : Int) (((a + (b - a) / 4 * 2 - 1 + 2 + 1 : Nat) : Int),(Sort.breakStep a (b - a) (1 <<< Sort.bitsLen (b - a)) (Sort.breakStep a (b - a) (1 <<< Sort.bitsLen (b - a)) (Sort.breakStep a (b - a) (1 <<< Sort.bitsLen (b - a)) (UInt64.ofNat (b - a),d) (a + (b - a) / 4 * 2 - 1)) (a + (b - a) / 4 * 2 - 1 + 1)) (a + (b - a) / 4 * 2 - 1 + 2)).2.toList,(((Sort.breakStep a (b - a) (1 <<< Sort.bitsLen (b - a)) (Sort.breakStep a (b - a) (1 <<< Sort.bitsLen (b - a)) (Sort.breakStep a (b - a) (1 <<< Sort.bitsLen (b - a)) (UInt64.ofNat (b - a),d) (a + (b - a) / 4 * 2 - 1)) (a + (b - a) / 4 * 2 - 1 + 1)) (a + (b - a) / 4 * 2 - 1 + 2)).1.toNat : Nat) : Int)) = some (.inr (Sort.breakStep a (b - a) (1 <<< Sort.bitsLen (b - a)) (Sort.breakStep a (b - a) (1 <<< Sort.bitsLen (b - a)) (Sort.breakStep a (b - a) (1 <<< Sort.bitsLen (b - a)) (UInt64.ofNat (b - a),d) (a + (b - a) / 4 * 2 - 1)) (a + (b - a) / 4 * 2 - 1 + 1)) (a + (b - a) / 4 * 2 - 1 + 2)).2.toList):=by
      have s : w64 (((a + (b - a) / 4 * 2 : Nat) : Int) + 1) = ((a + (b - a) / 4 * 2 + 1 : Nat) : Int):=w1p _ q0
      have u : decide (((a + (b - a) / 4 * 2 - 1 + 2 + 1 : Nat) : Int)≤((a + (b - a) / 4 * 2 + 1 : Nat) : Int)) = false:=decide_eq_false q0
      simp only [Ue,r,g,p,l,s,u,cond_false]
    rw [K7 f]
    rfl
  · have t : decide (((b - a : Nat) : Int) ≥ 8) = false:=decide_eq_false q0
    rw [t,cond_false,if_neg c]
end
end Go.Sh
