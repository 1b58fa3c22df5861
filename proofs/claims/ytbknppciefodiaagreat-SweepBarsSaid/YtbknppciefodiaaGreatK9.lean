/- Pl1 Pl2 Pl3 Pg0 Pg1 Pg2 Pg3 -/
import Derived.Test.YtbknppciefodiaaGreatK8
import Derived.Sort.AssemblyPlain
import Derived.Sort.LotD5
namespace Go.Sh
open Go Go.Am
def has (s : List qm) (x : Int) : Prop:=∃ t∈s,t.Lo≤x∧x < t.Hi
def Can (s : List qm) : Prop:=(∀ t∈s,t.Lo < t.Hi)∧s.Pairwise (fun a b=>a.Hi < b.Lo)
def vld (t : qm) : Prop:=t.Lo < t.Hi∧-1000000≤t.Lo∧t.Hi≤1000000
instance (t : qm) : Decidable (vld t):=by unfold vld;exact inferInstance
def Good (s : List qm) : Prop:=(∀ t∈s,vld t)∧s.Pairwise (fun a b=>a.Hi < b.Lo)
theorem Good.can {s : List qm} (h : Good s) : Can s:=⟨fun t ht=>(h.1 t ht).1,h.2⟩
theorem Ut (x : Int) : ¬ has [] x:=by rintro ⟨t,h,_⟩;cases h
theorem Z7 {a : qm} {s : List qm} {x : Int} : has (a::s) x↔(a.Lo≤x∧x < a.Hi)∨has s x:=by
  constructor
  · rintro ⟨t,ht,h⟩
    rcases List.mem_cons.1 ht with rfl | ht
    · exact .inl h
    · exact .inr ⟨t,ht,h⟩
  · rintro (h | ⟨t,ht,h⟩)
    · exact ⟨a,qd,h⟩
    · exact ⟨t,by simp [ht],h⟩
theorem qoq {a b : List qm} {x : Int} : has (a ++ b) x↔has a x∨has b x:=by
  induction a with
  | nil=>simp [Ut]
  | cons t r ih=>simp only [List.cons_append,Z7,ih,or_assoc]
theorem Can.tail {a : qm} {s : List qm} (h : Can (a::s)) : Can s:=⟨fun t ht=>h.1 t (by simp [ht]),(List.pairwise_cons.1 h.2).2⟩
theorem Can.lt {a : qm} {s : List qm} (h : Can (a::s)) : ∀ t∈s,a.Hi < t.Lo:=(List.pairwise_cons.1 h.2).1
theorem Can.tail_gt {a : qm} {s : List qm} (h : Can (a::s)) {x : Int} (hx : has s x) : a.Hi < x:=by
  obtain ⟨t,ht,h1,h2⟩:=hx
  have:=h.lt t ht
  omega
theorem q6y : ∀ {s t : List qm},Can s→Can t→(∀ x,has s x↔has t x)→s = t
  | [],[],_,_,_=>rfl
  | [],b::t,_,ht,h=>absurd ((h b.Lo).2 (Z7.2 (.inl ⟨Int.le_refl _,ht.1 b qd⟩))) (Ut _)
  | a::s,[],hs,_,h=>absurd ((h a.Lo).1 (Z7.2 (.inl ⟨Int.le_refl _,hs.1 a qd⟩))) (Ut _)
  | a::s,b::t,hs,ht,h=>by
    have ha:=hs.1 a qd
    have hb:=ht.1 b qd
    have lo : ∀ {a b : qm} {s t : List qm},Can (a::s)→Can (b::t)→(∀ x,has (a::s) x↔has (b::t) x)→b.Lo≤a.Lo:=by
      intro a b s t hs ht h
      rcases Z7.1 ((h a.Lo).1 (Z7.2 (.inl ⟨Int.le_refl _,hs.1 a qd⟩))) with h1 | h1
      · exact h1.1
      · have:=ht.tail_gt h1;have:=ht.1 b qd;omega
    have e1 : a.Lo = b.Lo:=Int.le_antisymm (lo ht hs fun x=>(h x).symm) (lo hs ht h)
    have hi : ∀ {a b : qm} {s t : List qm},Can (a::s)→Can (b::t)→(∀ x,has (a::s) x↔has (b::t) x)→a.Lo = b.Lo→b.Hi≤a.Hi:=by
      intro a b s t hs ht h e
      have ha:=hs.1 a qd
      have hb:=ht.1 b qd
      refine Int.not_lt.1 fun hlt=>?_
      rcases Z7.1 ((h a.Hi).2 (Z7.2 (.inl ⟨q6,hlt⟩))) with h1 | h1
      · omega
      · have:=hs.tail_gt h1;omega
    have e2 : a.Hi = b.Hi:=Int.le_antisymm (hi ht hs (fun x=>(h x).symm) e1.symm) (hi hs ht h e1)
    have e : a = b:=by cases a;cases b;simp at e1 e2;simp [e1,e2]
    subst e
    congr 1
    refine q6y hs.tail ht.tail fun x=>⟨fun hx=>?_,fun hx=>?_⟩
    · have h1:=hs.tail_gt hx
      rcases Z7.1 ((h x).1 (Z7.2 (.inr hx))) with h2 | h2
      · omega
      · exact h2
    · have h1:=ht.tail_gt hx
      rcases Z7.1 ((h x).2 (Z7.2 (.inr hx))) with h2 | h2
      · omega
      · exact h2
theorem qle (t : qm) : q2a t = some (decide (vld t)):=by
  unfold q2a vld
  by_cases h1 : t.Lo < t.Hi <;> by_cases h2 : -1000000≤t.Lo <;> by_cases h3 : t.Hi≤1000000 <;> simp [h1,h2,h3]
open Classical in
noncomputable def Jr (s : List qm) : Int:=if 400 < s.length then 4 else if Good s then 0 else 8
def qf5 (s : List qm) (k : Nat) : Prop:=(∀ i (h : i < s.length),i < k→vld s[i])∧∀ i (h : i + 1 < s.length),i + 1 < k→s[i].Hi < s[i+1].Lo
theorem qoh {s : List qm} (h : qf5 s s.length) : Good s:=by
  refine ⟨fun t ht=>?_,?_⟩
  · obtain ⟨i,hi,rfl⟩:=List.mem_iff_getElem.1 ht
    exact h.1 i hi hi
  · have key : ∀ i j (hi : i < s.length) (hj : j < s.length),i < j→s[i].Hi < s[j].Lo:=by
      intro i j hi hj hij
      induction j with
      | zero=>omega
      | succ j ih=>
        have h1:=h.2 j hj hj
        by_cases e : i = j
        · subst e;exact h1
        · have h2:=ih q6 q6
          have h3:=(h.1 j q6 q6).1
          omega
    rw [List.pairwise_iff_getElem]
    exact key
theorem Good.get {s : List qm} (h : Good s) (i : Nat) (hi : i < s.length) : vld s[i]:=h.1 _ (List.getElem_mem hi)
theorem Good.nxt {s : List qm} (h : Good s) (i j : Nat) (hi : i < s.length) (hj : j < s.length) (hij : i < j) : s[i].Hi < s[j].Lo:=List.pairwise_iff_getElem.1 h.2 i j hi hj hij
theorem qfy (s : List qm) : qbp s = some (Jr s):=by
  unfold qbp Jr
  by_cases hl : 400 < s.length
  · have : decide ((s.length : Int) > 400) = true:=by simp;omega
    simp [this,hl]
  · have hd : decide ((s.length : Int) > 400) = false:=by simp;omega
    simp only [hd,hl,if_false,cond_false]
    have:=J9 (f:=q3s s) (σ:=Unit) (fun k _=>(k : Int)) s.length (fun k _=>qf5 s k) (fun b=>(b = .inl ()∧Good s)∨(b = .inr 8∧¬ Good s)) ?_ ?_ (k0:=0) (c0:=()) q6 ⟨fun i _ h=>q6,fun i _ h=>q6⟩
    · obtain ⟨b,h1,h2⟩:=this
      have h1 : loop (q3s s) 0 = some b:=h1
      rw [h1]
      rcases h2 with ⟨rfl,h2⟩ | ⟨rfl,h2⟩ <;> simp [h2]
    · intro k _ hk hg
      have hb : decide ((k : Int) < (s.length : Int)) = true:=by simp;omega
      simp only [q3s,hb,cond_true,Qj hk,Option.bind_some,qle]
      have bad : ¬ Good s→∃ b,(some (Sum.inr (Sum.inr 8)) : Option (Int ⊕ (Unit ⊕ Int))) = some (.inr b)∧((b = .inl ()∧Good s)∨(b = .inr 8∧¬ Good s)):=fun h=>⟨_,rfl,.inr ⟨rfl,h⟩⟩
      by_cases hv : vld s[k]
      · simp only [hv,decide_true,Bool.not_true,cond_false]
        by_cases h0 : k = 0
        · subst h0
          refine .inl ⟨(),by simp [Q6],⟨fun i hi h=>?_,fun i hi h=>q6⟩⟩
          (obtain rfl : i = 0:=by omega)
          exact hv
        · obtain ⟨j,rfl⟩ : ∃ j,k = j + 1:=⟨k - 1,q6⟩
          have hp : decide (((j + 1 : Nat) : Int) > 0) = true:=decide_eq_true q6
          have hj : idx s (w64 (((j + 1 : Nat) : Int) - 1)) = some (s[j]'(q6)):=by
            rw [Q6 q6];exact U4 q6 q6
          simp only [hp,cond_true,hj,Option.bind_some]
          by_cases hlt : s[j].Hi < s[j+1].Lo
          · have : decide (s[j].Hi ≥ s[j+1].Lo) = false:=by simp;omega
            simp only [this,cond_false]
            rw [Q6 q6]
            refine .inl ⟨(),rfl,⟨fun i hi h=>?_,fun i hi h=>?_⟩⟩
            · by_cases e : i = j + 1
              · subst e;exact hv
              · exact hg.1 i hi q6
            · by_cases e : i = j
              · subst e;exact hlt
              · exact hg.2 i hi q6
          · have : decide (s[j].Hi ≥ s[j+1].Lo) = true:=by simp;omega
            simp only [this,cond_true]
            exact .inr (bad fun h=>hlt (h.nxt j (j + 1) q6 hk q6))
      · simp only [hv,decide_false,Bool.not_false,cond_true,Option.bind_some]
        exact .inr (bad fun h=>hv (h.get k hk))
    · intro _ hg
      have hb : decide ((s.length : Int) < (s.length : Int)) = false:=by simp
      simp only [q3s,hb,cond_false]
      exact ⟨_,rfl,.inl ⟨rfl,qoh hg⟩⟩
theorem qrt : qj9 = q2a:=rfl
theorem qrp (s : List qm) : qe9 s = q3s s:=by
  funext a
  unfold qe9 q3s
  cases h : idx s a <;> simp [h,qrt]
theorem qrs (s : List qm) : qav s = some (Jr s):=by
  rw [← qfy];unfold qav qbp;rw [qrp]
open Classical in
theorem qj7 (s : List qm) (x : Int) (hl : s.length≤1000000) : qaw s x = some (decide (has s x)):=by
  have:=J9 (f:=q7s s x) (σ:=Unit) (fun k _=>(k : Int)) s.length (fun k _=>∀ i (h : i < s.length),i < k→¬ (s[i].Lo≤x∧x < s[i].Hi)) (fun b=>(b = .inl ()∧¬ has s x)∨(b = .inr true∧has s x)) ?_ ?_ (k0:=0) (c0:=()) q6 (fun i _ h=>q6)
  · obtain ⟨b,h1,h2⟩:=this
    have h1 : loop (q7s s x) 0 = some b:=h1
    unfold qaw
    rw [h1]
    rcases h2 with ⟨rfl,h2⟩ | ⟨rfl,h2⟩ <;> simp [h2]
  · intro k _ hk hg
    have hb : decide ((k : Int) < (s.length : Int)) = true:=decide_eq_true q6
    simp only [q7s,hb,cond_true,Qj hk,Option.bind_some]
    by_cases h1 : s[k].Lo≤x <;> by_cases h2 : x < s[k].Hi
    · exact .inr ⟨.inr true,by simp [h1,h2],.inr ⟨rfl,s[k],List.getElem_mem hk,h1,h2⟩⟩
    all_goals
      refine .inl ⟨(),by simp [h1,h2];exact Q6 q6,fun i hi h=>?_⟩
      by_cases e : i = k
      · subst e;omega
      · exact hg i hi q6
  · intro _ hg
    have hb : decide ((s.length : Int) < (s.length : Int)) = false:=decide_eq_false q6
    simp only [q7s,hb,cond_false]
    refine ⟨_,rfl,.inl ⟨rfl,?_⟩⟩
    rintro ⟨t,ht,h⟩
    obtain ⟨i,hi,rfl⟩:=List.mem_iff_getElem.1 ht
    exact hg i hi hi h
end Go.Sh
namespace Go.Sh
open Go Go.Am
theorem qow (out : List Int) (v : Int) (b : Nat) (hb : b≤out.length) :
    (cpyw (out ++ [0]) (b + 1,(out ++ [0]).length - (b + 1)) ((((out ++ [0]).drop b).take ((out ++ [0]).length - b)))).set b v = out.take b ++ v::out.drop b:=by
  have e1 : ((out ++ [0]).drop b).take ((out ++ [0]).length - b) = (out ++ [0]).drop b:=List.take_of_length_le qd
  rw [e1]
  unfold cpyw splice
  have e2 : (min ((out ++ [0]).drop b).length ((out ++ [0]).length - (b + 1))) = out.length - b:=by simp;omega
  simp only [e2]
  have e3 : ((out ++ [0]).drop b).take (out.length - b) = out.drop b:=by
    rw [List.drop_append_of_le_length hb,List.take_append_of_le_length qd]
    exact List.take_of_length_le qd
  rw [e3]
  have e4 : (out ++ [0]).drop (b + 1 + (out.drop b).length) = []:=by
    apply List.drop_of_length_le;simp;omega
  rw [e4,List.append_nil]
  have e5 : ∃ y,(out ++ [0]).take (b + 1) = out.take b ++ [y]:=by
    refine ⟨(out ++ [0])[b]'(by simp;omega),?_⟩
    rw [List.take_succ_eq_append_getElem (by simp;omega),List.take_append_of_le_length hb]
  obtain ⟨y,hy⟩:=e5
  have key : ∀ (xs ys : List Int) (y v : Int),(xs ++ (y::ys)).set xs.length v = xs ++ v::ys:=by
    intro xs ys y v
    induction xs with
    | nil=>rfl
    | cons x xs ih=>simp [ih]
  have hl : (out.take b).length = b:=by simp;omega
  rw [hy,List.append_assoc]
  have:=key (out.take b) (out.drop b) y v
  rw [hl] at this
  exact this
def Yi (l out : List Int) : Prop:=out.Pairwise (· < ·)∧∀ x,x∈out↔x∈l
theorem qxs (a : Int × List Int) (l : List Int) (i : Nat) (hi : i < l.length) (ha : a.1 = i) (hlen : a.2.length≤1000000) (hs : a.2.Pairwise (· < ·)) :
    ∃ b : Int,loop (q2v a l) (a.2.length : Int) = some b∧∃ k : Nat,b = k∧k≤a.2.length∧(∀ j (h : j < a.2.length),k≤j→l[i] < a.2[j])∧(∀ j (h : j < a.2.length),j < k→a.2[j]≤l[i]):=by
  refine qpd (fun b : Int=>∃ k : Nat,b = k∧k≤a.2.length∧(∀ j (h : j < a.2.length),k≤j→l[i] < a.2[j])) (fun b=>b.toNat) _ ?_ ⟨a.2.length,rfl,q6,fun j h h'=>q6⟩
  rintro b ⟨k,rfl,hk,hgt⟩
  cases k with
  | zero=>
    refine .inr ⟨0,?_,0,rfl,q6,hgt,fun j h h'=>q6⟩
    simp [q2v]
  | succ k=>
    have h0 : decide (((k + 1 : Nat) : Int) > 0) = true:=decide_eq_true q6
    have h1 : idx a.2 (w64 (((k + 1 : Nat) : Int) - 1)) = some (a.2[k]'(q6)):=by rw [Q6 q6];exact U4 q6 q6
    have h2 : idx l a.1 = some l[i]:=by rw [ha];exact Qj hi
    have hkk : k < a.2.length:=by omega
    by_cases hc : a.2[k] > l[i]
    · refine .inl ⟨(k : Int),?_,⟨k,rfl,q6,fun j h h'=>?_⟩,qd⟩
      · simp only [q2v,h0,h1,h2,cond_true,Option.bind_some,hc,decide_true]
        rw [Q6 q6]
        congr 2;omega
      · by_cases e : j = k
        · subst e;exact hc
        · exact hgt j h q6
    · refine .inr ⟨((k + 1 : Nat) : Int),?_,k + 1,rfl,hk,hgt,fun j h h'=>?_⟩
      · simp only [q2v,h0,h1,h2,cond_true,Option.bind_some,hc,decide_false,cond_false]
      · by_cases e : j = k
        · subst e;omega
        · have : a.2[j] < a.2[k]:=List.pairwise_iff_getElem.1 hs j k h hkk q6
          omega
theorem ql5 {l out : List Int} {v : Int} {i : Nat} (hi : i < l.length) (hv : l[i] = v) (h : Yi (l.take i) out) (out' : List Int) (hs : out'.Pairwise (· < ·)) (hm : ∀ x,x∈out'↔x∈out∨x = v) : Yi (l.take (i + 1)) out':=by
  refine ⟨hs,fun x=>?_⟩
  rw [hm,h.2,List.take_succ_eq_append_getElem hi]
  simp [hv]
theorem qkv (l : List Int) (hl : l.length≤1000000) : ∃ t,Ja l = some t∧Yi l t∧t.length≤l.length:=by
  have:=J9 (f:=q2u l) (σ:=List Int) (fun k c=>((k : Int),c)) l.length (fun k c=>Yi (l.take k) c∧c.length≤k) (fun t=>Yi l t∧t.length≤l.length) ?_ ?_ (k0:=0) (c0:=[]) q6 ⟨⟨.nil,qd⟩,qd⟩
  · obtain ⟨b,h1,h2⟩:=this
    have h1 : loop (q2u l) (0,[]) = some b:=h1
    exact ⟨b,by unfold Ja;rw [h1];rfl,h2⟩
  · intro k c hk hg
    obtain ⟨hg,hcl⟩:=hg
    have hb : decide ((k : Int) < (l.length : Int)) = true:=decide_eq_true q6
    obtain ⟨b,hb1,j,rfl,hj,hgt,hle⟩:=qxs ((k : Int),c) l k hk rfl (by simp;omega) hg.1
    simp only at hj hgt hle hb1
    refine .inl ?_
    simp only [q2u,hb,cond_true,hb1,Option.bind_some,Qj hk]
    have hw : w64 ((k : Int) + 1) = ((k + 1 : Nat) : Int):=by rw [Q6 q6];omega
    by_cases heq : 0 < j∧∃ h : j - 1 < c.length,c[j-1] = l[k]
    · obtain ⟨hj0,hlt,he⟩:=heq
      have h0 : decide ((j : Int) > 0) = true:=decide_eq_true q6
      have h1 : idx c (w64 ((j : Int) - 1)) = some (c[j-1]):=by rw [Q6 q6];exact U4 q6 hlt
      refine ⟨c,by simp only [h0,h1,cond_true,Option.bind_some,he,beq_self_eq_true,hw],?_,q6⟩
      refine ql5 hk rfl hg c hg.1 fun x=>⟨.inl,?_⟩
      rintro (h | rfl)
      · exact h
      · rw [← he];exact List.getElem_mem hlt
    · have hc : (cond (decide ((j : Int) > 0)) ((idx c (w64 ((j : Int) - 1))).bind fun v281=>some (v281 == l[k])) (some false)) = some false:=by
        by_cases hj0 : 0 < j
        · have hlt : j - 1 < c.length:=by omega
          have h0 : decide ((j : Int) > 0) = true:=decide_eq_true q6
          have h1 : idx c (w64 ((j : Int) - 1)) = some (c[j-1]):=by rw [Q6 q6];exact U4 q6 hlt
          simp only [h0,h1,cond_true,Option.bind_some]
          have : c[j-1]≠l[k]:=fun e=>heq ⟨hj0,hlt,e⟩
          simp [this]
        · have h0 : decide ((j : Int) > 0) = false:=decide_eq_false q6
          simp only [h0,cond_false]
      have hap : app 8 c [0] = some (c ++ [0]):=Kr (by simp;omega)
      have hs1 : sub2 (c ++ [0]).length (w64 ((j : Int) + 1)) ((c ++ [0]).length : Int) = some (j + 1,(c ++ [0]).length - (j + 1)):=by
        rw [Q6 q6];unfold sub2
        rw [if_pos ⟨q6,by simp;omega,q6⟩]
        congr 2
      have hs2 : sub2 (c ++ [0]).length (j : Int) ((c ++ [0]).length : Int) = some (j,(c ++ [0]).length - j):=by
        unfold sub2
        rw [if_pos ⟨q6,by simp;omega,q6⟩]
        congr 2
      simp only [hc,Option.bind_some,cond_false,hap,hs1,hs2]
      have hlen : j < (cpyw (c ++ [0]) (j + 1,(c ++ [0]).length - (j + 1)) (((c ++ [0]).drop j).take ((c ++ [0]).length - j))).length:=by
        rw [qgf (by simp;omega)];simp;omega
      rw [Qj hlen]
      simp only [Option.bind_some,Int.toNat_natCast,qow c l[k] j hj,hw]
      refine ⟨_,rfl,?_,by simp;omega⟩
      refine ql5 hk rfl hg _ ?_ fun x=>?_
      · rw [List.pairwise_append]
        refine ⟨hg.1.sublist (List.take_sublist _ _),?_,?_⟩
        · rw [List.pairwise_cons]
          refine ⟨fun y hy=>?_,hg.1.sublist (List.drop_sublist _ _)⟩
          obtain ⟨i,hi,rfl⟩:=List.mem_iff_getElem.1 hy
          rw [List.getElem_drop]
          exact hgt _ _ q6
        · intro y hy z hz
          obtain ⟨i,hi,rfl⟩:=List.mem_iff_getElem.1 hy
          rw [List.getElem_take]
          simp at hi
          have h1:=hle i q6 q6
          have h2 : c[i]≠l[k]∧c[i] < l[k]∨c[i] = l[k]:=by omega
          have h3 : c[i] < l[k]:=by
            rcases h2 with h2 | h2
            · exact h2.2
            · exfalso
              by_cases e : i = j - 1
              · subst e;exact heq ⟨q6,q6,h2⟩
              · have : c[i] < c[j-1]'(q6):=List.pairwise_iff_getElem.1 hg.1 i (j-1) q6 q6 q6
                have:=hle (j-1) q6 q6
                omega
          rcases List.mem_cons.1 hz with rfl | hz
          · exact h3
          · obtain ⟨m,hm,rfl⟩:=List.mem_iff_getElem.1 hz
            rw [List.getElem_drop]
            simp at hm
            have:=hgt (j + m) q6 q6
            omega
      · constructor
        · intro h
          rcases List.mem_append.1 h with h | h
          · exact .inl (List.mem_of_mem_take h)
          · rcases List.mem_cons.1 h with h | h
            · exact .inr h
            · exact .inl (List.mem_of_mem_drop h)
        · rintro (h | rfl)
          · rw [← List.take_append_drop j c] at h
            rcases List.mem_append.1 h with h | h
            · exact List.mem_append_left _ h
            · exact List.mem_append_right _ (List.mem_cons_of_mem _ h)
          · simp
  · intro c hg
    have hb : decide ((l.length : Int) < (l.length : Int)) = false:=decide_eq_false q6
    simp only [q2u,hb,cond_false]
    refine ⟨_,rfl,by simpa using hg.1,hg.2⟩
def ends (s : List qm) : List Int:=s.flatMap fun t=>[t.Lo,t.Hi]
theorem q7k {s : List qm} {x : Int} : x∈ends s↔∃ t∈s,x = t.Lo∨x = t.Hi:=by simp [ends]
theorem qnq {s : List qm} {k : Nat} (h : k < s.length) : ends (s.take (k + 1)) = ends (s.take k) ++ [s[k].Lo,s[k].Hi]:=by
  unfold ends;rw [List.take_succ_eq_append_getElem h,List.flatMap_append];simp
theorem qab (s : List qm) : (ends s).length = 2 * s.length:=by
  induction s with
  | nil=>rfl
  | cons t r ih=>simp only [ends,List.flatMap_cons,List.length_append,List.length_cons,List.length_nil] at ih ⊢;omega
theorem qgl (s : List qm) (c0 : List Int) (hs : s.length≤100000) (hc : c0.length≤200000) : loop (q7r s) (0,c0) = some (c0 ++ ends s):=by
  have:=J9 (f:=q7r s) (σ:=List Int) (fun k c=>((k : Int),c)) s.length (fun k c=>c = c0 ++ ends (s.take k)) (fun t=>t = c0 ++ ends s) ?_ ?_ (k0:=0) (c0:=c0) q6 (by simp [ends])
  · obtain ⟨b,h1,rfl⟩:=this;exact h1
  · rintro k c hk rfl
    have hb : decide ((k : Int) < (s.length : Int)) = true:=decide_eq_true q6
    refine .inl ⟨c0 ++ ends (s.take (k + 1)),?_,rfl⟩
    simp only [q7r,hb,cond_true,Qj hk,Option.bind_some]
    rw [Kr (by simp [qab];omega),Q6 q6,qnq hk]
    simp
  · rintro c rfl
    have hb : decide ((s.length : Int) < (s.length : Int)) = false:=decide_eq_false q6
    simp [q7r,hb]
theorem qnp (p q : List qm) (hp : p.length≤100000) (hq : q.length≤100000) : ∃ t,qea p q = some t∧Yi (ends p ++ ends q) t∧t.length≤2 * (p.length + q.length):=by
  have h2 : loop (qj6 q) (0,ends p) = some (ends p ++ ends q):=qgl q (ends p) hq (by rw [qab];omega)
  obtain ⟨t,h3,h4,h5⟩:=qkv (ends p ++ ends q) (by simp [qab];omega)
  refine ⟨t,?_,h4,by simp [qab] at h5;omega⟩
  unfold qea
  rw [qgl p [] hp qd]
  simp only [List.nil_append,Option.bind_some,h2,h3]
end Go.Sh
namespace Go.Sh
open Go Go.Am
def addS (c : List qm) (a b : Int) : List qm:=match c.getLast? with
  | some t=>if t.Hi = a then c.dropLast ++ [{Lo:=t.Lo,Hi:=b}] else c ++ [{Lo:=a,Hi:=b}]
  | none=>[{Lo:=a,Hi:=b}]
theorem qf7 (a b : Int) : addS [] a b = [{Lo:=a,Hi:=b}]:=rfl
theorem q9y {c : List qm} {t : qm} {b : Int} : addS (c ++ [t]) t.Hi b = c ++ [{Lo:=t.Lo,Hi:=b}]:=by simp [addS]
theorem q9z {c : List qm} {t : qm} {a b : Int} (h : t.Hi≠a) : addS (c ++ [t]) a b = (c ++ [t]) ++ [{Lo:=a,Hi:=b}]:=by simp [addS,h]
theorem qbo {α : Type} (c : List α) : c = []∨∃ d t,c = d ++ [t]:=by
  rcases List.eq_nil_or_concat c with h | ⟨d,t,h⟩
  · exact .inl h
  · exact .inr ⟨d,t,by simpa using h⟩
theorem qck {d : List qm} {t : qm} : Can (d ++ [t])↔Can d∧t.Lo < t.Hi∧∀ s∈d,s.Hi < t.Lo:=by
  unfold Can
  constructor
  · rintro ⟨h1,h2⟩
    rw [List.pairwise_append] at h2
    exact ⟨⟨fun s hs=>h1 s (by simp [hs]),h2.1⟩,h1 t qd,fun s hs=>h2.2.2 s hs t qd⟩
  · rintro ⟨⟨h1,h2⟩,h3,h4⟩
    refine ⟨fun s hs=>?_,?_⟩
    · rcases List.mem_append.1 hs with hs | hs
      · exact h1 s hs
      · simp at hs;subst hs;exact h3
    · rw [List.pairwise_append]
      exact ⟨h2,qd,fun s hs u hu=>by simp at hu;subst hu;exact h4 s hs⟩
theorem qdb {d : List qm} {t : qm} {x : Int} : has (d ++ [t]) x↔has d x∨(t.Lo≤x∧x < t.Hi):=by
  rw [qoq,Z7];simp [Ut]
theorem qf8 {c : List qm} {a b : Int} (hc : Can c) (hh : ∀ t∈c,t.Hi≤a) (hab : a < b) :
    Can (addS c a b)∧(∀ x,has (addS c a b) x↔has c x∨(a≤x∧x < b))∧(∀ t∈addS c a b,t.Hi≤b)∧(addS c a b).length≤c.length + 1∧
    (∀ t∈addS c a b,(t.Lo = a∨∃ u∈c,t.Lo = u.Lo)∧(t.Hi = b∨∃ u∈c,t.Hi = u.Hi)):=by
  rcases qbo c with rfl | ⟨d,t,rfl⟩
  · rw [qf7]
    refine ⟨⟨by simpa using hab,qd⟩,fun x=>?_,qd,qd,qd⟩
    rw [Z7];simp [Ut]
  · have h1:=qck.1 hc
    have h2 : t.Hi≤a:=hh t qd
    by_cases e : t.Hi = a
    · subst e
      rw [q9y]
      refine ⟨qck.2 ⟨h1.1,by simp;omega,h1.2.2⟩,fun x=>?_,fun s hs=>?_,qd,fun s hs=>?_⟩
      · rw [qdb,qdb];by_cases hd : has d x <;> simp only [hd,true_or,false_or] <;> omega
      · rcases List.mem_append.1 hs with hs | hs
        · have:=hh s (by simp [hs]);omega
        · simp at hs;subst hs;simp
      · rcases List.mem_append.1 hs with hs | hs
        · exact ⟨.inr ⟨s,by simp [hs],rfl⟩,.inr ⟨s,by simp [hs],rfl⟩⟩
        · simp at hs;subst hs;exact ⟨.inr ⟨t,qd,rfl⟩,.inl rfl⟩
    · rw [q9z e]
      refine ⟨qck.2 ⟨hc,hab,fun s hs=>?_⟩,fun x=>?_,fun s hs=>?_,qd,fun s hs=>?_⟩
      · rcases List.mem_append.1 hs with hs | hs
        · have:=h1.2.2 s hs;simp only;omega
        · simp at hs;subst hs;simp only;omega
      · rw [qdb]
      · rcases List.mem_append.1 hs with hs | hs
        · have:=hh s hs;omega
        · simp at hs;subst hs;simp
      · rcases List.mem_append.1 hs with hs | hs
        · exact ⟨.inr ⟨s,hs,rfl⟩,.inr ⟨s,hs,rfl⟩⟩
        · simp at hs;subst hs;exact ⟨.inl rfl,.inl rfl⟩
theorem qk5 {d : List qm} {t u : qm} : (d ++ [t]).set d.length u = d ++ [u]:=by
  induction d with
  | nil=>rfl
  | cons x d ih=>simp [ih]
structure qc0 (cuts : List Int) (ins : List Bool) (k : Nat) (c : List qm) : Prop where
  can : Can c
  pts : ∀ x,has c x↔∃ i,∃ (h : i + 1 < cuts.length) (h' : i < ins.length),i < k∧ins[i] = true∧cuts[i]≤x∧x < cuts[i + 1]
  hi : ∀ t∈c,∃ (h : k < cuts.length),t.Hi≤cuts[k]
  len : c.length≤k
  ends : ∀ t∈c,t.Lo∈cuts∧t.Hi∈cuts
theorem qft (cuts : List Int) (ins : List Bool) (hs : cuts.Pairwise (· < ·)) (hl : cuts.length≤1000000) (hi : cuts.length≤ins.length + 1) :
    ∃ c,q2s cuts ins = some c∧qc0 cuts ins (cuts.length - 1) c:=by
  have:=J9 (f:=q2t cuts ins) (σ:=List qm) (fun k c=>((k : Int),c)) (cuts.length - 1) (fun k c=>qc0 cuts ins k c) (fun c=>qc0 cuts ins (cuts.length - 1) c) ?_ ?_ (k0:=0) (c0:=[]) q6
    ⟨⟨qd,qd⟩,fun x=>⟨fun h=>absurd h (Ut x),fun ⟨i,_,_,h,_⟩=>q6⟩,qd,qd,qd⟩
  · obtain ⟨b,h1,h2⟩:=this
    have h1 : loop (q2t cuts ins) (0,[]) = some b:=h1
    exact ⟨b,by unfold q2s;rw [h1];rfl,h2⟩
  · intro k c hk hc
    have hw : w64 ((k : Int) + 1) = ((k + 1 : Nat) : Int):=by rw [Q6 q6];omega
    have hk1 : k + 1 < cuts.length:=by omega
    have hk0 : k < cuts.length:=by omega
    have hki : k < ins.length:=by omega
    have hb : decide (((k + 1 : Nat) : Int) < (cuts.length : Int)) = true:=decide_eq_true q6
    refine .inl ?_
    simp only [q2t,hw,hb,cond_true,Qj hki,Qj hk1,Qj hk0,Option.bind_some]
    have hlt : cuts[k] < cuts[k+1]:=List.pairwise_iff_getElem.1 hs k (k+1) hk0 hk1 q6
    have hhi : ∀ t∈c,t.Hi≤cuts[k]:=fun t ht=>(hc.hi t ht).2
    cases hin : ins[k] with
    | false=>
      refine ⟨c,qd,hc.can,fun x=>?_,fun t ht=>⟨hk1,by have:=hhi t ht;omega⟩,by have:=hc.len;omega,hc.ends⟩
      rw [hc.pts]
      constructor
      · rintro ⟨i,h1,h2,h3,h4⟩;exact ⟨i,h1,h2,q6,h4⟩
      · rintro ⟨i,h1,h2,h3,h4⟩
        by_cases e : i = k
        · subst e;rw [hin] at h4;simp at h4
        · exact ⟨i,h1,h2,q6,h4⟩
    | true=>
      have hstep : (cond (!true) (some c) ((cond (decide ((c.length : Int) > 0)) ((idx c (w64 ((c.length : Int) - 1))).bind fun v125=>some (v125.Hi == cuts[k])) (some false)).bind fun c111=>cond c111 ((idx c (w64 ((c.length : Int) - 1))).bind fun v131=>some (c.set (w64 ((c.length : Int) - 1)).toNat ({Lo:=v131.Lo,Hi:=cuts[k+1]} : qm))) ((app 16 c [({Lo:=cuts[k],Hi:=cuts[k+1]} : qm)]).bind fun z137=>some z137))) = some (addS c cuts[k] cuts[k+1]):=by
        have hap : ∀ y,app 16 c [y] = some (c ++ [y]):=fun y=>Kr (by have:=hc.len;simp;omega)
        rcases qbo c with rfl | ⟨d,t,rfl⟩
        · simp [hap,addS]
        · have h0 : decide ((((d ++ [t]).length : Nat) : Int) > 0) = true:=decide_eq_true (by rw [List.length_append,List.length_singleton];omega)
          have hl':=hc.len
          have hlen : (((d ++ [t]).length : Nat) : Int) = d.length + 1:=by simp
          have hl2 : d.length + 1≤k:=by simpa using hl'
          have h1 : w64 (((d ++ [t]).length : Int) - 1) = (d.length : Int):=by rw [hlen,Q6 q6];omega
          have h2 : idx (d ++ [t]) (d.length : Int) = some t:=by rw [Qj qd];simp
          simp only [Bool.not_true,cond_false,h0,cond_true,h1,h2,Option.bind_some,Int.toNat_natCast,qk5,hap]
          by_cases e : t.Hi = cuts[k]
          · simp [e,← q9y]
          · have e' : (t.Hi == cuts[k]) = false:=by simpa using e
            simp only [e',cond_false,q9z e]
      rw [hstep]
      obtain ⟨a1,a2,a3,a4,a5⟩:=qf8 hc.can hhi hlt
      refine ⟨_,rfl,a1,fun x=>?_,fun t ht=>⟨hk1,a3 t ht⟩,by have:=hc.len;omega,fun t ht=>?_⟩
      · rw [a2,hc.pts]
        constructor
        · rintro (⟨i,h1,h2,h3,h4⟩ | h)
          · exact ⟨i,h1,h2,q6,h4⟩
          · exact ⟨k,hk1,hki,q6,hin,h⟩
        · rintro ⟨i,h1,h2,h3,h4⟩
          by_cases e : i = k
          · subst e;exact .inr h4.2
          · exact .inl ⟨i,h1,h2,q6,h4⟩
      · obtain ⟨b1,b2⟩:=a5 t ht
        constructor
        · rcases b1 with b1 | ⟨u,hu,b1⟩
          · rw [b1];exact List.getElem_mem hk0
          · rw [b1];exact (hc.ends u hu).1
        · rcases b2 with b2 | ⟨u,hu,b2⟩
          · rw [b2];exact List.getElem_mem hk1
          · rw [b2];exact (hc.ends u hu).2
  · intro c hc
    refine ⟨c,?_,hc⟩
    have hw : decide (w64 (((cuts.length - 1 : Nat) : Int) + 1) < (cuts.length : Int)) = false:=by
      rw [Q6 q6];exact decide_eq_false q6
    simp only [q2t,hw,cond_false]
def Kv (kind : Int) (a b : Prop) : Prop:=(kind = 1∧a∧b)∨(kind = 2∧(a∨b))∨(kind≠1∧kind≠2∧a∧¬ b)
open Classical in
theorem qhq (kind : Int) (a b : Prop) : q4j kind (decide a) (decide b) = some (decide (Kv kind a b)):=by
  unfold q4j Kv
  by_cases h1 : kind = 1
  · subst h1;by_cases ha : a <;> by_cases hb : b <;> simp [ha,hb]
  · by_cases h2 : kind = 2
    · subst h2;by_cases ha : a <;> by_cases hb : b <;> simp [ha,hb]
    · have e1 : (kind == 1) = false:=by simpa using h1
      have e2 : (kind == 2) = false:=by simpa using h2
      by_cases ha : a <;> by_cases hb : b <;> simp [ha,hb,h1,h2,e1,e2]
theorem q23 {cuts : List Int} (hs : cuts.Pairwise (· < ·)) {p : List qm} (hm : ∀ x∈ends p,x∈cuts) {i : Nat} (h : i + 1 < cuts.length) {x : Int} (h1 : cuts[i]≤x) (h2 : x < cuts[i + 1]) : has p x↔has p cuts[i]:=by
  have mono : ∀ a b (ha : a < cuts.length) (hb : b < cuts.length),cuts[a] < cuts[b]→a < b:=by
    intro a b ha hb hlt
    refine Nat.not_le.1 fun hle=>?_
    by_cases e : a = b
    · subst e;omega
    · have:=List.pairwise_iff_getElem.1 hs b a hb ha q6;omega
  have mono' : ∀ a b (ha : a < cuts.length) (hb : b < cuts.length),a≤b→cuts[a]≤cuts[b]:=by
    intro a b ha hb hle
    by_cases e : a = b
    · subst e;omega
    · have:=List.pairwise_iff_getElem.1 hs a b ha hb q6;omega
  constructor
  · rintro ⟨t,ht,k1,k2⟩
    refine ⟨t,ht,?_,q6⟩
    obtain ⟨j,hj,e⟩:=List.mem_iff_getElem.1 (hm t.Lo (q7k.2 ⟨t,ht,.inl rfl⟩))
    have:=mono j (i + 1) hj h q6
    have:=mono' j i hj q6 q6
    omega
  · rintro ⟨t,ht,k1,k2⟩
    refine ⟨t,ht,q6,?_⟩
    obtain ⟨j,hj,e⟩:=List.mem_iff_getElem.1 (hm t.Hi (q7k.2 ⟨t,ht,.inr rfl⟩))
    have:=mono i j q6 hj q6
    have:=mono' (i + 1) j h hj q6
    omega
theorem qag {cuts : List Int} (hs : cuts.Pairwise (· < ·)) {p : List qm} (hm : ∀ x∈ends p,x∈cuts) {x : Int} (h : has p x) : ∃ i,∃ (h : i + 1 < cuts.length),cuts[i]≤x∧x < cuts[i + 1]:=by
  obtain ⟨t,ht,k1,k2⟩:=h
  obtain ⟨a,ha,ea⟩:=List.mem_iff_getElem.1 (hm t.Lo (q7k.2 ⟨t,ht,.inl rfl⟩))
  obtain ⟨b,hb,eb⟩:=List.mem_iff_getElem.1 (hm t.Hi (q7k.2 ⟨t,ht,.inr rfl⟩))
  have key : ∀ n j (hj : j < cuts.length),j + n = b→cuts[j]≤x→∃ i,∃ (h : i + 1 < cuts.length),cuts[i]≤x∧x < cuts[i + 1]:=by
    intro n
    induction n with
    | zero=>intro j hj e h1;simp at e;subst e;omega
    | succ n ih=>
      intro j hj e h1
      by_cases h2 : x < cuts[j+1]'(q6)
      · exact ⟨j,q6,h1,h2⟩
      · exact ih (j + 1) q6 q6 q6
  have hab : a≤b:=by
    refine Nat.not_lt.1 fun hlt=>?_
    have:=List.pairwise_iff_getElem.1 hs b a hb ha hlt
    omega
  exact key (b - a) a ha q6 q6
structure qc3 (kind : Int) (p q out : List qm) : Prop where
  can : Can out
  pts : ∀ x,has out x↔Kv kind (has p x) (has q x)
  ends : ∀ t∈out,(t.Lo∈ends p∨t.Lo∈ends q)∧(t.Hi∈ends p∨t.Hi∈ends q)
  len : out.length≤2 * (p.length + q.length)
open Classical in
theorem qp4 (cuts : List Int) (p q : List qm) (kind : Int) (hc : cuts.length≤1000000) (hp : p.length≤100000) (hq : q.length≤100000) :
    loop (q7t cuts p q kind) (0,[]) = some (cuts.map fun x=>decide (Kv kind (has p x) (has q x))):=by
  have:=J9 (f:=q7t cuts p q kind) (σ:=List Bool) (fun k c=>((k : Int),c)) cuts.length (fun k c=>c = (cuts.take k).map fun x=>decide (Kv kind (has p x) (has q x))) (fun t=>t = cuts.map fun x=>decide (Kv kind (has p x) (has q x))) ?_ ?_ (k0:=0) (c0:=[]) q6 qd
  · obtain ⟨b,h1,rfl⟩:=this;exact h1
  · rintro k c hk rfl
    have hb : decide ((k : Int) < (cuts.length : Int)) = true:=decide_eq_true q6
    refine .inl ⟨_,?_,rfl⟩
    simp only [q7t,hb,cond_true,Qj hk,Option.bind_some,qj7 p _ (by omega : p.length≤1000000),qj7 q _ (by omega : q.length≤1000000),qhq]
    rw [Kr (by simp;omega),Q6 q6,List.take_succ_eq_append_getElem hk,List.map_append]
    rfl
  · rintro c rfl
    have hb : decide ((cuts.length : Int) < (cuts.length : Int)) = false:=decide_eq_false q6
    simp [q7t,hb]
open Classical in
theorem qp5 (kind : Int) (p q : List qm) (hp : p.length≤100000) (hq : q.length≤100000) : ∃ out,qax kind p q = some out∧qc3 kind p q out:=by
  obtain ⟨cuts,h1,⟨hs,hm⟩,hlen⟩:=qnp p q hp hq
  obtain ⟨c,h2,h3⟩:=qft cuts (cuts.map fun x=>decide (Kv kind (has p x) (has q x))) hs q6 (by rw [List.length_map];omega)
  refine ⟨c,?_,h3.can,fun x=>?_,fun t ht=>?_,by have:=h3.len;omega⟩
  · unfold qax
    rw [h1]
    simp only [Option.bind_some,qp4 cuts p q kind q6 hp hq,h2]
  · have mp : ∀ x∈ends p,x∈cuts:=fun x hx=>(hm x).2 (List.mem_append_left _ hx)
    have mq : ∀ x∈ends q,x∈cuts:=fun x hx=>(hm x).2 (List.mem_append_right _ hx)
    rw [h3.pts]
    constructor
    · rintro ⟨i,k1,k2,_,k3,k4,k5⟩
      simp only [List.getElem_map,decide_eq_true_eq] at k3
      rw [q23 hs mp k1 k4 k5,q23 hs mq k1 k4 k5];exact k3
    · intro h
      have hor : has p x∨has q x:=by
        rcases h with ⟨_,h,_⟩ | ⟨_,h⟩ | ⟨_,_,h,_⟩
        · exact .inl h
        · exact h
        · exact .inl h
      obtain ⟨i,k1,k4,k5⟩ : ∃ i,∃ (h : i + 1 < cuts.length),cuts[i]≤x∧x < cuts[i + 1]:=hor.elim (qag hs mp) (qag hs mq)
      refine ⟨i,k1,by rw [List.length_map];omega,q6,?_,k4,k5⟩
      simp only [List.getElem_map,decide_eq_true_eq]
      rw [← q23 hs mp k1 k4 k5,← q23 hs mq k1 k4 k5];exact h
  · obtain ⟨a,b⟩:=h3.ends t ht
    exact ⟨List.mem_append.1 ((hm _).1 a),List.mem_append.1 ((hm _).1 b)⟩
end Go.Sh
namespace Go.Sh
open Go Go.Am
def q4a : ByteArray:=⟨#[0,1,2,2,3,3,3,3,4,4,4,4,4,4,4,4,5,5,5,5,5,5,5,5,5,5,5,5,5,5,5,5,6,6,6,6,6,6,6,6,6,6,6,6,6,6,6,6,6,6,6,6,6,6,6,6,6,6,6,6,6,6,6,6,7,7,7,7,7,7,7,7,7,7,7,7,7,7,7,7,7,7,7,7,7,7,7,7,7,7,7,7,7,7,7,7,7,7,7,7,7,7,7,7,7,7,7,7,7,7,7,7,7,7,7,7,7,7,7,7,7,7,7,7,7,7,7,7,8,8,8,8,8,8,8,8,8,8,8,8,8,8,8,8,8,8,8,8,8,8,8,8,8,8,8,8,8,8,8,8,8,8,8,8,8,8,8,8,8,8,8,8,8,8,8,8,8,8,8,8,8,8,8,8,8,8,8,8,8,8,8,8,8,8,8,8,8,8,8,8,8,8,8,8,8,8,8,8,8,8,8,8,8,8,8,8,8,8,8,8,8,8,8,8,8,8,8,8,8,8,8,8,8,8,8,8,8,8,8,8,8,8,8,8,8,8,8,8,8,8,8,8,8,8,8,8]⟩
noncomputable def q2n (p0 : Int) : Option Int:=
  (cond (decide (p0 ≥ 4294967296)) (some (Int.fdiv p0 (2 ^ 32),32)) (some (p0,0))).bind fun b3=>(cond (decide (b3.1 ≥ 65536)) (some (Int.fdiv b3.1 (2 ^ 16),w64 (b3.2 + 16))) (some (b3.1,b3.2))).bind fun b6=>(cond (decide (b6.1 ≥ 256)) (some (Int.fdiv b6.1 (2 ^ 8),w64 (b6.2 + 8))) (some (b6.1,b6.2))).bind fun b9=>(q3w q4a (IntKind.wrap .u8 b9.1)).bind fun v10=>some (w64 (b9.2 + (w64 v10)))
noncomputable def Ui (p0 : Int) : Option Int:=
  (q2n p0).bind fun r1=>some r1
noncomputable def Jh {T : Type} (p1 : Int) (q1 : T→T→Option Int) (a459 : Int × List T) : Option ((Int × List T) ⊕ (List T)):=
  (cond (decide (a459.1 > p1)) ((idx a459.2 a459.1).bind fun v484=>(idx a459.2 (w64 (a459.1 - 1))).bind fun v486=>(q1 v484 v486).bind fun r488=>some (decide (r488 < 0))) (some false)).bind fun c469=>cond c469 ((idx a459.2 (w64 (a459.1 - 1))).bind fun v498=>(idx a459.2 a459.1).bind fun v500=>(idx a459.2 a459.1).bind fun v502=>(idx (a459.2.set a459.1.toNat v498) (w64 (a459.1 - 1))).bind fun v504=>some (.inl (w64 (a459.1 - 1),(a459.2.set a459.1.toNat v498).set (w64 (a459.1 - 1)).toNat v500))) (some (.inr a459.2))
noncomputable def Um {T : Type} (p2 : Int) (p1 : Int) (q1 : T→T→Option Int) (a278 : Int × List T) : Option ((Int × List T) ⊕ (List T)):=
  cond (decide (a278.1 < p2)) (((loop (Jh p1 q1) (a278.1,a278.2)).bind fun x0=>some x0).bind fun b370=>some (.inl (w64 (a278.1 + 1),b370))) (some (.inr a278.2))
noncomputable def q1i {T : Type} (q1 : T→T→Option Int) (p0 : List T) (p1 : Int) (p2 : Int) : Option (List T):=
  (loop (Um p2 p1 q1) (w64 (p1 + 1),p0)).bind fun x0=>some x0
noncomputable def Jk {T : Type} (p2 : Int) (p3 : Int) (q1 : T→T→Option Int) (a197 : Int × List T) : Option ((Int × List T) ⊕ (List T)):=
  cond (decide ((w64 ((w64 (2 * a197.1)) + 1)) ≥ p2)) (some (.inr a197.2)) ((cond (decide ((w64 ((w64 ((w64 (2 * a197.1)) + 1)) + 1)) < p2)) ((idx a197.2 (w64 (p3 + (w64 ((w64 (2 * a197.1)) + 1))))).bind fun v226=>(idx a197.2 (w64 ((w64 (p3 + (w64 ((w64 (2 * a197.1)) + 1)))) + 1))).bind fun v228=>(q1 v226 v228).bind fun r230=>some (decide (r230 < 0))) (some false)).bind fun c207=>(cond c207 (some (w64 ((w64 ((w64 (2 * a197.1)) + 1)) + 1))) (some (w64 ((w64 (2 * a197.1)) + 1)))).bind fun b234=>(idx a197.2 (w64 (p3 + a197.1))).bind fun v235=>(idx a197.2 (w64 (p3 + b234))).bind fun v237=>(q1 v235 v237).bind fun r239=>cond (!(decide (r239 < 0))) (some (.inr a197.2)) ((idx a197.2 (w64 (p3 + b234))).bind fun v241=>(idx a197.2 (w64 (p3 + a197.1))).bind fun v243=>(idx a197.2 (w64 (p3 + a197.1))).bind fun v245=>(idx (a197.2.set (w64 (p3 + a197.1)).toNat v241) (w64 (p3 + b234))).bind fun v247=>some (.inl (b234,(a197.2.set (w64 (p3 + a197.1)).toNat v241).set (w64 (p3 + b234)).toNat v243))))
noncomputable def U2 {T : Type} (q1 : T→T→Option Int) (p0 : List T) (p1 : Int) (p2 : Int) (p3 : Int) : Option (List T):=
  (loop (Jk p2 p3 q1) (p1,p0)).bind fun x0=>some x0
noncomputable def Uk {T : Type} (q1 : T→T→Option Int) (p2 : Int) (p1 : Int) (a123 : Int × List T) : Option ((Int × List T) ⊕ (List T)):=
  cond (decide (a123.1 ≥ 0)) ((U2 q1 a123.2 a123.1 (w64 (p2 - p1)) p1).bind fun e132=>(Qu e132.length a123.2.length).bind fun u134=>some (.inl (w64 (a123.1 - 1),e132))) (some (.inr a123.2))
noncomputable def Ul {T : Type} (p1 : Int) (q1 : T→T→Option Int) (a191 : Int × List T) : Option ((Int × List T) ⊕ (List T)):=
  cond (decide (a191.1 ≥ 0)) ((idx a191.2 (w64 (p1 + a191.1))).bind fun v208=>(idx a191.2 p1).bind fun v210=>(idx a191.2 p1).bind fun v212=>(idx (a191.2.set p1.toNat v208) (w64 (p1 + a191.1))).bind fun v214=>(U2 q1 ((a191.2.set p1.toNat v208).set (w64 (p1 + a191.1)).toNat v210) 0 a191.1 p1).bind fun e216=>(Qu e216.length ((a191.2.set p1.toNat v208).set (w64 (p1 + a191.1)).toNat v210).length).bind fun u218=>some (.inl (w64 (a191.1 - 1),e216))) (some (.inr a191.2))
noncomputable def q1h {T : Type} (q1 : T→T→Option Int) (p0 : List T) (p1 : Int) (p2 : Int) : Option (List T):=
  (loop (Uk q1 p2 p1) (w64 (Int.tdiv (w64 ((w64 (p2 - p1)) - 1)) 2),p0)).bind fun b126=>(loop (Ul p1 q1) (w64 ((w64 (p2 - p1)) - 1),b126)).bind fun x0=>some x0
noncomputable def q1j (p0 : Int) : Option Int:=
  (Ui (IntKind.wrap .u64 p0)).bind fun r1=>(shlK .u64 1 r1).bind fun q3=>some q3
noncomputable def q1n (p0 : Int) : Option Int:=
  some (xorI .u64 (xorI .u64 (xorI .u64 p0 (IntKind.wrap .u64 (p0 * (2 ^ 13)))) (Int.fdiv (xorI .u64 p0 (IntKind.wrap .u64 (p0 * (2 ^ 13)))) (2 ^ 7))) (IntKind.wrap .u64 ((xorI .u64 (xorI .u64 p0 (IntKind.wrap .u64 (p0 * (2 ^ 13)))) (Int.fdiv (xorI .u64 p0 (IntKind.wrap .u64 (p0 * (2 ^ 13)))) (2 ^ 7))) * (2 ^ 17))))
noncomputable def Jt {T : Type} (p1 : Int) (p2 : Int) (r101 : Int) (a153 : Int × List T × Int) : Option ((Int × List T × Int) ⊕ (List T)):=
  cond (decide (a153.1≤(w64 ((w64 (p1 + (w64 ((w64 (Int.tdiv (w64 (p2 - p1)) 4)) * 2)))) + 1)))) ((q1n a153.2.2).bind fun e168=>(cond (decide ((w64 (andI .u64 e168 (IntKind.wrap .u64 (r101 - 1)))) ≥ (w64 (p2 - p1)))) (some (w64 ((w64 (andI .u64 e168 (IntKind.wrap .u64 (r101 - 1)))) - (w64 (p2 - p1))))) (some (w64 (andI .u64 e168 (IntKind.wrap .u64 (r101 - 1)))))).bind fun b172=>(idx a153.2.1 (w64 (p1 + b172))).bind fun v173=>(idx a153.2.1 a153.1).bind fun v175=>(idx a153.2.1 a153.1).bind fun v177=>(idx (a153.2.1.set a153.1.toNat v173) (w64 (p1 + b172))).bind fun v179=>some (.inl (w64 (a153.1 + 1),(a153.2.1.set a153.1.toNat v173).set (w64 (p1 + b172)).toNat v175,e168))) (some (.inr a153.2.1))
noncomputable def Uj {T : Type} (q1 : T→T→Option Int) (p0 : List T) (p1 : Int) (p2 : Int) : Option (List T):=
  cond (decide ((w64 (p2 - p1)) ≥ 8)) ((q1j (w64 (p2 - p1))).bind fun r101=>(loop (Jt p1 p2 r101) (w64 ((w64 (p1 + (w64 ((w64 (Int.tdiv (w64 (p2 - p1)) 4)) * 2)))) - 1),p0,IntKind.wrap .u64 (w64 (p2 - p1)))).bind fun x0=>some x0) (some p0)
noncomputable def Jv {T : Type} (q1 : T→T→Option Int) (p0 : List T) (p1 : Int) (p2 : Int) (p3 : Int) : Option (Int × Int × Int):=
  (idx p0 p2).bind fun v101=>(idx p0 p1).bind fun v103=>(q1 v101 v103).bind fun r105=>cond (decide (r105 < 0)) (some (p2,p1,w64 (p3 + 1))) (some (p1,p2,p3))
noncomputable def Ju {T : Type} (q1 : T→T→Option Int) (p0 : List T) (p1 : Int) (p2 : Int) (p3 : Int) (p4 : Int) : Option (Int × Int):=
  (Jv q1 p0 p1 p2 p4).bind fun e101=>(Jv q1 p0 e101.2.1 p3 e101.2.2).bind fun e103=>(Jv q1 p0 e101.1 e103.1 e103.2.2).bind fun e105=>some (e105.2.1,e105.2.2)
noncomputable def Ji {T : Type} (q1 : T→T→Option Int) (p0 : List T) (p1 : Int) (p2 : Int) : Option (Int × Int):=
  (Ju q1 p0 (w64 (p1 - 1)) p1 (w64 (p1 + 1)) p2).bind fun e101=>some (e101.1,e101.2)
noncomputable def q1g {T : Type} (p0 : List T) (p1 : Int) (p2 : Int) (p3 : T→T→Option Int) : Option (Int × Int):=
  (cond (decide ((w64 (p2 - p1)) ≥ 8)) ((cond (decide ((w64 (p2 - p1)) ≥ 50)) ((Ji p3 p0 (w64 (p1 + (w64 ((w64 (Int.tdiv (w64 (p2 - p1)) 4)) * 1)))) 0).bind fun e25=>(Ji p3 p0 (w64 (p1 + (w64 ((w64 (Int.tdiv (w64 (p2 - p1)) 4)) * 2)))) e25.2).bind fun e27=>(Ji p3 p0 (w64 (p1 + (w64 ((w64 (Int.tdiv (w64 (p2 - p1)) 4)) * 3)))) e27.2).bind fun e29=>some (e25.1,e27.1,e29.1,e29.2)) (some (w64 (p1 + (w64 ((w64 (Int.tdiv (w64 (p2 - p1)) 4)) * 1))),w64 (p1 + (w64 ((w64 (Int.tdiv (w64 (p2 - p1)) 4)) * 2))),w64 (p1 + (w64 ((w64 (Int.tdiv (w64 (p2 - p1)) 4)) * 3))),0))).bind fun b24=>(Ju p3 p0 b24.1 b24.2.1 b24.2.2.1 b24.2.2.2).bind fun e31=>some (e31.1,e31.2)) (some (w64 (p1 + (w64 ((w64 (Int.tdiv (w64 (p2 - p1)) 4)) * 2))),0))).bind fun b15=>cond (b15.2 == 0) (some (b15.1,1)) (cond (b15.2 == 12) (some (b15.1,2)) (some (b15.1,0)))
noncomputable def q1m {T : Type} (a119 : Int × Int × List T) : Option ((Int × Int × List T) ⊕ (List T)):=
  cond (decide (a119.1 < a119.2.1)) ((idx a119.2.2 a119.2.1).bind fun v123=>(idx a119.2.2 a119.1).bind fun v125=>(idx a119.2.2 a119.1).bind fun v127=>(idx (a119.2.2.set a119.1.toNat v123) a119.2.1).bind fun v129=>some (.inl (w64 (a119.1 + 1),w64 (a119.2.1 - 1),(a119.2.2.set a119.1.toNat v123).set a119.2.1.toNat v125))) (some (.inr a119.2.2))
noncomputable def Ur {T : Type} (q1 : T→T→Option Int) (p0 : List T) (p1 : Int) (p2 : Int) : Option (List T):=
  (loop q1m (p1,w64 (p2 - 1),p0)).bind fun x0=>some x0
noncomputable def Jw {T : Type} (p2 : Int) (a438 : Int × Int × List T) (q1 : T→T→Option Int) (a681 : Int) : Option ((Int) ⊕ (Int)):=
  (cond (decide (a681 < p2)) ((idx a438.2.2 a681).bind fun v707=>(idx a438.2.2 (w64 (a681 - 1))).bind fun v709=>(q1 v707 v709).bind fun r711=>some (!(decide (r711 < 0)))) (some false)).bind fun c691=>cond c691 (some (.inl (w64 (a681 + 1)))) (some (.inr a681))
noncomputable def Jx {T : Type} (q1 : T→T→Option Int) (a838 : Int × List T) : Option ((Int × List T) ⊕ (List T)):=
  cond (decide (a838.1 ≥ 1)) ((idx a838.2 a838.1).bind fun v856=>(idx a838.2 (w64 (a838.1 - 1))).bind fun v858=>(q1 v856 v858).bind fun r860=>cond (!(decide (r860 < 0))) (some (.inr a838.2)) ((idx a838.2 (w64 (a838.1 - 1))).bind fun v862=>(idx a838.2 a838.1).bind fun v864=>(idx a838.2 a838.1).bind fun v866=>(idx (a838.2.set a838.1.toNat v862) (w64 (a838.1 - 1))).bind fun v868=>some (.inl (w64 (a838.1 - 1),(a838.2.set a838.1.toNat v862).set (w64 (a838.1 - 1)).toNat v864)))) (some (.inr a838.2))
noncomputable def Jy {T : Type} (p2 : Int) (q1 : T→T→Option Int) (b684 : Int) (a928 : Int × List T) : Option ((Int × List T) ⊕ (Int × List T)):=
  cond (decide (a928.1 < p2)) ((idx a928.2 a928.1).bind fun v946=>(idx a928.2 (w64 (a928.1 - 1))).bind fun v948=>(q1 v946 v948).bind fun r950=>cond (!(decide (r950 < 0))) (some (.inr (b684,a928.2))) ((idx a928.2 (w64 (a928.1 - 1))).bind fun v952=>(idx a928.2 a928.1).bind fun v954=>(idx a928.2 a928.1).bind fun v956=>(idx (a928.2.set a928.1.toNat v952) (w64 (a928.1 - 1))).bind fun v958=>some (.inl (w64 (a928.1 + 1),(a928.2.set a928.1.toNat v952).set (w64 (a928.1 - 1)).toNat v954)))) (some (.inr (b684,a928.2)))
noncomputable def Zi {T : Type} (p2 : Int) (q1 : T→T→Option Int) (p1 : Int) (a438 : Int × Int × List T) : Option ((Int × Int × List T) ⊕ ((List T) ⊕ (Bool × List T))):=
  cond (decide (a438.2.1 < 5)) (((loop (Jw p2 a438 q1) a438.1).bind fun b684=>cond (b684 == p2) (some (.inr (true,a438.2.2))) (cond (decide ((w64 (p2 - p1)) < 50)) (some (.inr (false,a438.2.2))) ((idx a438.2.2 (w64 (b684 - 1))).bind fun v713=>(idx a438.2.2 b684).bind fun v715=>(idx a438.2.2 b684).bind fun v717=>(idx (a438.2.2.set b684.toNat v713) (w64 (b684 - 1))).bind fun v719=>(cond (decide ((w64 (b684 - p1)) ≥ 2)) ((loop (Jx q1) (w64 (b684 - 1),(a438.2.2.set b684.toNat v713).set (w64 (b684 - 1)).toNat v715)).bind fun x0=>some x0) (some ((a438.2.2.set b684.toNat v713).set (w64 (b684 - 1)).toNat v715))).bind fun b779=>cond (decide ((w64 (p2 - b684)) ≥ 2)) ((loop (Jy p2 q1 b684) (w64 (b684 + 1),b779)).bind fun x0=>some (.inl x0)) (some (.inl (b684,b779))))) : Option ((Int × List T) ⊕ (Bool × List T))).bind fun m621=>(match m621 with | .inl b622=>some (.inl (b622.1,w64 (a438.2.1 + 1),b622.2)) | .inr x1=>some (.inr (.inr x1)))) (some (.inr (.inl a438.2.2)))
noncomputable def Jj {T : Type} (q1 : T→T→Option Int) (p0 : List T) (p1 : Int) (p2 : Int) : Option (Bool × List T):=
  (loop (Zi p2 q1 p1) (w64 (p1 + 1),0,p0) : Option ((List T) ⊕ (Bool × List T))).bind fun m439=>(match m439 with | .inl b441=>some (false,b441) | .inr x1=>some x1)
noncomputable def Jz {T : Type} (a318 : Int × Int × List T) (p1 : Int) (q1 : T→T→Option Int) (a378 : Int) : Option ((Int) ⊕ (Int)):=
  (cond (decide (a378≤a318.2.1)) ((idx a318.2.2 p1).bind fun v403=>(idx a318.2.2 a378).bind fun v405=>(q1 v403 v405).bind fun r407=>some (!(decide (r407 < 0)))) (some false)).bind fun c388=>cond c388 (some (.inl (w64 (a378 + 1)))) (some (.inr a378))
noncomputable def U0 {T : Type} (b381 : Int) (a318 : Int × Int × List T) (p1 : Int) (q1 : T→T→Option Int) (a463 : Int) : Option ((Int) ⊕ (Int)):=
  (cond (decide (b381≤a463)) ((idx a318.2.2 p1).bind fun v487=>(idx a318.2.2 a463).bind fun v489=>(q1 v487 v489).bind fun r491=>some (decide (r491 < 0))) (some false)).bind fun c473=>cond c473 (some (.inl (w64 (a463 - 1)))) (some (.inr a463))
noncomputable def Up {T : Type} (p1 : Int) (q1 : T→T→Option Int) (a318 : Int × Int × List T) : Option ((Int × Int × List T) ⊕ (Int × List T)):=
  (loop (Jz a318 p1 q1) a318.1).bind fun b381=>(loop (U0 b381 a318 p1 q1) a318.2.1).bind fun b466=>cond (decide (b381 > b466)) (some (.inr (b381,a318.2.2))) ((idx a318.2.2 b466).bind fun v493=>(idx a318.2.2 b381).bind fun v495=>(idx a318.2.2 b381).bind fun v497=>(idx (a318.2.2.set b381.toNat v493) b466).bind fun v499=>some (.inl (w64 (b381 + 1),w64 (b466 - 1),(a318.2.2.set b381.toNat v493).set b466.toNat v495)))
noncomputable def Uo {T : Type} (q1 : T→T→Option Int) (p0 : List T) (p1 : Int) (p2 : Int) (p3 : Int) : Option (Int × List T):=
  (idx p0 p3).bind fun v101=>(idx p0 p1).bind fun v103=>(idx p0 p1).bind fun v105=>(idx (p0.set p1.toNat v101) p3).bind fun v107=>(loop (Up p1 q1) (w64 (p1 + 1),w64 (p2 - 1),(p0.set p1.toNat v101).set p3.toNat v103)).bind fun b321=>some (b321.1,b321.2)
noncomputable def q1k {T : Type} (p2 : Int) (p0 : List T) (p1 : Int) (v101 : T) (p3 : Int) (v103 : T) (q1 : T→T→Option Int) (a163 : Int) : Option ((Int) ⊕ (Int)):=
  (cond (decide (a163≤(w64 (p2 - 1)))) ((idx ((p0.set p1.toNat v101).set p3.toNat v103) a163).bind fun v187=>(idx ((p0.set p1.toNat v101).set p3.toNat v103) p1).bind fun v189=>(q1 v187 v189).bind fun r191=>some (decide (r191 < 0))) (some false)).bind fun c173=>cond c173 (some (.inl (w64 (a163 + 1)))) (some (.inr a163))
noncomputable def q1l {T : Type} (b166 : Int) (p0 : List T) (p1 : Int) (v101 : T) (p3 : Int) (v103 : T) (q1 : T→T→Option Int) (a249 : Int) : Option ((Int) ⊕ (Int)):=
  (cond (decide (b166≤a249)) ((idx ((p0.set p1.toNat v101).set p3.toNat v103) a249).bind fun v274=>(idx ((p0.set p1.toNat v101).set p3.toNat v103) p1).bind fun v276=>(q1 v274 v276).bind fun r278=>some (!(decide (r278 < 0)))) (some false)).bind fun c259=>cond c259 (some (.inl (w64 (a249 - 1)))) (some (.inr a249))
noncomputable def Zn {T : Type} (a514 : Int × Int × List T) (p1 : Int) (q1 : T→T→Option Int) (a572 : Int) : Option ((Int) ⊕ (Int)):=
  (cond (decide (a572≤a514.2.1)) ((idx a514.2.2 a572).bind fun v596=>(idx a514.2.2 p1).bind fun v598=>(q1 v596 v598).bind fun r600=>some (decide (r600 < 0))) (some false)).bind fun c582=>cond c582 (some (.inl (w64 (a572 + 1)))) (some (.inr a572))
noncomputable def Zo {T : Type} (b575 : Int) (a514 : Int × Int × List T) (p1 : Int) (q1 : T→T→Option Int) (a658 : Int) : Option ((Int) ⊕ (Int)):=
  (cond (decide (b575≤a658)) ((idx a514.2.2 a658).bind fun v683=>(idx a514.2.2 p1).bind fun v685=>(q1 v683 v685).bind fun r687=>some (!(decide (r687 < 0)))) (some false)).bind fun c668=>cond c668 (some (.inl (w64 (a658 - 1)))) (some (.inr a658))
noncomputable def Uq {T : Type} (p1 : Int) (q1 : T→T→Option Int) (a514 : Int × Int × List T) : Option ((Int × Int × List T) ⊕ (Int × List T)):=
  (loop (Zn a514 p1 q1) a514.1).bind fun b575=>(loop (Zo b575 a514 p1 q1) a514.2.1).bind fun b661=>cond (decide (b575 > b661)) (some (.inr (b661,a514.2.2))) ((idx a514.2.2 b661).bind fun v689=>(idx a514.2.2 b575).bind fun v691=>(idx a514.2.2 b575).bind fun v693=>(idx (a514.2.2.set b575.toNat v689) b661).bind fun v695=>some (.inl (w64 (b575 + 1),w64 (b661 - 1),(a514.2.2.set b575.toNat v689).set b661.toNat v691)))
noncomputable def Un {T : Type} (q1 : T→T→Option Int) (p0 : List T) (p1 : Int) (p2 : Int) (p3 : Int) : Option (Int × Bool × List T):=
  (idx p0 p3).bind fun v101=>(idx p0 p1).bind fun v103=>(idx p0 p1).bind fun v105=>(idx (p0.set p1.toNat v101) p3).bind fun v107=>(loop (q1k p2 p0 p1 v101 p3 v103 q1) (w64 (p1 + 1))).bind fun b166=>(loop (q1l b166 p0 p1 v101 p3 v103 q1) (w64 (p2 - 1))).bind fun b252=>cond (decide (b166 > b252)) ((idx ((p0.set p1.toNat v101).set p3.toNat v103) p1).bind fun v288=>(idx ((p0.set p1.toNat v101).set p3.toNat v103) b252).bind fun v290=>(idx ((p0.set p1.toNat v101).set p3.toNat v103) b252).bind fun v292=>(idx (((p0.set p1.toNat v101).set p3.toNat v103).set b252.toNat v288) p1).bind fun v294=>some (b252,true,(((p0.set p1.toNat v101).set p3.toNat v103).set b252.toNat v288).set p1.toNat v290)) ((idx ((p0.set p1.toNat v101).set p3.toNat v103) b252).bind fun v296=>(idx ((p0.set p1.toNat v101).set p3.toNat v103) b166).bind fun v298=>(idx ((p0.set p1.toNat v101).set p3.toNat v103) b166).bind fun v300=>(idx (((p0.set p1.toNat v101).set p3.toNat v103).set b166.toNat v296) b252).bind fun v302=>(loop (Uq p1 q1) (w64 (b166 + 1),w64 (b252 - 1),(((p0.set p1.toNat v101).set p3.toNat v103).set b166.toNat v296).set b252.toNat v298)).bind fun b517=>(idx b517.2 p1).bind fun v697=>(idx b517.2 b517.1).bind fun v699=>(idx b517.2 b517.1).bind fun v701=>(idx (b517.2.set b517.1.toNat v697) p1).bind fun v703=>some (b517.1,false,(b517.2.set b517.1.toNat v697).set p1.toNat v699))
noncomputable def Yz {T : Type} (q1 : T→T→Option Int) (rec : List T→Int→Int→Int→Option (List T)) (a309 : Int × Int × Int × Bool × Bool × List T) : Option ((Int × Int × Int × Bool × Bool × List T) ⊕ (List T)):=
  cond (decide ((w64 (a309.2.1 - a309.1))≤12)) ((q1i q1 a309.2.2.2.2.2 a309.1 a309.2.1).bind fun e318=>(Qu e318.length a309.2.2.2.2.2.length).bind fun u320=>some (.inr e318)) (cond (a309.2.2.1 == 0) ((q1h q1 a309.2.2.2.2.2 a309.1 a309.2.1).bind fun e328=>(Qu e328.length a309.2.2.2.2.2.length).bind fun u330=>some (.inr e328)) ((cond (!a309.2.2.2.1) ((Uj q1 a309.2.2.2.2.2 a309.1 a309.2.1).bind fun e341=>(Qu e341.length a309.2.2.2.2.2.length).bind fun u343=>some (w64 (a309.2.2.1 - 1),e341)) (some (a309.2.2.1,a309.2.2.2.2.2))).bind fun b340=>(q1g b340.2 a309.1 a309.2.1 q1).bind fun r346=>(cond (r346.2 == 2) ((Ur q1 b340.2 a309.1 a309.2.1).bind fun e356=>(Qu e356.length b340.2.length).bind fun u358=>some (w64 ((w64 (a309.2.1 - 1)) - (w64 (r346.1 - a309.1))),1,e356)) (some (r346.1,r346.2,b340.2))).bind fun b355=>(cond a309.2.2.2.1 (some a309.2.2.2.2.1) (some false)).bind fun c361=>(cond c361 (some (b355.2.1 == 1)) (some false)).bind fun c365=>(cond c365 ((Jj q1 b355.2.2 a309.1 a309.2.1).bind fun e378=>(Qu e378.2.length b355.2.2.length).bind fun u380=>cond e378.1 (some (.inr e378.2)) (some (.inl e378.2))) (some (.inl b355.2.2)) : Option ((List T) ⊕ (List T))).bind fun m376=>(match m376 with | .inl b377=>(cond (decide (a309.1 > 0)) ((idx b377 (w64 (a309.1 - 1))).bind fun v405=>(idx b377 b355.1).bind fun v407=>(q1 v405 v407).bind fun r409=>some (!(decide (r409 < 0)))) (some false)).bind fun c389=>cond c389 ((Uo q1 b377 a309.1 a309.2.1 b355.1).bind fun e416=>(Qu e416.2.length b377.length).bind fun u418=>some (.inl (e416.1,a309.2.1,b340.1,a309.2.2.2.1,a309.2.2.2.2.1,e416.2))) ((Un q1 b377 a309.1 a309.2.1 b355.1).bind fun e421=>(Qu e421.2.2.length b377.length).bind fun u423=>cond (decide ((w64 (e421.1 - a309.1)) < (w64 (a309.2.1 - e421.1)))) ((rec e421.2.2 a309.1 e421.1 b340.1).bind fun e426=>(Qu e426.length e421.2.2.length).bind fun u428=>some (.inl (w64 (e421.1 + 1),a309.2.1,b340.1,decide ((w64 (e421.1 - a309.1)) ≥ (w64 (Int.tdiv (w64 (a309.2.1 - a309.1)) 8))),e421.2.1,e426))) ((rec e421.2.2 (w64 (e421.1 + 1)) a309.2.1 b340.1).bind fun e431=>(Qu e431.length e421.2.2.length).bind fun u433=>some (.inl (a309.1,e421.1,b340.1,decide ((w64 (a309.2.1 - e421.1)) ≥ (w64 (Int.tdiv (w64 (a309.2.1 - a309.1)) 8))),e421.2.1,e431)))) | .inr x1=>some (.inr x1))))
noncomputable def U1 {T : Type} (rec : List T→Int→Int→Int→Option (List T)) (q1 : T→T→Option Int) (p0 : List T) (p1 : Int) (p2 : Int) (p3 : Int) : Option (List T):=
  (loop (Yz q1 rec) (p1,p2,p3,true,true,p0)).bind fun x0=>some x0
noncomputable def Yu {T : Type} : Nat→(T→T→Option Int)→List T→Int→Int→Int→Option (List T)
  | 0,_,_,_,_,_=>none
  | n + 1,q1,p0,p1,p2,p3=>U1 (Yu n q1) q1 p0 p1 p2 p3
noncomputable def q1f {T : Type} (q1 : T→T→Option Int) (p0 : List T) : Option (List T):=
  (Ui (IntKind.wrap .u64 (p0.length : Int))).bind fun r101=>(lim (fun n=>Yu n q1 p0 0 (p0.length : Int) r101)).bind fun e103=>(Qu e103.length p0.length).bind fun u105=>some e103
end Go.Sh
namespace Go.Sh
open Go Go.Am
section
variable {T : Type} [Inhabited T] {P : T→Prop} {lt : T→T→Bool} {q : T→T→Option Int}
def Kk (q : T→T→Option Int) (lt : T→T→Bool) (P : T→Prop) : Prop:=∀ x y,P x→P y→∃ r,q x y = some r∧decide (r < 0) = lt x y
def AllP (n : Nat) (P : T→Prop) (d : Array T) : Prop:=d.size = n∧n≤1000000∧∀ i,i < n→P d[i]!
theorem gx {d : Array T} {k : Nat} (h : k < d.size) : idx d.toList (k : Int) = some d[k]!:=by
  simp [idx,h]
theorem gxs {d : Array T} {k : Nat} {i : Nat} {v : T} (h : k < d.size) : idx (d.toList.set i v) (k : Int) = some (d.setIfInBounds i v)[k]!:=by
  have : d.toList.set i v = (d.setIfInBounds i v).toList:=by simp
  rw [this];exact gx (by simpa using h)
theorem gswp {d : Array T} {i j : Nat} : (d.toList.set i d[j]!).set j d[i]! = (Sort.swp d i j).toList:=by simp [Sort.swp]
theorem AllP.swp {n : Nat} {d : Array T} (h : AllP n P d) {a b : Nat} (ha : a < n) (hb : b < n) : AllP n P (Sort.swp d a b):=by
  obtain ⟨h1,h2,h3⟩:=h
  refine ⟨by rw [Sort.swp_size];exact h1,h2,fun k hk=>?_⟩
  rw [Sort.swp_get d q6 q6]
  repeat' split
  all_goals first | exact h3 _ ha | exact h3 _ hb | exact h3 _ hk
theorem AllP.perm {n : Nat} {d d' : Array T} (h : AllP n P d) {a b : Nat} (hab : a≤b) (hb : b≤n) (hp : Sort.PermIn a b d d') : AllP n P d':=by
  obtain ⟨h1,h2,h3⟩:=h
  refine ⟨by rw [hp.1];exact h1,h2,fun k hk=>?_⟩
  by_cases hk2 : k < a∨b≤k
  · rw [hp.2.1 k hk2];exact h3 k hk
  · exact Sort.permIn_all d d' a b P q6 hp (fun i hi hi2=>h3 i q6) k q6 q6
theorem w1m (j : Nat) (h : j < 2000000) : w64 (((j + 1 : Nat) : Int) - 1) = (j : Int):=by rw [Q6 q6];omega
theorem w1p (j : Nat) (h : j < 2000000) : w64 ((j : Int) + 1) = ((j + 1 : Nat) : Int):=by rw [Q6 q6];omega
theorem wsub {a b : Nat} (h : a≤b) (h2 : b < 2000000) : w64 ((b : Int) - (a : Int)) = ((b - a : Nat) : Int):=by rw [Q6 q6];omega
theorem qht (hq : Kk q lt P) (a n : Nat) : ∀ (j : Nat) (d : Array T),AllP n P d→j < n→loop (Jh (a : Int) q) ((j : Int),d.toList) = some (Sort.insInner lt a j d).toList∧AllP n P (Sort.insInner lt a j d)
  | 0,d,hd,hj=>by
    have h0 : decide (((0 : Nat) : Int) > (a : Int)) = false:=decide_eq_false q6
    refine ⟨Kc ?_,hd⟩
    simp only [Jh,h0,cond_false,Option.bind_some];rfl
  | j + 1,d,hd,hj=>by
    have hsz:=hd.1
    have hn:=hd.2.1
    unfold Sort.insInner
    by_cases ha : j + 1 > a
    · have h0 : decide (((j + 1 : Nat) : Int) > (a : Int)) = true:=decide_eq_true q6
      obtain ⟨r,h1,h2⟩:=hq d[j + 1]! d[j]! (hd.2.2 _ hj) (hd.2.2 _ q6)
      by_cases hl : lt d[j + 1]! d[j]! = true
      · rw [if_pos (by simp [ha,hl])]
        have ih:=qht hq a n j _ (hd.swp (a:=j + 1) (b:=j) hj q6) q6
        refine ⟨?_,ih.2⟩
        rw [Ko (a':=((j : Int),(Sort.swp d (j + 1) j).toList)) ?_]
        · exact ih.1
        · simp only [Jh,h0,cond_true,gx (d:=d) (k:=j + 1) q6,w1m j q6,gx (d:=d) (k:=j) q6,gxs (d:=d) (k:=j) q6,Option.bind_some,h1,h2,hl,Int.toNat_natCast,gswp]
      · rw [if_neg (by simp [hl])]
        refine ⟨Kc ?_,hd⟩
        simp only [Jh,h0,cond_true,gx (d:=d) (k:=j + 1) q6,w1m j q6,gx (d:=d) (k:=j) q6,Option.bind_some,h1,h2,hl,cond_false]
    · rw [if_neg (by simp [ha])]
      have h0 : decide (((j + 1 : Nat) : Int) > (a : Int)) = false:=decide_eq_false q6
      refine ⟨Kc ?_,hd⟩
      simp only [Jh,h0,cond_false,Option.bind_some]
theorem qov (hq : Kk q lt P) (a b n : Nat) (hb : b≤n) : ∀ (m i : Nat) (d : Array T),b - i = m→AllP n P d→i≤1000001→loop (Um (b : Int) (a : Int) q) ((i : Int),d.toList) = some (Sort.insOuter lt a b i d).toList:=by
  intro m
  induction m with
  | zero=>
    intro i d hm hd hi
    unfold Sort.insOuter
    rw [if_neg q6]
    have h0 : decide ((i : Int) < (b : Int)) = false:=decide_eq_false q6
    exact Kc (by simp only [Um,h0,cond_false])
  | succ m ih=>
    intro i d hm hd hi
    unfold Sort.insOuter
    rw [if_pos q6]
    have h0 : decide ((i : Int) < (b : Int)) = true:=decide_eq_true q6
    obtain ⟨h1,h2⟩:=qht hq a n i d hd q6
    have:=hd.2.1
    rw [Ko (a':=(((i + 1 : Nat) : Int),(Sort.insInner lt a i d).toList)) ?_]
    · exact ih (i + 1) _ q6 h2 q6
    · simp only [Um,h0,cond_true,h1,Option.bind_some,w1p i q6]
theorem qox (hq : Kk q lt P) {a b n : Nat} (hb : b≤n) (hab : a≤b) {d : Array T} (hd : AllP n P d) : q1i q d.toList (a : Int) (b : Int) = some (Sort.insertionSort lt d a b).toList:=by
  have:=hd.2.1
  unfold q1i Sort.insertionSort
  rw [w1p a q6,qov hq a b n hb _ (a + 1) d rfl hd q6]
  rfl
theorem quc (hq : Kk q lt P) (hi first n : Nat) (hb : first + hi≤n) : ∀ (m root : Nat) (d : Array T),hi - root = m→AllP n P d→root≤1000000→(root < hi∨hi≤1)→loop (Jk (hi : Int) (first : Int) q) ((root : Int),d.toList) = some (Sort.siftDown lt hi first root d).toList∧AllP n P (Sort.siftDown lt hi first root d):=by
  intro m
  induction m using Nat.strongRecOn with
  | _ m ih=>
    intro root d hm hd hr hr2
    have hsz:=hd.1
    have hn:=hd.2.1
    unfold Sort.siftDown
    have e1 : w64 ((w64 (2 * (root : Int))) + 1) = ((2 * root + 1 : Nat) : Int):=by rw [Q6 (x:=2 * (root : Int)) q6,Q6 q6];omega
    by_cases hc : 2 * root + 1 ≥ hi
    · rw [dif_pos hc]
      have h0 : decide (((2 * root + 1 : Nat) : Int) ≥ (hi : Int)) = true:=decide_eq_true q6
      refine ⟨Kc ?_,hd⟩
      simp only [Jk,e1,h0,cond_true]
    · rw [dif_neg hc]
      have h0 : decide (((2 * root + 1 : Nat) : Int) ≥ (hi : Int)) = false:=decide_eq_false q6
      have e2 : w64 (((2 * root + 1 : Nat) : Int) + 1) = ((2 * root + 2 : Nat) : Int):=w1p _ q6
      have e3 : w64 ((first : Int) + ((2 * root + 1 : Nat) : Int)) = ((first + (2 * root + 1) : Nat) : Int):=by rw [Q6 q6];omega
      have e4 : w64 ((first : Int) + ((2 * root + 2 : Nat) : Int)) = ((first + (2 * root + 2) : Nat) : Int):=by rw [Q6 q6];omega
      have e5 : w64 ((first : Int) + (root : Int)) = ((first + root : Nat) : Int):=by rw [Q6 q6];omega
      have e6 : w64 (((first + (2 * root + 1) : Nat) : Int) + 1) = ((first + (2 * root + 2) : Nat) : Int):=w1p _ q6
      have x1:=gx (d:=d) (k:=first + (2 * root + 1)) q6
      have x0:=gx (d:=d) (k:=first + root) q6
      have child : ∀ c,(c = 2 * root + 1∨c = 2 * root + 2)→c < hi→
          (∀ (h : (cond (decide (((2 * root + 2 : Nat) : Int) < (hi : Int))) ((idx d.toList ((first + (2 * root + 1) : Nat) : Int)).bind fun v226=>(idx d.toList ((first + (2 * root + 2) : Nat) : Int)).bind fun v228=>(q v226 v228).bind fun r230=>some (decide (r230 < 0))) (some false)) = some (decide (c = 2 * root + 2))),
          (loop (Jk (hi : Int) (first : Int) q) ((root : Int),d.toList) = some (if (!lt d[first + root]! d[first + c]!) = true then d else Sort.siftDown lt hi first c (Sort.swp d (first + root) (first + c))).toList)∧AllP n P (if (!lt d[first + root]! d[first + c]!) = true then d else Sort.siftDown lt hi first c (Sort.swp d (first + root) (first + c)))):=by
        intro c hcc hch h
        have xc:=gx (d:=d) (k:=first + c) q6
        have xs:=fun v=>gxs (d:=d) (k:=first + c) (i:=first + root) (v:=v) q6
        obtain ⟨r,h1,h2⟩:=hq d[first + root]! d[first + c]! (hd.2.2 _ q6) (hd.2.2 _ q6)
        have hb : (cond (decide (c = 2 * root + 2)) (some ((2 * root + 2 : Nat) : Int)) (some ((2 * root + 1 : Nat) : Int))) = some (c : Int):=by
          rcases hcc with rfl | rfl
          · simp
          · simp
        have ec : w64 ((first : Int) + (c : Int)) = ((first + c : Nat) : Int):=by rw [Q6 q6];omega
        by_cases hl : lt d[first + root]! d[first + c]! = true
        · have ihc:=ih (hi - c) q6 c _ rfl (hd.swp (a:=first + root) (b:=first + c) q6 q6) q6 (.inl hch)
          rw [if_neg (by simp [hl])]
          refine ⟨?_,ihc.2⟩
          rw [Ko (a':=((c : Int),(Sort.swp d (first + root) (first + c)).toList)) ?_]
          · exact ihc.1
          · simp only [Jk,e1,h0,cond_false,e2,e3,e6,h,Option.bind_some,hb,e5,ec,x0,xc,xs,h1,h2,hl,Bool.not_true,Int.toNat_natCast,gswp]
        · rw [if_pos (by simp [hl])]
          refine ⟨Kc ?_,hd⟩
          simp only [Jk,e1,h0,cond_false,e2,e3,e6,h,Option.bind_some,hb,e5,ec,x0,xc,h1,h2,hl,Bool.not_false,cond_true]
      by_cases h2c : 2 * root + 2 < hi
      · have x2:=gx (d:=d) (k:=first + (2 * root + 2)) q6
        have t2 : decide (((2 * root + 2 : Nat) : Int) < (hi : Int)) = true:=decide_eq_true q6
        obtain ⟨r,h1,h2⟩:=hq d[first + (2 * root + 1)]! d[first + (2 * root + 2)]! (hd.2.2 _ q6) (hd.2.2 _ q6)
        by_cases hl : lt d[first + (2 * root + 1)]! d[first + (2 * root + 2)]! = true
        · rw [if_pos (by simp only [Bool.and_eq_true,decide_eq_true_eq];exact ⟨q6,hl⟩)]
          have:=child (2 * root + 2) (.inr rfl) h2c (by simp only [t2,cond_true,x1,x2,Option.bind_some,h1,h2,hl,decide_true])
          rw [dif_pos h2c]
          exact this
        · rw [if_neg (by simp only [Bool.and_eq_true,decide_eq_true_eq];rintro ⟨_,h⟩;exact hl h)]
          have:=child (2 * root + 1) (.inl rfl) q6 (by simp only [t2,cond_true,x1,x2,Option.bind_some,h1,h2,hl];simp)
          exact this
      · have t2 : decide (((2 * root + 2 : Nat) : Int) < (hi : Int)) = false:=decide_eq_false q6
        rw [if_neg (by simp only [Bool.and_eq_true,decide_eq_true_eq];rintro ⟨h,_⟩;omega)]
        have:=child (2 * root + 1) (.inl rfl) q6 (by simp only [t2,cond_false];simp)
        exact this
end
end Go.Sh
namespace Go.Sh
open Go Go.Am
section
variable {T : Type} [Inhabited T] {P : T→Prop} {lt : T→T→Bool} {q : T→T→Option Int}
theorem Jm {n : Nat} {d d' : Array T} (h : AllP n P d) (h' : AllP n P d') : Qu d'.toList.length d.toList.length = some ():=by
  unfold Qu
  rw [if_pos (by simp [h.1,h'.1])]
theorem qhe (hq : Kk q lt P) (hi first n root : Nat) (hb : first + hi≤n) (d : Array T) (hd : AllP n P d) (hr : root≤1000000) (h2 : root < hi∨hi≤1) : U2 q d.toList (root : Int) (hi : Int) (first : Int) = some (Sort.siftDown lt hi first root d).toList∧AllP n P (Sort.siftDown lt hi first root d):=by
  obtain ⟨h3,h4⟩:=quc hq hi first n hb _ root d rfl hd hr h2
  exact ⟨by unfold U2;rw [h3];rfl,h4⟩
theorem qhn (hq : Kk q lt P) (a b n : Nat) (hb : b≤n) (hab : a≤b) : ∀ (k : Nat) (d : Array T),AllP n P d→(k≤b - a∨b - a = 0∧k≤1)→loop (Uk q (b : Int) (a : Int)) ((k : Int) - 1,d.toList) = some (Sort.heapBuild lt (b - a) a k d).toList∧AllP n P (Sort.heapBuild lt (b - a) a k d)
  | 0,d,hd,hk=>by
    have h0 : decide (((0 : Nat) : Int) - 1 ≥ 0) = false:=decide_eq_false q6
    refine ⟨Kc ?_,hd⟩
    simp only [Uk,h0,cond_false];rfl
  | k + 1,d,hd,hk=>by
    have hn:=hd.2.1
    have e : (((k + 1 : Nat) : Int) - 1) = (k : Int):=by omega
    rw [e]
    have h0 : decide ((k : Int) ≥ 0) = true:=decide_eq_true q6
    obtain ⟨h1,h2⟩:=qhe hq (b - a) a n k q6 d hd q6 q6
    have ih:=qhn hq a b n hb hab k _ h2 q6
    refine ⟨?_,ih.2⟩
    rw [Ko (a':=((k : Int) - 1,(Sort.siftDown lt (b - a) a k d).toList)) ?_]
    · exact ih.1
    · have ew : w64 ((k : Int) - 1) = (k : Int) - 1:=Q6 q6
      simp only [Uk,h0,cond_true,wsub hab (by omega : b < 2000000),h1,Option.bind_some,Jm hd h2,ew]
theorem qho (hq : Kk q lt P) (a n : Nat) : ∀ (k : Nat) (d : Array T),AllP n P d→a + k≤n→loop (Ul (a : Int) q) ((k : Int) - 1,d.toList) = some (Sort.heapPop lt a k d).toList
  | 0,d,hd,hk=>by
    have h0 : decide (((0 : Nat) : Int) - 1 ≥ 0) = false:=decide_eq_false q6
    refine Kc ?_
    simp only [Ul,h0,cond_false];rfl
  | k + 1,d,hd,hk=>by
    have hsz:=hd.1
    have hn:=hd.2.1
    have e : (((k + 1 : Nat) : Int) - 1) = (k : Int):=by omega
    rw [e]
    have h0 : decide ((k : Int) ≥ 0) = true:=decide_eq_true q6
    have hd1:=hd.swp (a:=a) (b:=a + k) q6 q6
    obtain ⟨h1,h2⟩:=qhe hq k a n 0 q6 _ hd1 q6 q6
    have ih:=qho hq a n k _ h2 q6
    rw [Ko (a':=((k : Int) - 1,(Sort.siftDown lt k a 0 (Sort.swp d a (a + k))).toList)) ?_]
    · exact ih
    · have ew : w64 ((k : Int) - 1) = (k : Int) - 1:=Q6 q6
      have ea : w64 ((a : Int) + (k : Int)) = ((a + k : Nat) : Int):=by rw [Q6 q6];omega
      have h1 : U2 q (Sort.swp d a (a + k)).toList 0 (k : Int) (a : Int) = _:=h1
      simp only [Ul,h0,cond_true,ea,gx (d:=d) (k:=a) q6,gx (d:=d) (k:=a + k) q6,gxs (d:=d) (k:=a + k) q6,Option.bind_some,Int.toNat_natCast,gswp,h1,Jm hd1 h2,ew]
theorem qor (hq : Kk q lt P) {a b n : Nat} (hb : b≤n) (hab : a < b) {d : Array T} (hd : AllP n P d) : q1h q d.toList (a : Int) (b : Int) = some (Sort.heapSort lt d a b).toList:=by
  have hn:=hd.2.1
  have e1 : w64 ((b : Int) - (a : Int)) = ((b - a : Nat) : Int):=wsub q6 q6
  have e2 : w64 (((b - a : Nat) : Int) - 1) = ((b - a : Nat) : Int) - 1:=Q6 q6
  have e3 : w64 (Int.tdiv (((b - a : Nat) : Int) - 1) 2) = (((b - a - 1) / 2 + 1 : Nat) : Int) - 1:=by
    rw [Int.tdiv_eq_ediv_of_nonneg q6,Q6 q6];omega
  obtain ⟨h1,h2⟩:=qhn hq a b n hb q6 ((b - a - 1) / 2 + 1) d hd q6
  unfold q1h Sort.heapSort
  rw [e1,e2,e3,h1,Option.bind_some,qho hq a n (b - a) _ h2 q6]
  rfl
theorem qsy (n : Nat) : ∀ (m i j : Nat) (d : Array T),j - i = m→AllP n P d→j < n→i≤1000001→loop (q1m (T:=T)) ((i : Int),(j : Int),d.toList) = some (Sort.reverseLoop i j d).toList:=by
  intro m
  induction m using Nat.strongRecOn with
  | _ m ih=>
    intro i j d hm hd hj hi
    have hsz:=hd.1
    have hn:=hd.2.1
    unfold Sort.reverseLoop
    by_cases hc : i < j
    · rw [if_pos hc]
      have h0 : decide ((i : Int) < (j : Int)) = true:=decide_eq_true q6
      have ej : w64 ((j : Int) - 1) = ((j - 1 : Nat) : Int):=by rw [Q6 q6];omega
      rw [Ko (a':=(((i + 1 : Nat) : Int),((j - 1 : Nat) : Int),(Sort.swp d i j).toList)) ?_]
      · exact ih _ q6 _ _ _ rfl (hd.swp q6 hj) q6 q6
      · simp only [q1m,h0,cond_true,gx (d:=d) (k:=i) q6,gx (d:=d) (k:=j) q6,gxs (d:=d) (k:=j) q6,Option.bind_some,Int.toNat_natCast,gswp,ej,w1p i q6]
    · rw [if_neg hc]
      have h0 : decide ((i : Int) < (j : Int)) = false:=decide_eq_false q6
      exact Kc (by simp only [q1m,h0,cond_false])
theorem qsz {a b n : Nat} (hb : b≤n) (hab : a < b) {d : Array T} (hd : AllP n P d) : Ur q d.toList (a : Int) (b : Int) = some (Sort.reverseRange d a b).toList:=by
  have hn:=hd.2.1
  have e1 : w64 ((b : Int) - 1) = ((b - 1 : Nat) : Int):=by rw [Q6 q6];omega
  unfold Ur Sort.reverseRange
  rw [e1,qsy n _ a (b - 1) d rfl hd q6 q6]
  rfl
theorem qe7 (hq : Kk q lt P) {n : Nat} {d : Array T} (hd : AllP n P d) {a b s : Nat} (ha : a < n) (hb : b < n) (hs : s≤1000) : Jv q d.toList (a : Int) (b : Int) (s : Int) = some (((Sort.order2 lt d a b s).1 : Int),((Sort.order2 lt d a b s).2.1 : Int),((Sort.order2 lt d a b s).2.2 : Int))∧(Sort.order2 lt d a b s).1 < n∧(Sort.order2 lt d a b s).2.1 < n∧(Sort.order2 lt d a b s).2.2≤s + 1:=by
  have hsz:=hd.1
  obtain ⟨r,h1,h2⟩:=hq d[b]! d[a]! (hd.2.2 _ hb) (hd.2.2 _ ha)
  unfold Jv Sort.order2
  rw [gx (d:=d) (k:=b) q6,gx (d:=d) (k:=a) q6]
  simp only [Option.bind_some,h1,h2]
  by_cases hl : lt d[b]! d[a]! = true
  · rw [if_pos hl]
    simp only [hl,cond_true,w1p s q6]
    exact ⟨trivial,hb,ha,q6⟩
  · rw [if_neg hl]
    have : lt d[b]! d[a]! = false:=by simpa using hl
    simp only [this,cond_false]
    exact ⟨trivial,ha,hb,q6⟩
theorem qdq (hq : Kk q lt P) {n : Nat} {d : Array T} (hd : AllP n P d) {a b c s : Nat} (ha : a < n) (hb : b < n) (hc : c < n) (hs : s≤900) : Ju q d.toList (a : Int) (b : Int) (c : Int) (s : Int) = some (((Sort.median lt d a b c s).1 : Int),((Sort.median lt d a b c s).2 : Int))∧(Sort.median lt d a b c s).1 < n∧(Sort.median lt d a b c s).2≤s + 3:=by
  obtain ⟨h1,a1,b1,c1⟩:=qe7 hq hd ha hb (s:=s) q6
  obtain ⟨h2,a2,b2,c2⟩:=qe7 hq hd b1 hc (s:=(Sort.order2 lt d a b s).2.2) q6
  obtain ⟨h3,a3,b3,c3⟩:=qe7 hq hd a1 a2 (s:=(Sort.order2 lt d (Sort.order2 lt d a b s).2.1 c (Sort.order2 lt d a b s).2.2).2.2) q6
  unfold Ju Sort.median
  simp only [h1,h2,h3,Option.bind_some]
  exact ⟨trivial,b3,q6⟩
theorem qdp (hq : Kk q lt P) {n : Nat} {d : Array T} (hd : AllP n P d) {a s : Nat} (ha : 1≤a) (ha2 : a + 1 < n) (hs : s≤900) : Ji q d.toList (a : Int) (s : Int) = some (((Sort.medianAdjacent lt d a s).1 : Int),((Sort.medianAdjacent lt d a s).2 : Int))∧(Sort.medianAdjacent lt d a s).1 < n∧(Sort.medianAdjacent lt d a s).2≤s + 3:=by
  have hn:=hd.2.1
  obtain ⟨h1,h2,h3⟩:=qdq hq hd (a:=a - 1) (b:=a) (c:=a + 1) (s:=s) q6 q6 ha2 hs
  have e : w64 ((a : Int) - 1) = ((a - 1 : Nat) : Int):=by rw [Q6 q6];omega
  unfold Ji Sort.medianAdjacent
  rw [e,w1p a q6,h1]
  exact ⟨rfl,h2,h3⟩
def qdc : Sort.Hint→Int
  | .unknown=>0
  | .increasing=>1
  | .decreasing=>2
theorem qn3 (hq : Kk q lt P) {n : Nat} {d : Array T} (hd : AllP n P d) {a b : Nat} (hab : a < b) (hb : b≤n) : q1g d.toList (a : Int) (b : Int) q = some (((Sort.choosePivot lt d a b).1 : Int),qdc (Sort.choosePivot lt d a b).2):=by
  have hn:=hd.2.1
  have e0 : w64 ((b : Int) - (a : Int)) = ((b - a : Nat) : Int):=wsub q6 q6
  have e1 : w64 (Int.tdiv ((b - a : Nat) : Int) 4) = (((b - a) / 4 : Nat) : Int):=by
    rw [Int.tdiv_eq_ediv_of_nonneg q6,Q6 q6];omega
  have em : ∀ k : Nat,k≤3→w64 ((a : Int) + (w64 ((((b - a) / 4 : Nat) : Int) * (k : Int)))) = ((a + (b - a) / 4 * k : Nat) : Int):=by
    intro k hk
    have : (b - a) / 4 * k≤(b - a) / 4 * 3:=Nat.mul_le_mul_left _ hk
    have e : ((((b - a) / 4 : Nat) : Int) * (k : Int)) = (((b - a) / 4 * k : Nat) : Int):=by push_cast;rfl
    rw [e,Q6 (x:=(((b - a) / 4 * k : Nat) : Int)) q6,Q6 q6];omega
  have em1:=em 1 q6
  have em2:=em 2 q6
  have em3:=em 3 q6
  have last : ∀ r : Nat × Nat,(cond (((r.2 : Int)) == 0) (some ((r.1 : Int),(1 : Int))) (cond (((r.2 : Int)) == 12) (some ((r.1 : Int),(2 : Int))) (some ((r.1 : Int),(0 : Int))))) = some ((r.1 : Int),qdc (if r.2 = 0 then Sort.Hint.increasing else if r.2 = 12 then Sort.Hint.decreasing else Sort.Hint.unknown)):=by
    intro r
    by_cases h0 : r.2 = 0
    · have : ((r.2 : Int) == 0) = true:=by simp [h0]
      simp only [this,cond_true,if_pos h0];rfl
    · have t0 : ((r.2 : Int) == 0) = false:=by simp;omega
      by_cases h12 : r.2 = 12
      · have : ((r.2 : Int) == 12) = true:=by simp;omega
        simp only [t0,this,cond_true,cond_false,if_neg h0,if_pos h12];rfl
      · have : ((r.2 : Int) == 12) = false:=by simp;omega
        simp only [t0,this,cond_false,if_neg h0,if_neg h12];rfl
  unfold q1g Sort.choosePivot
  simp only [e0,e1]
  by_cases h8 : b - a ≥ 8
  · have t8 : decide (((b - a : Nat) : Int) ≥ 8) = true:=decide_eq_true q6
    by_cases h50 : b - a ≥ 50
    · have t50 : decide (((b - a : Nat) : Int) ≥ 50) = true:=decide_eq_true q6
      obtain ⟨x1,y1,z1⟩:=qdp hq hd (a:=a + (b - a) / 4 * 1) (s:=0) q6 q6 q6
      obtain ⟨x2,y2,z2⟩:=qdp hq hd (a:=a + (b - a) / 4 * 2) (s:=(Sort.medianAdjacent lt d (a + (b - a) / 4 * 1) 0).2) q6 q6 q6
      obtain ⟨x3,y3,z3⟩:=qdp hq hd (a:=a + (b - a) / 4 * 3) (s:=(Sort.medianAdjacent lt d (a + (b - a) / 4 * 2) (Sort.medianAdjacent lt d (a + (b - a) / 4 * 1) 0).2).2) q6 q6 q6
      obtain ⟨x4,y4,z4⟩:=qdq hq hd y1 y2 y3 (s:=(Sort.medianAdjacent lt d (a + (b - a) / 4 * 3) (Sort.medianAdjacent lt d (a + (b - a) / 4 * 2) (Sort.medianAdjacent lt d (a + (b - a) / 4 * 1) 0).2).2).2) q6
      simp only [if_pos h8,if_pos h50,t8,t50,cond_true]
      have g1 : w64 ((a : Int) + (w64 ((((b - a) / 4 : Nat) : Int) * 1))) = _:=em1
      have g2 : w64 ((a : Int) + (w64 ((((b - a) / 4 : Nat) : Int) * 2))) = _:=em2
      have g3 : w64 ((a : Int) + (w64 ((((b - a) / 4 : Nat) : Int) * 3))) = _:=em3
      have x1 : Ji q d.toList ((a + (b - a) / 4 * 1 : Nat) : Int) 0 = _:=x1
      rw [g1,g2,g3]
      simp only [x1,x2,x3,x4,Option.bind_some]
      exact last _
    · have t50 : decide (((b - a : Nat) : Int) ≥ 50) = false:=decide_eq_false q6
      obtain ⟨x4,y4,z4⟩:=qdq hq hd (a:=a + (b - a) / 4 * 1) (b:=a + (b - a) / 4 * 2) (c:=a + (b - a) / 4 * 3) (s:=0) q6 q6 q6 q6
      simp only [if_pos h8,if_neg h50,t8,t50,cond_true,cond_false]
      have g1 : w64 ((a : Int) + (w64 ((((b - a) / 4 : Nat) : Int) * 1))) = _:=em1
      have g2 : w64 ((a : Int) + (w64 ((((b - a) / 4 : Nat) : Int) * 2))) = _:=em2
      have g3 : w64 ((a : Int) + (w64 ((((b - a) / 4 : Nat) : Int) * 3))) = _:=em3
      have x4 : Ju q d.toList ((a + (b - a) / 4 * 1 : Nat) : Int) ((a + (b - a) / 4 * 2 : Nat) : Int) ((a + (b - a) / 4 * 3 : Nat) : Int) 0 = _:=x4
      rw [g1,g2,g3]
      simp only [x4,Option.bind_some]
      exact last _
  · have t8 : decide (((b - a : Nat) : Int) ≥ 8) = false:=decide_eq_false q6
    simp only [if_neg h8,t8,cond_false]
    have g2 : w64 ((a : Int) + (w64 ((((b - a) / 4 : Nat) : Int) * 2))) = _:=em2
    rw [g2]
    simp only [Option.bind_some]
    exact last (a + (b - a) / 4 * 2,0)
end
end Go.Sh
namespace Go.Sh
open Go Go.Am
theorem q17 (n : Int) : IntKind.u64.wrap n = n % 18446744073709551616:=by simp [IntKind.wrap,IntKind.bits,IntKind.signed]
theorem qz7 (n : Int) : IntKind.u8.wrap n = n % 256:=by simp [IntKind.wrap,IntKind.bits,IntKind.signed]
theorem xorU (a b : Nat) (ha : a < 18446744073709551616) (hb : b < 18446744073709551616) : xorI .u64 (a : Int) (b : Int) = ((a ^^^ b : Nat) : Int):=by
  have hx : a ^^^ b < 2 ^ 64:=Nat.xor_lt_two_pow q6 q6
  unfold xorI
  rw [q17]
  show ((BitVec.ofInt 64 (a : Int) ^^^ BitVec.ofInt 64 (b : Int)).toNat : Int) % _ = _
  rw [BitVec.ofInt_natCast,BitVec.ofInt_natCast,BitVec.toNat_xor,BitVec.toNat_ofNat,BitVec.toNat_ofNat,Nat.mod_eq_of_lt (a:=a) q6,Nat.mod_eq_of_lt (a:=b) q6]
  omega
theorem andU (a b : Nat) (ha : a < 18446744073709551616) (hb : b < 18446744073709551616) : andI .u64 (a : Int) (b : Int) = ((a &&& b : Nat) : Int):=by
  have hx : a &&& b≤a:=Nat.and_le_left
  unfold andI
  rw [q17]
  show ((BitVec.ofInt 64 (a : Int) &&& BitVec.ofInt 64 (b : Int)).toNat : Int) % _ = _
  rw [BitVec.ofInt_natCast,BitVec.ofInt_natCast,BitVec.toNat_and,BitVec.toNat_ofNat,BitVec.toNat_ofNat,Nat.mod_eq_of_lt (a:=a) q6,Nat.mod_eq_of_lt (a:=b) q6]
  omega
theorem qza (X : Nat) (hX : X < 18446744073709551616) : q1n (X : Int) = some ((Sort.xorNextN X : Nat) : Int):=by
  obtain ⟨A,hA⟩ : ∃ A : Nat,A = X ^^^ (X * 8192 % 18446744073709551616):=⟨_,rfl⟩
  obtain ⟨B,hB⟩ : ∃ B : Nat,B = A ^^^ (A / 128):=⟨_,rfl⟩
  have lA : A < 18446744073709551616:=by rw [hA];exact Nat.xor_lt_two_pow (n:=64) q6 q6
  have lB : B < 18446744073709551616:=by rw [hB];exact Nat.xor_lt_two_pow (n:=64) q6 q6
  have e1 : xorI .u64 (X : Int) (IntKind.u64.wrap ((X : Int) * 2 ^ 13)) = (A : Int):=by
    rw [q17,show ((X : Int) * 2 ^ 13 % 18446744073709551616) = ((X * 8192 % 18446744073709551616 : Nat) : Int) by omega,xorU _ _ hX q6,hA]
  have e2 : xorI .u64 (A : Int) (Int.fdiv (A : Int) (2 ^ 7)) = (B : Int):=by
    rw [Int.fdiv_eq_ediv_of_nonneg _ qy,show ((A : Int) / 2 ^ 7) = ((A / 128 : Nat) : Int) by omega,xorU _ _ lA q6,hB]
  have e3 : xorI .u64 (B : Int) (IntKind.u64.wrap ((B : Int) * 2 ^ 17)) = ((B ^^^ (B * 131072 % 18446744073709551616) : Nat) : Int):=by
    rw [q17,show ((B : Int) * 2 ^ 17 % 18446744073709551616) = ((B * 131072 % 18446744073709551616 : Nat) : Int) by omega,xorU _ _ lB q6]
  have hv : Sort.xorNextN X = B ^^^ (B * 131072 % 18446744073709551616):=by unfold Sort.xorNextN;simp only [];rw [← hA,← hB]
  unfold q1n
  rw [e1,e2,e3,hv]
theorem qyk : ∀ k : Nat,k < 256→q3w q4a (k : Int) = some ((Sort.bitsLen k : Nat) : Int):=by
  have key : ∀ k : Fin 256,(q4a[k.1]?).map (fun b=>b.toNat) = some (Sort.bitsLen k.1):=by decide +kernel
  intro k hk
  have:=key ⟨k,hk⟩
  unfold q3w
  rw [if_pos q6,Int.toNat_natCast]
  simp only [Option.map_eq_some_iff] at this ⊢
  obtain ⟨b,h1,h2⟩:=this
  exact ⟨b,h1,by rw [h2]⟩
theorem qfp (n k : Nat) (h : 2 ^ k≤n) : Sort.bitsLen n = Sort.bitsLen (n / 2 ^ k) + k:=by
  have hp : 0 < 2 ^ k:=Nat.two_pow_pos k
  apply Nat.le_antisymm
  · rw [Sort.bitsLen_le_iff]
    have:=Sort.lt_two_pow_bitsLen (n / 2 ^ k)
    rw [Nat.pow_add]
    exact (Nat.div_lt_iff_lt_mul hp).1 this
  · have h2 : k < Sort.bitsLen n:=by
      rcases Nat.lt_or_ge k (Sort.bitsLen n) with h3 | h3
      · exact h3
      · have:=(Sort.bitsLen_le_iff n k).1 h3;omega
    have : Sort.bitsLen (n / 2 ^ k)≤Sort.bitsLen n - k:=by
      rw [Sort.bitsLen_le_iff,Nat.div_lt_iff_lt_mul hp,← Nat.pow_add,Nat.sub_add_cancel q6]
      exact Sort.lt_two_pow_bitsLen n
    omega
theorem qi4 (n : Nat) (hn : n≤1000000) : Ui (n : Int) = some ((Sort.bitsLen n : Nat) : Int):=by
  unfold Ui q2n
  have h0 : decide ((n : Int) ≥ 4294967296) = false:=decide_eq_false q6
  simp only [h0,cond_false,Option.bind_some]
  have fin : ∀ m s : Nat,m < 256→s≤16→(q3w q4a (IntKind.u8.wrap (m : Int))).bind (fun v10=>some (w64 ((s : Int) + (w64 v10)))) = some ((Sort.bitsLen m + s : Nat) : Int):=by
    intro m s hm hs
    rw [qz7,show ((m : Int) % 256) = (m : Int) by omega,qyk m hm]
    have : Sort.bitsLen m≤8:=(Sort.bitsLen_le_iff m 8).2 q6
    rw [Option.bind_some,Q6 (x:=((Sort.bitsLen m : Nat) : Int)) q6,Q6 q6]
    congr 1;omega
  by_cases h1 : n ≥ 65536
  · have t1 : decide ((n : Int) ≥ 65536) = true:=decide_eq_true q6
    have e : Int.fdiv (n : Int) (2 ^ 16) = ((n / 65536 : Nat) : Int):=by rw [Int.fdiv_eq_ediv_of_nonneg _ qy];omega
    have t2 : decide (((n / 65536 : Nat) : Int) ≥ 256) = false:=decide_eq_false q6
    have w : w64 (0 + 16) = ((16 : Nat) : Int):=by rw [Q6 q6];rfl
    simp only [t1,cond_true,Option.bind_some,e,t2,cond_false,w]
    rw [fin (n / 65536) 16 q6 q6,Option.bind_some,qfp n 16 q6]
  · have t1 : decide ((n : Int) ≥ 65536) = false:=decide_eq_false q6
    simp only [t1,cond_false,Option.bind_some]
    by_cases h2 : n ≥ 256
    · have t2 : decide ((n : Int) ≥ 256) = true:=decide_eq_true q6
      have e : Int.fdiv (n : Int) (2 ^ 8) = ((n / 256 : Nat) : Int):=by rw [Int.fdiv_eq_ediv_of_nonneg _ qy];omega
      have w : w64 (0 + 8) = ((8 : Nat) : Int):=by rw [Q6 q6];rfl
      simp only [t2,cond_true,Option.bind_some,e,w]
      rw [fin (n / 256) 8 q6 q6,Option.bind_some,qfp n 8 q6]
    · have t2 : decide ((n : Int) ≥ 256) = false:=decide_eq_false q6
      simp only [t2,cond_false,Option.bind_some]
      have:=fin n 0 q6 q6
      exact congrArg (fun o=>Option.bind o some) this
theorem qpu (n : Nat) (hn : n≤1000000) : q1j (n : Int) = some ((1 <<< Sort.bitsLen n : Nat) : Int):=by
  unfold q1j
  rw [q17,show ((n : Int) % 18446744073709551616) = (n : Int) by omega,qi4 n hn]
  have hk : Sort.bitsLen n≤20:=(Sort.bitsLen_le_iff n 20).2 q6
  have h : (2 : Nat) ^ Sort.bitsLen n≤2 ^ 20:=Nat.pow_le_pow_right qy hk
  have e : min (Sort.bitsLen n) IntKind.u64.bits = Sort.bitsLen n:=Nat.min_eq_left (by show _≤64;omega)
  simp only [Option.bind_some,shlK]
  rw [if_neg q6,Int.toNat_natCast,e,q17,Nat.one_shiftLeft,Option.bind_some,show ((1 : Int) * (2 : Int) ^ Sort.bitsLen n) = ((2 ^ Sort.bitsLen n : Nat) : Int) by push_cast;omega]
  generalize (2 : Nat) ^ Sort.bitsLen n = p at h
  congr 1;omega
section
variable {T : Type} [Inhabited T] {P : T→Prop} {lt : T→T→Bool} {q : T→T→Option Int}
theorem qcf {a b n : Nat} (hb : b≤n) (h8 : 8≤b - a) {d : Array T} (hd : AllP n P d) (k : Nat) (hk : k≤2) (r : UInt64) :
    Jt (a : Int) (b : Int) ((1 <<< Sort.bitsLen (b - a) : Nat) : Int) (((a + (b - a) / 4 * 2 - 1 + k : Nat) : Int),d.toList,((r.toNat : Nat) : Int)) =
      some (.inl (((a + (b - a) / 4 * 2 - 1 + k + 1 : Nat) : Int),(Sort.breakStep a (b - a) (1 <<< Sort.bitsLen (b - a)) (r,d) (a + (b - a) / 4 * 2 - 1 + k)).2.toList,(((Sort.breakStep a (b - a) (1 <<< Sort.bitsLen (b - a)) (r,d) (a + (b - a) / 4 * 2 - 1 + k)).1.toNat : Nat) : Int)))∧
      AllP n P (Sort.breakStep a (b - a) (1 <<< Sort.bitsLen (b - a)) (r,d) (a + (b - a) / 4 * 2 - 1 + k)).2:=by
  have hsz:=hd.1
  have hn:=hd.2.1
  have hr : r.toNat < 18446744073709551616:=r.toNat_lt
  have e0 : w64 ((b : Int) - (a : Int)) = ((b - a : Nat) : Int):=wsub q6 q6
  have e1 : w64 (Int.tdiv ((b - a : Nat) : Int) 4) = (((b - a) / 4 : Nat) : Int):=by
    rw [Int.tdiv_eq_ediv_of_nonneg q6,Q6 q6];omega
  have e2 : w64 ((((b - a) / 4 : Nat) : Int) * 2) = (((b - a) / 4 * 2 : Nat) : Int):=by rw [Q6 q6];omega
  have e3 : w64 ((a : Int) + (((b - a) / 4 * 2 : Nat) : Int)) = ((a + (b - a) / 4 * 2 : Nat) : Int):=by rw [Q6 q6];omega
  have e4 : w64 (((a + (b - a) / 4 * 2 : Nat) : Int) + 1) = ((a + (b - a) / 4 * 2 + 1 : Nat) : Int):=w1p _ q6
  have h0 : decide (((a + (b - a) / 4 * 2 - 1 + k : Nat) : Int)≤((a + (b - a) / 4 * 2 + 1 : Nat) : Int)) = true:=decide_eq_true q6
  have hx:=qza r.toNat hr
  have hX : Sort.xorNextN r.toNat < 18446744073709551616:=Sort.xorNextN_lt _ hr
  have hk20 : Sort.bitsLen (b - a)≤20:=(Sort.bitsLen_le_iff _ 20).2 q6
  have hp20 : (2 : Nat) ^ Sort.bitsLen (b - a)≤2 ^ 20:=Nat.pow_le_pow_right qy hk20
  have hp1 : 0 < (2 : Nat) ^ Sort.bitsLen (b - a):=Nat.two_pow_pos _
  have hpl:=Sort.two_pow_bitsLen_le (n:=b - a) q6
  have hone : (1 : Nat) <<< Sort.bitsLen (b - a) = 2 ^ Sort.bitsLen (b - a):=Nat.one_shiftLeft _
  have em : IntKind.u64.wrap (((1 <<< Sort.bitsLen (b - a) : Nat) : Int) - 1) = ((1 <<< Sort.bitsLen (b - a) - 1 : Nat) : Int):=by
    rw [q17,hone]
    generalize (2 : Nat) ^ Sort.bitsLen (b - a) = p at hp20 hp1
    omega
  have hand : (Sort.xorNextN r.toNat) &&& (1 <<< Sort.bitsLen (b - a) - 1) < 2 ^ Sort.bitsLen (b - a):=by
    rw [hone]
    have : (Sort.xorNextN r.toNat) &&& (2 ^ Sort.bitsLen (b - a) - 1)≤2 ^ Sort.bitsLen (b - a) - 1:=Nat.and_le_right
    omega
  have ea:=andU (Sort.xorNextN r.toNat) (1 <<< Sort.bitsLen (b - a) - 1) hX (by rw [hone];omega)
  unfold Sort.breakStep
  simp only [Sort.xorNext_toNat]
  generalize hm : (Sort.xorNextN r.toNat) &&& (1 <<< Sort.bitsLen (b - a) - 1) = m at hand ea
  have hm2 : m < 2 * (b - a):=by omega
  have ew : w64 (m : Int) = (m : Int):=Q6 q6
  have eb : (cond (decide ((m : Int) ≥ ((b - a : Nat) : Int))) (some (w64 ((m : Int) - ((b - a : Nat) : Int)))) (some (m : Int))) = some (((if m ≥ b - a then m - (b - a) else m) : Nat) : Int):=by
    by_cases hc : m ≥ b - a
    · have t : decide ((m : Int) ≥ ((b - a : Nat) : Int)) = true:=decide_eq_true q6
      rw [t,cond_true,if_pos hc,wsub hc q6]
    · have t : decide ((m : Int) ≥ ((b - a : Nat) : Int)) = false:=decide_eq_false q6
      rw [t,cond_false,if_neg hc]
  have ho : (if m ≥ b - a then m - (b - a) else m) < b - a:=by split <;> omega
  generalize (if m ≥ b - a then m - (b - a) else m) = o at eb ho
  have eo : w64 ((a : Int) + (o : Int)) = ((a + o : Nat) : Int):=by rw [Q6 q6];omega
  refine ⟨?_,hd.swp q6 q6⟩
  simp only [Jt,e0,e1,e2,e3,e4,h0,cond_true,hx,Option.bind_some,em,ea,ew,eb,eo,gx (d:=d) (k:=a + o) q6,gx (d:=d) (k:=a + (b - a) / 4 * 2 - 1 + k) q6,gxs (d:=d) (k:=a + o) q6,Int.toNat_natCast,gswp,w1p (a + (b - a) / 4 * 2 - 1 + k) q6]
theorem qm6 {a b n : Nat} (hb : b≤n) (hab : a < b) {d : Array T} (hd : AllP n P d) : Uj q d.toList (a : Int) (b : Int) = some (Sort.breakPatterns d a b).toList:=by
  have hn:=hd.2.1
  have e0 : w64 ((b : Int) - (a : Int)) = ((b - a : Nat) : Int):=wsub q6 q6
  unfold Uj Sort.breakPatterns
  simp only [e0]
  by_cases h8 : b - a ≥ 8
  · have t : decide (((b - a : Nat) : Int) ≥ 8) = true:=decide_eq_true q6
    rw [t,cond_true,if_pos h8,qpu _ q6,Option.bind_some]
    have e1 : w64 (Int.tdiv ((b - a : Nat) : Int) 4) = (((b - a) / 4 : Nat) : Int):=by
      rw [Int.tdiv_eq_ediv_of_nonneg q6,Q6 q6];omega
    have e2 : w64 ((((b - a) / 4 : Nat) : Int) * 2) = (((b - a) / 4 * 2 : Nat) : Int):=by rw [Q6 q6];omega
    have e3 : w64 ((a : Int) + (((b - a) / 4 * 2 : Nat) : Int)) = ((a + (b - a) / 4 * 2 : Nat) : Int):=by rw [Q6 q6];omega
    have e4 : w64 (((a + (b - a) / 4 * 2 : Nat) : Int) - 1) = ((a + (b - a) / 4 * 2 - 1 : Nat) : Int):=by rw [Q6 q6];omega
    have e5 : IntKind.u64.wrap ((b - a : Nat) : Int) = (((UInt64.ofNat (b - a)).toNat : Nat) : Int):=by
      rw [q17,UInt64.toNat_ofNat'];omega
    rw [e1,e2,e3,e4,e5]
    obtain ⟨s1,a1⟩:=qcf hb h8 hd 0 q6 (UInt64.ofNat (b - a))
    obtain ⟨s2,a2⟩:=qcf hb h8 a1 1 q6 (Sort.breakStep a (b - a) (1 <<< Sort.bitsLen (b - a)) (UInt64.ofNat (b - a),d) (a + (b - a) / 4 * 2 - 1 + 0)).1
    obtain ⟨s3,a3⟩:=qcf hb h8 a2 2 q6 (Sort.breakStep a (b - a) (1 <<< Sort.bitsLen (b - a)) ((Sort.breakStep a (b - a) (1 <<< Sort.bitsLen (b - a)) (UInt64.ofNat (b - a),d) (a + (b - a) / 4 * 2 - 1 + 0)).1,(Sort.breakStep a (b - a) (1 <<< Sort.bitsLen (b - a)) (UInt64.ofNat (b - a),d) (a + (b - a) / 4 * 2 - 1 + 0)).2) (a + (b - a) / 4 * 2 - 1 + 1)).1
    simp only [Nat.add_zero,Prod.eta] at s1 s2 s3 a1 a2 a3
    rw [Ko s1,Ko s2,Ko s3]
    have hend : Jt (T:=T) (a : Int) (b : Int) ((1 <<< Sort.bitsLen (b - a) : Nat) : Int) (((a + (b - a) / 4 * 2 - 1 + 2 + 1 : Nat) : Int),(Sort.breakStep a (b - a) (1 <<< Sort.bitsLen (b - a)) (Sort.breakStep a (b - a) (1 <<< Sort.bitsLen (b - a)) (Sort.breakStep a (b - a) (1 <<< Sort.bitsLen (b - a)) (UInt64.ofNat (b - a),d) (a + (b - a) / 4 * 2 - 1)) (a + (b - a) / 4 * 2 - 1 + 1)) (a + (b - a) / 4 * 2 - 1 + 2)).2.toList,(((Sort.breakStep a (b - a) (1 <<< Sort.bitsLen (b - a)) (Sort.breakStep a (b - a) (1 <<< Sort.bitsLen (b - a)) (Sort.breakStep a (b - a) (1 <<< Sort.bitsLen (b - a)) (UInt64.ofNat (b - a),d) (a + (b - a) / 4 * 2 - 1)) (a + (b - a) / 4 * 2 - 1 + 1)) (a + (b - a) / 4 * 2 - 1 + 2)).1.toNat : Nat) : Int)) = some (.inr (Sort.breakStep a (b - a) (1 <<< Sort.bitsLen (b - a)) (Sort.breakStep a (b - a) (1 <<< Sort.bitsLen (b - a)) (Sort.breakStep a (b - a) (1 <<< Sort.bitsLen (b - a)) (UInt64.ofNat (b - a),d) (a + (b - a) / 4 * 2 - 1)) (a + (b - a) / 4 * 2 - 1 + 1)) (a + (b - a) / 4 * 2 - 1 + 2)).2.toList):=by
      have e6 : w64 (((a + (b - a) / 4 * 2 : Nat) : Int) + 1) = ((a + (b - a) / 4 * 2 + 1 : Nat) : Int):=w1p _ q6
      have h0 : decide (((a + (b - a) / 4 * 2 - 1 + 2 + 1 : Nat) : Int)≤((a + (b - a) / 4 * 2 + 1 : Nat) : Int)) = false:=decide_eq_false q6
      simp only [Jt,e0,e1,e2,e3,e6,h0,cond_false]
    rw [Kc hend]
    rfl
  · have t : decide (((b - a : Nat) : Int) ≥ 8) = false:=decide_eq_false q6
    rw [t,cond_false,if_neg h8]
end
end Go.Sh
