/- Pl1 Pl2 Pl3 Pg0 Pg1 Pg2 Pg3 -/
import Derived.Test.YtlchefooafpdlaaGreatK8
import Derived.Sort.AssemblyPlain
import Derived.Sort.LotD5
namespace Go.Sh
open Go Go.Am
def has (s : List qm) (x : Int) : Prop:=∃ t∈s,t.Lo≤x∧x < t.Hi
def Can (s : List qm) : Prop:=(∀ t∈s,t.Lo < t.Hi)∧s.Pairwise (fun a b=>a.Hi < b.Lo)
def vld (t : qm) : Prop:=t.Lo < t.Hi∧-1000000≤t.Lo∧t.Hi≤1000000
instance (t : qm) : Decidable (vld t):=by unfold vld;exact inferInstance
def Good (s : List qm) : Prop:=(∀ t∈s,vld t)∧s.Pairwise (fun a b=>a.Hi < b.Lo)
theorem Good.can {s : List qm} (h : Good s) : Can s:=⟨fun t ht=>(h.1 t ht).1,h.2⟩
theorem q1d (x : Int) : ¬ has [] x:=by rintro ⟨t,h,_⟩;cases h
theorem Zj {a : qm} {s : List qm} {x : Int} : has (a::s) x↔(a.Lo≤x∧x < a.Hi)∨has s x:=by
  constructor
  · rintro ⟨t,ht,h⟩
    rcases List.mem_cons.1 ht with rfl | ht
    · exact .inl h
    · exact .inr ⟨t,ht,h⟩
  · rintro (h | ⟨t,ht,h⟩)
    · exact ⟨a,qf,h⟩
    · exact ⟨t,by simp [ht],h⟩
theorem qqi {a b : List qm} {x : Int} : has (a ++ b) x↔has a x∨has b x:=by
  induction a with
  | nil=>simp [q1d]
  | cons t r ih=>simp only [List.cons_append,Zj,ih,or_assoc]
theorem Can.tail {a : qm} {s : List qm} (h : Can (a::s)) : Can s:=⟨fun t ht=>h.1 t (by simp [ht]),(List.pairwise_cons.1 h.2).2⟩
theorem Can.lt {a : qm} {s : List qm} (h : Can (a::s)) : ∀ t∈s,a.Hi < t.Lo:=(List.pairwise_cons.1 h.2).1
theorem Can.tail_gt {a : qm} {s : List qm} (h : Can (a::s)) {x : Int} (hx : has s x) : a.Hi < x:=by
  obtain ⟨t,ht,h1,h2⟩:=hx
  have:=h.lt t ht
  omega
theorem q4d : ∀ {s t : List qm},Can s→Can t→(∀ x,has s x↔has t x)→s = t
  | [],[],_,_,_=>rfl
  | [],b::t,_,ht,h=>absurd ((h b.Lo).2 (Zj.2 (.inl ⟨Int.le_refl _,ht.1 b qf⟩))) (q1d _)
  | a::s,[],hs,_,h=>absurd ((h a.Lo).1 (Zj.2 (.inl ⟨Int.le_refl _,hs.1 a qf⟩))) (q1d _)
  | a::s,b::t,hs,ht,h=>by
    have ha:=hs.1 a qf
    have hb:=ht.1 b qf
    have lo : ∀ {a b : qm} {s t : List qm},Can (a::s)→Can (b::t)→(∀ x,has (a::s) x↔has (b::t) x)→b.Lo≤a.Lo:=by
      intro a b s t hs ht h
      rcases Zj.1 ((h a.Lo).1 (Zj.2 (.inl ⟨Int.le_refl _,hs.1 a qf⟩))) with h1 | h1
      · exact h1.1
      · have:=ht.tail_gt h1;have:=ht.1 b qf;omega
    have e1 : a.Lo = b.Lo:=Int.le_antisymm (lo ht hs fun x=>(h x).symm) (lo hs ht h)
    have hi : ∀ {a b : qm} {s t : List qm},Can (a::s)→Can (b::t)→(∀ x,has (a::s) x↔has (b::t) x)→a.Lo = b.Lo→b.Hi≤a.Hi:=by
      intro a b s t hs ht h e
      have ha:=hs.1 a qf
      have hb:=ht.1 b qf
      refine Int.not_lt.1 fun hlt=>?_
      rcases Zj.1 ((h a.Hi).2 (Zj.2 (.inl ⟨q7,hlt⟩))) with h1 | h1
      · omega
      · have:=hs.tail_gt h1;omega
    have e2 : a.Hi = b.Hi:=Int.le_antisymm (hi ht hs (fun x=>(h x).symm) e1.symm) (hi hs ht h e1)
    have e : a = b:=by cases a;cases b;simp at e1 e2;simp [e1,e2]
    subst e
    congr 1
    refine q4d hs.tail ht.tail fun x=>⟨fun hx=>?_,fun hx=>?_⟩
    · have h1:=hs.tail_gt hx
      rcases Zj.1 ((h x).1 (Zj.2 (.inr hx))) with h2 | h2
      · omega
      · exact h2
    · have h1:=ht.tail_gt hx
      rcases Zj.1 ((h x).2 (Zj.2 (.inr hx))) with h2 | h2
      · omega
      · exact h2
theorem qmv (t : qm) : q2y t = some (decide (vld t)):=by
  unfold q2y vld
  by_cases h1 : t.Lo < t.Hi <;> by_cases h2 : -1000000≤t.Lo <;> by_cases h3 : t.Hi≤1000000 <;> simp [h1,h2,h3]
open Classical in
noncomputable def Yb (s : List qm) : Int:=if 400 < s.length then 4 else if Good s then 0 else 8
def qg4 (s : List qm) (k : Nat) : Prop:=(∀ i (h : i < s.length),i < k→vld s[i])∧∀ i (h : i + 1 < s.length),i + 1 < k→s[i].Hi < s[i+1].Lo
theorem qqa {s : List qm} (h : qg4 s s.length) : Good s:=by
  refine ⟨fun t ht=>?_,?_⟩
  · obtain ⟨i,hi,rfl⟩:=List.mem_iff_getElem.1 ht
    exact h.1 i hi hi
  · have key : ∀ i j (hi : i < s.length) (hj : j < s.length),i < j→s[i].Hi < s[j].Lo:=by
      intro i j hi hj hij
      induction j with
      | zero=>omega
      | succ j ih=>
        have h1:=h.2 j hj hj
        by_cases e : i = j
        · subst e;exact h1
        · have h2:=ih q7 q7
          have h3:=(h.1 j q7 q7).1
          omega
    rw [List.pairwise_iff_getElem]
    exact key
theorem Good.get {s : List qm} (h : Good s) (i : Nat) (hi : i < s.length) : vld s[i]:=h.1 _ (List.getElem_mem hi)
theorem Good.nxt {s : List qm} (h : Good s) (i j : Nat) (hi : i < s.length) (hj : j < s.length) (hij : i < j) : s[i].Hi < s[j].Lo:=List.pairwise_iff_getElem.1 h.2 i j hi hj hij
theorem qda (s : List qm) : q2v s = some (Yb s):=by
  unfold q2v Yb
  by_cases hl : 400 < s.length
  · have : decide ((s.length : Int) > 400) = true:=by simp;omega
    simp [this,hl]
  · have hd : decide ((s.length : Int) > 400) = false:=by simp;omega
    simp only [hd,hl,if_false,cond_false]
    have:=J4 (f:=q1p s) (σ:=Unit) (fun k _=>(k : Int)) s.length (fun k _=>qg4 s k) (fun b=>(b = .inl ()∧Good s)∨(b = .inr 8∧¬ Good s)) ?_ ?_ (k0:=0) (c0:=()) q7 ⟨fun i _ h=>q7,fun i _ h=>q7⟩
    · obtain ⟨b,h1,h2⟩:=this
      have h1 : loop (q1p s) 0 = some b:=h1
      rw [h1]
      rcases h2 with ⟨rfl,h2⟩ | ⟨rfl,h2⟩ <;> simp [h2]
    · intro k _ hk hg
      have hb : decide ((k : Int) < (s.length : Int)) = true:=by simp;omega
      simp only [q1p,hb,cond_true,K1 hk,Option.bind_some,qmv]
      have bad : ¬ Good s→∃ b,(some (Sum.inr (Sum.inr 8)) : Option (Int ⊕ (Unit ⊕ Int))) = some (.inr b)∧((b = .inl ()∧Good s)∨(b = .inr 8∧¬ Good s)):=fun h=>⟨_,rfl,.inr ⟨rfl,h⟩⟩
      by_cases hv : vld s[k]
      · simp only [hv,decide_true,Bool.not_true,cond_false]
        by_cases h0 : k = 0
        · subst h0
          refine .inl ⟨(),by simp [Q0],⟨fun i hi h=>?_,fun i hi h=>q7⟩⟩
          (obtain rfl : i = 0:=by omega)
          exact hv
        · obtain ⟨j,rfl⟩ : ∃ j,k = j + 1:=⟨k - 1,q7⟩
          have hp : decide (((j + 1 : Nat) : Int) > 0) = true:=decide_eq_true q7
          have hj : idx s (w64 (((j + 1 : Nat) : Int) - 1)) = some (s[j]'(q7)):=by
            rw [Q0 q7];exact J2 q7 q7
          simp only [hp,cond_true,hj,Option.bind_some]
          by_cases hlt : s[j].Hi < s[j+1].Lo
          · have : decide (s[j].Hi ≥ s[j+1].Lo) = false:=by simp;omega
            simp only [this,cond_false]
            rw [Q0 q7]
            refine .inl ⟨(),rfl,⟨fun i hi h=>?_,fun i hi h=>?_⟩⟩
            · by_cases e : i = j + 1
              · subst e;exact hv
              · exact hg.1 i hi q7
            · by_cases e : i = j
              · subst e;exact hlt
              · exact hg.2 i hi q7
          · have : decide (s[j].Hi ≥ s[j+1].Lo) = true:=by simp;omega
            simp only [this,cond_true]
            exact .inr (bad fun h=>hlt (h.nxt j (j + 1) q7 hk q7))
      · simp only [hv,decide_false,Bool.not_false,cond_true,Option.bind_some]
        exact .inr (bad fun h=>hv (h.get k hk))
    · intro _ hg
      have hb : decide ((s.length : Int) < (s.length : Int)) = false:=by simp
      simp only [q1p,hb,cond_false]
      exact ⟨_,rfl,.inl ⟨rfl,qqa hg⟩⟩
theorem qt8 : qko = q2y:=rfl
theorem qt5 (s : List qm) : qen s = q1p s:=by
  funext a
  unfold qen q1p
  cases h : idx s a <;> simp [h,qt8]
theorem qt7 (s : List qm) : qb8 s = some (Yb s):=by
  rw [← qda];unfold qb8 q2v;rw [qt5]
open Classical in
theorem qkm (s : List qm) (x : Int) (hl : s.length≤1000000) : qb9 s x = some (decide (has s x)):=by
  have:=J4 (f:=q7v s x) (σ:=Unit) (fun k _=>(k : Int)) s.length (fun k _=>∀ i (h : i < s.length),i < k→¬ (s[i].Lo≤x∧x < s[i].Hi)) (fun b=>(b = .inl ()∧¬ has s x)∨(b = .inr true∧has s x)) ?_ ?_ (k0:=0) (c0:=()) q7 (fun i _ h=>q7)
  · obtain ⟨b,h1,h2⟩:=this
    have h1 : loop (q7v s x) 0 = some b:=h1
    unfold qb9
    rw [h1]
    rcases h2 with ⟨rfl,h2⟩ | ⟨rfl,h2⟩ <;> simp [h2]
  · intro k _ hk hg
    have hb : decide ((k : Int) < (s.length : Int)) = true:=decide_eq_true q7
    simp only [q7v,hb,cond_true,K1 hk,Option.bind_some]
    by_cases h1 : s[k].Lo≤x <;> by_cases h2 : x < s[k].Hi
    · exact .inr ⟨.inr true,by simp [h1,h2],.inr ⟨rfl,s[k],List.getElem_mem hk,h1,h2⟩⟩
    all_goals
      refine .inl ⟨(),by simp [h1,h2];exact Q0 q7,fun i hi h=>?_⟩
      by_cases e : i = k
      · subst e;omega
      · exact hg i hi q7
  · intro _ hg
    have hb : decide ((s.length : Int) < (s.length : Int)) = false:=decide_eq_false q7
    simp only [q7v,hb,cond_false]
    refine ⟨_,rfl,.inl ⟨rfl,?_⟩⟩
    rintro ⟨t,ht,h⟩
    obtain ⟨i,hi,rfl⟩:=List.mem_iff_getElem.1 ht
    exact hg i hi hi h
end Go.Sh
namespace Go.Sh
open Go Go.Am
theorem qqs (out : List Int) (v : Int) (b : Nat) (hb : b≤out.length) :
    (cpyw (out ++ [0]) (b + 1,(out ++ [0]).length - (b + 1)) ((((out ++ [0]).drop b).take ((out ++ [0]).length - b)))).set b v = out.take b ++ v::out.drop b:=by
  have e1 : ((out ++ [0]).drop b).take ((out ++ [0]).length - b) = (out ++ [0]).drop b:=List.take_of_length_le qf
  rw [e1]
  unfold cpyw splice
  have e2 : (min ((out ++ [0]).drop b).length ((out ++ [0]).length - (b + 1))) = out.length - b:=by simp;omega
  simp only [e2]
  have e3 : ((out ++ [0]).drop b).take (out.length - b) = out.drop b:=by
    rw [List.drop_append_of_le_length hb,List.take_append_of_le_length qf]
    exact List.take_of_length_le qf
  rw [e3]
  have e4 : (out ++ [0]).drop (b + 1 + (out.drop b).length) = []:=by
    apply List.drop_of_length_le;simp;omega
  rw [e4,List.append_nil]
  have e5 : ∃ y,(out ++ [0]).take (b + 1) = out.take b ++ [y]:=by
    refine ⟨(out ++ [0])[b]'(by simp;omega),?_⟩
    rw [List.take_succ_eq_append_getElem (by simp;omega),List.take_append_of_le_length hb]
  obtain ⟨y,hy⟩:=e5
  have key : ∀ (xs ys : List Int) (y v : Int),(xs ++ (y::ys)).set xs.length v = xs ++ v::ys:=by
    intro xs ys y v
    induction xs with
    | nil=>rfl
    | cons x xs ih=>simp [ih]
  have hl : (out.take b).length = b:=by simp;omega
  rw [hy,List.append_assoc]
  have:=key (out.take b) (out.drop b) y v
  rw [hl] at this
  exact this
def Yu (l out : List Int) : Prop:=out.Pairwise (· < ·)∧∀ x,x∈out↔x∈l
theorem qz7 (a : Int × List Int) (l : List Int) (i : Nat) (hi : i < l.length) (ha : a.1 = i) (hlen : a.2.length≤1000000) (hs : a.2.Pairwise (· < ·)) :
    ∃ b : Int,loop (q7z a l) (a.2.length : Int) = some b∧∃ k : Nat,b = k∧k≤a.2.length∧(∀ j (h : j < a.2.length),k≤j→l[i] < a.2[j])∧(∀ j (h : j < a.2.length),j < k→a.2[j]≤l[i]):=by
  refine qr6 (fun b : Int=>∃ k : Nat,b = k∧k≤a.2.length∧(∀ j (h : j < a.2.length),k≤j→l[i] < a.2[j])) (fun b=>b.toNat) _ ?_ ⟨a.2.length,rfl,q7,fun j h h'=>q7⟩
  rintro b ⟨k,rfl,hk,hgt⟩
  cases k with
  | zero=>
    refine .inr ⟨0,?_,0,rfl,q7,hgt,fun j h h'=>q7⟩
    simp [q7z]
  | succ k=>
    have h0 : decide (((k + 1 : Nat) : Int) > 0) = true:=decide_eq_true q7
    have h1 : idx a.2 (w64 (((k + 1 : Nat) : Int) - 1)) = some (a.2[k]'(q7)):=by rw [Q0 q7];exact J2 q7 q7
    have h2 : idx l a.1 = some l[i]:=by rw [ha];exact K1 hi
    have hkk : k < a.2.length:=by omega
    by_cases hc : a.2[k] > l[i]
    · refine .inl ⟨(k : Int),?_,⟨k,rfl,q7,fun j h h'=>?_⟩,qf⟩
      · simp only [q7z,h0,h1,h2,cond_true,Option.bind_some,hc,decide_true]
        rw [Q0 q7]
        congr 2;omega
      · by_cases e : j = k
        · subst e;exact hc
        · exact hgt j h q7
    · refine .inr ⟨((k + 1 : Nat) : Int),?_,k + 1,rfl,hk,hgt,fun j h h'=>?_⟩
      · simp only [q7z,h0,h1,h2,cond_true,Option.bind_some,hc,decide_false,cond_false]
      · by_cases e : j = k
        · subst e;omega
        · have : a.2[j] < a.2[k]:=List.pairwise_iff_getElem.1 hs j k h hkk q7
          omega
theorem qmp {l out : List Int} {v : Int} {i : Nat} (hi : i < l.length) (hv : l[i] = v) (h : Yu (l.take i) out) (out' : List Int) (hs : out'.Pairwise (· < ·)) (hm : ∀ x,x∈out'↔x∈out∨x = v) : Yu (l.take (i + 1)) out':=by
  refine ⟨hs,fun x=>?_⟩
  rw [hm,h.2,List.take_succ_eq_append_getElem hi]
  simp [hv]
theorem qm2 (l : List Int) (hl : l.length≤1000000) : ∃ t,q51 l = some t∧Yu l t∧t.length≤l.length:=by
  have:=J4 (f:=q7y l) (σ:=List Int) (fun k c=>((k : Int),c)) l.length (fun k c=>Yu (l.take k) c∧c.length≤k) (fun t=>Yu l t∧t.length≤l.length) ?_ ?_ (k0:=0) (c0:=[]) q7 ⟨⟨.nil,qf⟩,qf⟩
  · obtain ⟨b,h1,h2⟩:=this
    have h1 : loop (q7y l) (0,[]) = some b:=h1
    exact ⟨b,by unfold q51;rw [h1];rfl,h2⟩
  · intro k c hk hg
    obtain ⟨hg,hcl⟩:=hg
    have hb : decide ((k : Int) < (l.length : Int)) = true:=decide_eq_true q7
    obtain ⟨b,hb1,j,rfl,hj,hgt,hle⟩:=qz7 ((k : Int),c) l k hk rfl (by simp;omega) hg.1
    simp only at hj hgt hle hb1
    refine .inl ?_
    simp only [q7y,hb,cond_true,hb1,Option.bind_some,K1 hk]
    have hw : w64 ((k : Int) + 1) = ((k + 1 : Nat) : Int):=by rw [Q0 q7];omega
    by_cases heq : 0 < j∧∃ h : j - 1 < c.length,c[j-1] = l[k]
    · obtain ⟨hj0,hlt,he⟩:=heq
      have h0 : decide ((j : Int) > 0) = true:=decide_eq_true q7
      have h1 : idx c (w64 ((j : Int) - 1)) = some (c[j-1]):=by rw [Q0 q7];exact J2 q7 hlt
      refine ⟨c,by simp only [h0,h1,cond_true,Option.bind_some,he,beq_self_eq_true,hw],?_,q7⟩
      refine qmp hk rfl hg c hg.1 fun x=>⟨.inl,?_⟩
      rintro (h | rfl)
      · exact h
      · rw [← he];exact List.getElem_mem hlt
    · have hc : (cond (decide ((j : Int) > 0)) ((idx c (w64 ((j : Int) - 1))).bind fun v281=>some (v281 == l[k])) (some false)) = some false:=by
        by_cases hj0 : 0 < j
        · have hlt : j - 1 < c.length:=by omega
          have h0 : decide ((j : Int) > 0) = true:=decide_eq_true q7
          have h1 : idx c (w64 ((j : Int) - 1)) = some (c[j-1]):=by rw [Q0 q7];exact J2 q7 hlt
          simp only [h0,h1,cond_true,Option.bind_some]
          have : c[j-1]≠l[k]:=fun e=>heq ⟨hj0,hlt,e⟩
          simp [this]
        · have h0 : decide ((j : Int) > 0) = false:=decide_eq_false q7
          simp only [h0,cond_false]
      have hap : app 8 c [0] = some (c ++ [0]):=Za (by simp;omega)
      have hs1 : sub2 (c ++ [0]).length (w64 ((j : Int) + 1)) ((c ++ [0]).length : Int) = some (j + 1,(c ++ [0]).length - (j + 1)):=by
        rw [Q0 q7];unfold sub2
        rw [if_pos ⟨q7,by simp;omega,q7⟩]
        congr 2
      have hs2 : sub2 (c ++ [0]).length (j : Int) ((c ++ [0]).length : Int) = some (j,(c ++ [0]).length - j):=by
        unfold sub2
        rw [if_pos ⟨q7,by simp;omega,q7⟩]
        congr 2
      simp only [hc,Option.bind_some,cond_false,hap,hs1,hs2]
      have hlen : j < (cpyw (c ++ [0]) (j + 1,(c ++ [0]).length - (j + 1)) (((c ++ [0]).drop j).take ((c ++ [0]).length - j))).length:=by
        rw [qpc (by simp;omega)];simp;omega
      rw [K1 hlen]
      simp only [Option.bind_some,Int.toNat_natCast,qqs c l[k] j hj,hw]
      refine ⟨_,rfl,?_,by simp;omega⟩
      refine qmp hk rfl hg _ ?_ fun x=>?_
      · rw [List.pairwise_append]
        refine ⟨hg.1.sublist (List.take_sublist _ _),?_,?_⟩
        · rw [List.pairwise_cons]
          refine ⟨fun y hy=>?_,hg.1.sublist (List.drop_sublist _ _)⟩
          obtain ⟨i,hi,rfl⟩:=List.mem_iff_getElem.1 hy
          rw [List.getElem_drop]
          exact hgt _ _ q7
        · intro y hy z hz
          obtain ⟨i,hi,rfl⟩:=List.mem_iff_getElem.1 hy
          rw [List.getElem_take]
          simp at hi
          have h1:=hle i q7 q7
          have h2 : c[i]≠l[k]∧c[i] < l[k]∨c[i] = l[k]:=by omega
          have h3 : c[i] < l[k]:=by
            rcases h2 with h2 | h2
            · exact h2.2
            · exfalso
              by_cases e : i = j - 1
              · subst e;exact heq ⟨q7,q7,h2⟩
              · have : c[i] < c[j-1]'(q7):=List.pairwise_iff_getElem.1 hg.1 i (j-1) q7 q7 q7
                have:=hle (j-1) q7 q7
                omega
          rcases List.mem_cons.1 hz with rfl | hz
          · exact h3
          · obtain ⟨m,hm,rfl⟩:=List.mem_iff_getElem.1 hz
            rw [List.getElem_drop]
            simp at hm
            have:=hgt (j + m) q7 q7
            omega
      · constructor
        · intro h
          rcases List.mem_append.1 h with h | h
          · exact .inl (List.mem_of_mem_take h)
          · rcases List.mem_cons.1 h with h | h
            · exact .inr h
            · exact .inl (List.mem_of_mem_drop h)
        · rintro (h | rfl)
          · rw [← List.take_append_drop j c] at h
            rcases List.mem_append.1 h with h | h
            · exact List.mem_append_left _ h
            · exact List.mem_append_right _ (List.mem_cons_of_mem _ h)
          · simp
  · intro c hg
    have hb : decide ((l.length : Int) < (l.length : Int)) = false:=decide_eq_false q7
    simp only [q7y,hb,cond_false]
    refine ⟨_,rfl,by simpa using hg.1,hg.2⟩
def ends (s : List qm) : List Int:=s.flatMap fun t=>[t.Lo,t.Hi]
theorem qaz {s : List qm} {x : Int} : x∈ends s↔∃ t∈s,x = t.Lo∨x = t.Hi:=by simp [ends]
theorem qpi {s : List qm} {k : Nat} (h : k < s.length) : ends (s.take (k + 1)) = ends (s.take k) ++ [s[k].Lo,s[k].Hi]:=by
  unfold ends;rw [List.take_succ_eq_append_getElem h,List.flatMap_append];simp
theorem qac (s : List qm) : (ends s).length = 2 * s.length:=by
  induction s with
  | nil=>rfl
  | cons t r ih=>simp only [ends,List.flatMap_cons,List.length_append,List.length_cons,List.length_nil] at ih ⊢;omega
theorem qhk (s : List qm) (c0 : List Int) (hs : s.length≤100000) (hc : c0.length≤200000) : loop (q7u s) (0,c0) = some (c0 ++ ends s):=by
  have:=J4 (f:=q7u s) (σ:=List Int) (fun k c=>((k : Int),c)) s.length (fun k c=>c = c0 ++ ends (s.take k)) (fun t=>t = c0 ++ ends s) ?_ ?_ (k0:=0) (c0:=c0) q7 (by simp [ends])
  · obtain ⟨b,h1,rfl⟩:=this;exact h1
  · rintro k c hk rfl
    have hb : decide ((k : Int) < (s.length : Int)) = true:=decide_eq_true q7
    refine .inl ⟨c0 ++ ends (s.take (k + 1)),?_,rfl⟩
    simp only [q7u,hb,cond_true,K1 hk,Option.bind_some]
    rw [Za (by simp [qac];omega),Q0 q7,qpi hk]
    simp
  · rintro c rfl
    have hb : decide ((s.length : Int) < (s.length : Int)) = false:=decide_eq_false q7
    simp [q7u,hb]
theorem qph (p q : List qm) (hp : p.length≤100000) (hq : q.length≤100000) : ∃ t,qeo p q = some t∧Yu (ends p ++ ends q) t∧t.length≤2 * (p.length + q.length):=by
  have h2 : loop (qkl q) (0,ends p) = some (ends p ++ ends q):=qhk q (ends p) hq (by rw [qac];omega)
  obtain ⟨t,h3,h4,h5⟩:=qm2 (ends p ++ ends q) (by simp [qac];omega)
  refine ⟨t,?_,h4,by simp [qac] at h5;omega⟩
  unfold qeo
  rw [qhk p [] hp qf]
  simp only [List.nil_append,Option.bind_some,h2,h3]
end Go.Sh
namespace Go.Sh
open Go Go.Am
def addS (c : List qm) (a b : Int) : List qm:=match c.getLast? with
  | some t=>if t.Hi = a then c.dropLast ++ [{Lo:=t.Lo,Hi:=b}] else c ++ [{Lo:=a,Hi:=b}]
  | none=>[{Lo:=a,Hi:=b}]
theorem qg6 (a b : Int) : addS [] a b = [{Lo:=a,Hi:=b}]:=rfl
theorem q9x {c : List qm} {t : qm} {b : Int} : addS (c ++ [t]) t.Hi b = c ++ [{Lo:=t.Lo,Hi:=b}]:=by simp [addS]
theorem q9y {c : List qm} {t : qm} {a b : Int} (h : t.Hi≠a) : addS (c ++ [t]) a b = (c ++ [t]) ++ [{Lo:=a,Hi:=b}]:=by simp [addS,h]
theorem qbx {α : Type} (c : List α) : c = []∨∃ d t,c = d ++ [t]:=by
  rcases List.eq_nil_or_concat c with h | ⟨d,t,h⟩
  · exact .inl h
  · exact .inr ⟨d,t,by simpa using h⟩
theorem qd5 {d : List qm} {t : qm} : Can (d ++ [t])↔Can d∧t.Lo < t.Hi∧∀ s∈d,s.Hi < t.Lo:=by
  unfold Can
  constructor
  · rintro ⟨h1,h2⟩
    rw [List.pairwise_append] at h2
    exact ⟨⟨fun s hs=>h1 s (by simp [hs]),h2.1⟩,h1 t qf,fun s hs=>h2.2.2 s hs t qf⟩
  · rintro ⟨⟨h1,h2⟩,h3,h4⟩
    refine ⟨fun s hs=>?_,?_⟩
    · rcases List.mem_append.1 hs with hs | hs
      · exact h1 s hs
      · simp at hs;subst hs;exact h3
    · rw [List.pairwise_append]
      exact ⟨h2,qf,fun s hs u hu=>by simp at hu;subst hu;exact h4 s hs⟩
theorem qdu {d : List qm} {t : qm} {x : Int} : has (d ++ [t]) x↔has d x∨(t.Lo≤x∧x < t.Hi):=by
  rw [qqi,Zj];simp [q1d]
theorem qg7 {c : List qm} {a b : Int} (hc : Can c) (hh : ∀ t∈c,t.Hi≤a) (hab : a < b) :
    Can (addS c a b)∧(∀ x,has (addS c a b) x↔has c x∨(a≤x∧x < b))∧(∀ t∈addS c a b,t.Hi≤b)∧(addS c a b).length≤c.length + 1∧
    (∀ t∈addS c a b,(t.Lo = a∨∃ u∈c,t.Lo = u.Lo)∧(t.Hi = b∨∃ u∈c,t.Hi = u.Hi)):=by
  rcases qbx c with rfl | ⟨d,t,rfl⟩
  · rw [qg6]
    refine ⟨⟨by simpa using hab,qf⟩,fun x=>?_,qf,qf,qf⟩
    rw [Zj];simp [q1d]
  · have h1:=qd5.1 hc
    have h2 : t.Hi≤a:=hh t qf
    by_cases e : t.Hi = a
    · subst e
      rw [q9x]
      refine ⟨qd5.2 ⟨h1.1,by simp;omega,h1.2.2⟩,fun x=>?_,fun s hs=>?_,qf,fun s hs=>?_⟩
      · rw [qdu,qdu];by_cases hd : has d x <;> simp only [hd,true_or,false_or] <;> omega
      · rcases List.mem_append.1 hs with hs | hs
        · have:=hh s (by simp [hs]);omega
        · simp at hs;subst hs;simp
      · rcases List.mem_append.1 hs with hs | hs
        · exact ⟨.inr ⟨s,by simp [hs],rfl⟩,.inr ⟨s,by simp [hs],rfl⟩⟩
        · simp at hs;subst hs;exact ⟨.inr ⟨t,qf,rfl⟩,.inl rfl⟩
    · rw [q9y e]
      refine ⟨qd5.2 ⟨hc,hab,fun s hs=>?_⟩,fun x=>?_,fun s hs=>?_,qf,fun s hs=>?_⟩
      · rcases List.mem_append.1 hs with hs | hs
        · have:=h1.2.2 s hs;simp only;omega
        · simp at hs;subst hs;simp only;omega
      · rw [qdu]
      · rcases List.mem_append.1 hs with hs | hs
        · have:=hh s hs;omega
        · simp at hs;subst hs;simp
      · rcases List.mem_append.1 hs with hs | hs
        · exact ⟨.inr ⟨s,hs,rfl⟩,.inr ⟨s,hs,rfl⟩⟩
        · simp at hs;subst hs;exact ⟨.inl rfl,.inl rfl⟩
theorem qlf {d : List qm} {t u : qm} : (d ++ [t]).set d.length u = d ++ [u]:=by
  induction d with
  | nil=>rfl
  | cons x d ih=>simp [ih]
structure qcm (cuts : List Int) (ins : List Bool) (k : Nat) (c : List qm) : Prop where
  can : Can c
  pts : ∀ x,has c x↔∃ i,∃ (h : i + 1 < cuts.length) (h' : i < ins.length),i < k∧ins[i] = true∧cuts[i]≤x∧x < cuts[i + 1]
  hi : ∀ t∈c,∃ (h : k < cuts.length),t.Hi≤cuts[k]
  len : c.length≤k
  ends : ∀ t∈c,t.Lo∈cuts∧t.Hi∈cuts
theorem qo4 (cuts : List Int) (ins : List Bool) (hs : cuts.Pairwise (· < ·)) (hl : cuts.length≤1000000) (hi : cuts.length≤ins.length + 1) :
    ∃ c,qem cuts ins = some c∧qcm cuts ins (cuts.length - 1) c:=by
  have:=J4 (f:=q7t cuts ins) (σ:=List qm) (fun k c=>((k : Int),c)) (cuts.length - 1) (fun k c=>qcm cuts ins k c) (fun c=>qcm cuts ins (cuts.length - 1) c) ?_ ?_ (k0:=0) (c0:=[]) q7
    ⟨⟨qf,qf⟩,fun x=>⟨fun h=>absurd h (q1d x),fun ⟨i,_,_,h,_⟩=>q7⟩,qf,qf,qf⟩
  · obtain ⟨b,h1,h2⟩:=this
    have h1 : loop (q7t cuts ins) (0,[]) = some b:=h1
    exact ⟨b,by unfold qem;rw [h1];rfl,h2⟩
  · intro k c hk hc
    have hw : w64 ((k : Int) + 1) = ((k + 1 : Nat) : Int):=by rw [Q0 q7];omega
    have hk1 : k + 1 < cuts.length:=by omega
    have hk0 : k < cuts.length:=by omega
    have hki : k < ins.length:=by omega
    have hb : decide (((k + 1 : Nat) : Int) < (cuts.length : Int)) = true:=decide_eq_true q7
    refine .inl ?_
    simp only [q7t,hw,hb,cond_true,K1 hki,K1 hk1,K1 hk0,Option.bind_some]
    have hlt : cuts[k] < cuts[k+1]:=List.pairwise_iff_getElem.1 hs k (k+1) hk0 hk1 q7
    have hhi : ∀ t∈c,t.Hi≤cuts[k]:=fun t ht=>(hc.hi t ht).2
    cases hin : ins[k] with
    | false=>
      refine ⟨c,qf,hc.can,fun x=>?_,fun t ht=>⟨hk1,by have:=hhi t ht;omega⟩,by have:=hc.len;omega,hc.ends⟩
      rw [hc.pts]
      constructor
      · rintro ⟨i,h1,h2,h3,h4⟩;exact ⟨i,h1,h2,q7,h4⟩
      · rintro ⟨i,h1,h2,h3,h4⟩
        by_cases e : i = k
        · subst e;rw [hin] at h4;simp at h4
        · exact ⟨i,h1,h2,q7,h4⟩
    | true=>
      have hstep : (cond (!true) (some c) ((cond (decide ((c.length : Int) > 0)) ((idx c (w64 ((c.length : Int) - 1))).bind fun v125=>some (v125.Hi == cuts[k])) (some false)).bind fun c111=>cond c111 ((idx c (w64 ((c.length : Int) - 1))).bind fun v131=>some (c.set (w64 ((c.length : Int) - 1)).toNat ({Lo:=v131.Lo,Hi:=cuts[k+1]} : qm))) ((app 16 c [({Lo:=cuts[k],Hi:=cuts[k+1]} : qm)]).bind fun z137=>some z137))) = some (addS c cuts[k] cuts[k+1]):=by
        have hap : ∀ y,app 16 c [y] = some (c ++ [y]):=fun y=>Za (by have:=hc.len;simp;omega)
        rcases qbx c with rfl | ⟨d,t,rfl⟩
        · simp [hap,addS]
        · have h0 : decide ((((d ++ [t]).length : Nat) : Int) > 0) = true:=decide_eq_true (by rw [List.length_append,List.length_singleton];omega)
          have hl':=hc.len
          have hlen : (((d ++ [t]).length : Nat) : Int) = d.length + 1:=by simp
          have hl2 : d.length + 1≤k:=by simpa using hl'
          have h1 : w64 (((d ++ [t]).length : Int) - 1) = (d.length : Int):=by rw [hlen,Q0 q7];omega
          have h2 : idx (d ++ [t]) (d.length : Int) = some t:=by rw [K1 qf];simp
          simp only [Bool.not_true,cond_false,h0,cond_true,h1,h2,Option.bind_some,Int.toNat_natCast,qlf,hap]
          by_cases e : t.Hi = cuts[k]
          · simp [e,← q9x]
          · have e' : (t.Hi == cuts[k]) = false:=by simpa using e
            simp only [e',cond_false,q9y e]
      rw [hstep]
      obtain ⟨a1,a2,a3,a4,a5⟩:=qg7 hc.can hhi hlt
      refine ⟨_,rfl,a1,fun x=>?_,fun t ht=>⟨hk1,a3 t ht⟩,by have:=hc.len;omega,fun t ht=>?_⟩
      · rw [a2,hc.pts]
        constructor
        · rintro (⟨i,h1,h2,h3,h4⟩ | h)
          · exact ⟨i,h1,h2,q7,h4⟩
          · exact ⟨k,hk1,hki,q7,hin,h⟩
        · rintro ⟨i,h1,h2,h3,h4⟩
          by_cases e : i = k
          · subst e;exact .inr h4.2
          · exact .inl ⟨i,h1,h2,q7,h4⟩
      · obtain ⟨b1,b2⟩:=a5 t ht
        constructor
        · rcases b1 with b1 | ⟨u,hu,b1⟩
          · rw [b1];exact List.getElem_mem hk0
          · rw [b1];exact (hc.ends u hu).1
        · rcases b2 with b2 | ⟨u,hu,b2⟩
          · rw [b2];exact List.getElem_mem hk1
          · rw [b2];exact (hc.ends u hu).2
  · intro c hc
    refine ⟨c,?_,hc⟩
    have hw : decide (w64 (((cuts.length - 1 : Nat) : Int) + 1) < (cuts.length : Int)) = false:=by
      rw [Q0 q7];exact decide_eq_false q7
    simp only [q7t,hw,cond_false]
def Ky (kind : Int) (a b : Prop) : Prop:=(kind = 1∧a∧b)∨(kind = 2∧(a∨b))∨(kind≠1∧kind≠2∧a∧¬ b)
open Classical in
theorem qql (kind : Int) (a b : Prop) : qep kind (decide a) (decide b) = some (decide (Ky kind a b)):=by
  unfold qep Ky
  by_cases h1 : kind = 1
  · subst h1;by_cases ha : a <;> by_cases hb : b <;> simp [ha,hb]
  · by_cases h2 : kind = 2
    · subst h2;by_cases ha : a <;> by_cases hb : b <;> simp [ha,hb]
    · have e1 : (kind == 1) = false:=by simpa using h1
      have e2 : (kind == 2) = false:=by simpa using h2
      by_cases ha : a <;> by_cases hb : b <;> simp [ha,hb,h1,h2,e1,e2]
theorem qbl {cuts : List Int} (hs : cuts.Pairwise (· < ·)) {p : List qm} (hm : ∀ x∈ends p,x∈cuts) {i : Nat} (h : i + 1 < cuts.length) {x : Int} (h1 : cuts[i]≤x) (h2 : x < cuts[i + 1]) : has p x↔has p cuts[i]:=by
  have mono : ∀ a b (ha : a < cuts.length) (hb : b < cuts.length),cuts[a] < cuts[b]→a < b:=by
    intro a b ha hb hlt
    refine Nat.not_le.1 fun hle=>?_
    by_cases e : a = b
    · subst e;omega
    · have:=List.pairwise_iff_getElem.1 hs b a hb ha q7;omega
  have mono' : ∀ a b (ha : a < cuts.length) (hb : b < cuts.length),a≤b→cuts[a]≤cuts[b]:=by
    intro a b ha hb hle
    by_cases e : a = b
    · subst e;omega
    · have:=List.pairwise_iff_getElem.1 hs a b ha hb q7;omega
  constructor
  · rintro ⟨t,ht,k1,k2⟩
    refine ⟨t,ht,?_,q7⟩
    obtain ⟨j,hj,e⟩:=List.mem_iff_getElem.1 (hm t.Lo (qaz.2 ⟨t,ht,.inl rfl⟩))
    have:=mono j (i + 1) hj h q7
    have:=mono' j i hj q7 q7
    omega
  · rintro ⟨t,ht,k1,k2⟩
    refine ⟨t,ht,q7,?_⟩
    obtain ⟨j,hj,e⟩:=List.mem_iff_getElem.1 (hm t.Hi (qaz.2 ⟨t,ht,.inr rfl⟩))
    have:=mono i j q7 hj q7
    have:=mono' (i + 1) j h hj q7
    omega
theorem qix {cuts : List Int} (hs : cuts.Pairwise (· < ·)) {p : List qm} (hm : ∀ x∈ends p,x∈cuts) {x : Int} (h : has p x) : ∃ i,∃ (h : i + 1 < cuts.length),cuts[i]≤x∧x < cuts[i + 1]:=by
  obtain ⟨t,ht,k1,k2⟩:=h
  obtain ⟨a,ha,ea⟩:=List.mem_iff_getElem.1 (hm t.Lo (qaz.2 ⟨t,ht,.inl rfl⟩))
  obtain ⟨b,hb,eb⟩:=List.mem_iff_getElem.1 (hm t.Hi (qaz.2 ⟨t,ht,.inr rfl⟩))
  have key : ∀ n j (hj : j < cuts.length),j + n = b→cuts[j]≤x→∃ i,∃ (h : i + 1 < cuts.length),cuts[i]≤x∧x < cuts[i + 1]:=by
    intro n
    induction n with
    | zero=>intro j hj e h1;simp at e;subst e;omega
    | succ n ih=>
      intro j hj e h1
      by_cases h2 : x < cuts[j+1]'(q7)
      · exact ⟨j,q7,h1,h2⟩
      · exact ih (j + 1) q7 q7 q7
  have hab : a≤b:=by
    refine Nat.not_lt.1 fun hlt=>?_
    have:=List.pairwise_iff_getElem.1 hs b a hb ha hlt
    omega
  exact key (b - a) a ha q7 q7
structure qcq (kind : Int) (p q out : List qm) : Prop where
  can : Can out
  pts : ∀ x,has out x↔Ky kind (has p x) (has q x)
  ends : ∀ t∈out,(t.Lo∈ends p∨t.Lo∈ends q)∧(t.Hi∈ends p∨t.Hi∈ends q)
  len : out.length≤2 * (p.length + q.length)
open Classical in
theorem qqx (cuts : List Int) (p q : List qm) (kind : Int) (hc : cuts.length≤1000000) (hp : p.length≤100000) (hq : q.length≤100000) :
    loop (q7w cuts p q kind) (0,[]) = some (cuts.map fun x=>decide (Ky kind (has p x) (has q x))):=by
  have:=J4 (f:=q7w cuts p q kind) (σ:=List Bool) (fun k c=>((k : Int),c)) cuts.length (fun k c=>c = (cuts.take k).map fun x=>decide (Ky kind (has p x) (has q x))) (fun t=>t = cuts.map fun x=>decide (Ky kind (has p x) (has q x))) ?_ ?_ (k0:=0) (c0:=[]) q7 qf
  · obtain ⟨b,h1,rfl⟩:=this;exact h1
  · rintro k c hk rfl
    have hb : decide ((k : Int) < (cuts.length : Int)) = true:=decide_eq_true q7
    refine .inl ⟨_,?_,rfl⟩
    simp only [q7w,hb,cond_true,K1 hk,Option.bind_some,qkm p _ (by omega : p.length≤1000000),qkm q _ (by omega : q.length≤1000000),qql]
    rw [Za (by simp;omega),Q0 q7,List.take_succ_eq_append_getElem hk,List.map_append]
    rfl
  · rintro c rfl
    have hb : decide ((cuts.length : Int) < (cuts.length : Int)) = false:=decide_eq_false q7
    simp [q7w,hb]
open Classical in
theorem qqy (kind : Int) (p q : List qm) (hp : p.length≤100000) (hq : q.length≤100000) : ∃ out,qba kind p q = some out∧qcq kind p q out:=by
  obtain ⟨cuts,h1,⟨hs,hm⟩,hlen⟩:=qph p q hp hq
  obtain ⟨c,h2,h3⟩:=qo4 cuts (cuts.map fun x=>decide (Ky kind (has p x) (has q x))) hs q7 (by rw [List.length_map];omega)
  refine ⟨c,?_,h3.can,fun x=>?_,fun t ht=>?_,by have:=h3.len;omega⟩
  · unfold qba
    rw [h1]
    simp only [Option.bind_some,qqx cuts p q kind q7 hp hq,h2]
  · have mp : ∀ x∈ends p,x∈cuts:=fun x hx=>(hm x).2 (List.mem_append_left _ hx)
    have mq : ∀ x∈ends q,x∈cuts:=fun x hx=>(hm x).2 (List.mem_append_right _ hx)
    rw [h3.pts]
    constructor
    · rintro ⟨i,k1,k2,_,k3,k4,k5⟩
      simp only [List.getElem_map,decide_eq_true_eq] at k3
      rw [qbl hs mp k1 k4 k5,qbl hs mq k1 k4 k5];exact k3
    · intro h
      have hor : has p x∨has q x:=by
        rcases h with ⟨_,h,_⟩ | ⟨_,h⟩ | ⟨_,_,h,_⟩
        · exact .inl h
        · exact h
        · exact .inl h
      obtain ⟨i,k1,k4,k5⟩ : ∃ i,∃ (h : i + 1 < cuts.length),cuts[i]≤x∧x < cuts[i + 1]:=hor.elim (qix hs mp) (qix hs mq)
      refine ⟨i,k1,by rw [List.length_map];omega,q7,?_,k4,k5⟩
      simp only [List.getElem_map,decide_eq_true_eq]
      rw [← qbl hs mp k1 k4 k5,← qbl hs mq k1 k4 k5];exact h
  · obtain ⟨a,b⟩:=h3.ends t ht
    exact ⟨List.mem_append.1 ((hm _).1 a),List.mem_append.1 ((hm _).1 b)⟩
end Go.Sh
namespace Go.Sh
open Go Go.Am
def q4m : ByteArray:=⟨#[0,1,2,2,3,3,3,3,4,4,4,4,4,4,4,4,5,5,5,5,5,5,5,5,5,5,5,5,5,5,5,5,6,6,6,6,6,6,6,6,6,6,6,6,6,6,6,6,6,6,6,6,6,6,6,6,6,6,6,6,6,6,6,6,7,7,7,7,7,7,7,7,7,7,7,7,7,7,7,7,7,7,7,7,7,7,7,7,7,7,7,7,7,7,7,7,7,7,7,7,7,7,7,7,7,7,7,7,7,7,7,7,7,7,7,7,7,7,7,7,7,7,7,7,7,7,7,7,8,8,8,8,8,8,8,8,8,8,8,8,8,8,8,8,8,8,8,8,8,8,8,8,8,8,8,8,8,8,8,8,8,8,8,8,8,8,8,8,8,8,8,8,8,8,8,8,8,8,8,8,8,8,8,8,8,8,8,8,8,8,8,8,8,8,8,8,8,8,8,8,8,8,8,8,8,8,8,8,8,8,8,8,8,8,8,8,8,8,8,8,8,8,8,8,8,8,8,8,8,8,8,8,8,8,8,8,8,8,8,8,8,8,8,8,8,8,8,8,8,8,8,8,8,8,8,8]⟩
noncomputable def q3b (p0 : Int) : Option Int:=
  (cond (decide (p0 ≥ 4294967296)) (some (Int.fdiv p0 (2 ^ 32),32)) (some (p0,0))).bind fun b3=>(cond (decide (b3.1 ≥ 65536)) (some (Int.fdiv b3.1 (2 ^ 16),w64 (b3.2 + 16))) (some (b3.1,b3.2))).bind fun b6=>(cond (decide (b6.1 ≥ 256)) (some (Int.fdiv b6.1 (2 ^ 8),w64 (b6.2 + 8))) (some (b6.1,b6.2))).bind fun b9=>(q45 q4m (IntKind.wrap .u8 b9.1)).bind fun v10=>some (w64 (b9.2 + (w64 v10)))
noncomputable def q13 (p0 : Int) : Option Int:=
  (q3b p0).bind fun r1=>some r1
noncomputable def Jz {T : Type} (p1 : Int) (q1 : T→T→Option Int) (a459 : Int × List T) : Option ((Int × List T) ⊕ (List T)):=
  (cond (decide (a459.1 > p1)) ((idx a459.2 a459.1).bind fun v484=>(idx a459.2 (w64 (a459.1 - 1))).bind fun v486=>(q1 v484 v486).bind fun r488=>some (decide (r488 < 0))) (some false)).bind fun c469=>cond c469 ((idx a459.2 (w64 (a459.1 - 1))).bind fun v498=>(idx a459.2 a459.1).bind fun v500=>(idx a459.2 a459.1).bind fun v502=>(idx (a459.2.set a459.1.toNat v498) (w64 (a459.1 - 1))).bind fun v504=>some (.inl (w64 (a459.1 - 1),(a459.2.set a459.1.toNat v498).set (w64 (a459.1 - 1)).toNat v500))) (some (.inr a459.2))
noncomputable def q17 {T : Type} (p2 : Int) (p1 : Int) (q1 : T→T→Option Int) (a278 : Int × List T) : Option ((Int × List T) ⊕ (List T)):=
  cond (decide (a278.1 < p2)) (((loop (Jz p1 q1) (a278.1,a278.2)).bind fun x0=>some x0).bind fun b370=>some (.inl (w64 (a278.1 + 1),b370))) (some (.inr a278.2))
noncomputable def q26 {T : Type} (q1 : T→T→Option Int) (p0 : List T) (p1 : Int) (p2 : Int) : Option (List T):=
  (loop (q17 p2 p1 q1) (w64 (p1 + 1),p0)).bind fun x0=>some x0
noncomputable def U2 {T : Type} (p2 : Int) (p3 : Int) (q1 : T→T→Option Int) (a197 : Int × List T) : Option ((Int × List T) ⊕ (List T)):=
  cond (decide ((w64 ((w64 (2 * a197.1)) + 1)) ≥ p2)) (some (.inr a197.2)) ((cond (decide ((w64 ((w64 ((w64 (2 * a197.1)) + 1)) + 1)) < p2)) ((idx a197.2 (w64 (p3 + (w64 ((w64 (2 * a197.1)) + 1))))).bind fun v226=>(idx a197.2 (w64 ((w64 (p3 + (w64 ((w64 (2 * a197.1)) + 1)))) + 1))).bind fun v228=>(q1 v226 v228).bind fun r230=>some (decide (r230 < 0))) (some false)).bind fun c207=>(cond c207 (some (w64 ((w64 ((w64 (2 * a197.1)) + 1)) + 1))) (some (w64 ((w64 (2 * a197.1)) + 1)))).bind fun b234=>(idx a197.2 (w64 (p3 + a197.1))).bind fun v235=>(idx a197.2 (w64 (p3 + b234))).bind fun v237=>(q1 v235 v237).bind fun r239=>cond (!(decide (r239 < 0))) (some (.inr a197.2)) ((idx a197.2 (w64 (p3 + b234))).bind fun v241=>(idx a197.2 (w64 (p3 + a197.1))).bind fun v243=>(idx a197.2 (w64 (p3 + a197.1))).bind fun v245=>(idx (a197.2.set (w64 (p3 + a197.1)).toNat v241) (w64 (p3 + b234))).bind fun v247=>some (.inl (b234,(a197.2.set (w64 (p3 + a197.1)).toNat v241).set (w64 (p3 + b234)).toNat v243))))
noncomputable def Uj {T : Type} (q1 : T→T→Option Int) (p0 : List T) (p1 : Int) (p2 : Int) (p3 : Int) : Option (List T):=
  (loop (U2 p2 p3 q1) (p1,p0)).bind fun x0=>some x0
noncomputable def q15 {T : Type} (q1 : T→T→Option Int) (p2 : Int) (p1 : Int) (a123 : Int × List T) : Option ((Int × List T) ⊕ (List T)):=
  cond (decide (a123.1 ≥ 0)) ((Uj q1 a123.2 a123.1 (w64 (p2 - p1)) p1).bind fun e132=>(Qr e132.length a123.2.length).bind fun u134=>some (.inl (w64 (a123.1 - 1),e132))) (some (.inr a123.2))
noncomputable def q16 {T : Type} (p1 : Int) (q1 : T→T→Option Int) (a191 : Int × List T) : Option ((Int × List T) ⊕ (List T)):=
  cond (decide (a191.1 ≥ 0)) ((idx a191.2 (w64 (p1 + a191.1))).bind fun v208=>(idx a191.2 p1).bind fun v210=>(idx a191.2 p1).bind fun v212=>(idx (a191.2.set p1.toNat v208) (w64 (p1 + a191.1))).bind fun v214=>(Uj q1 ((a191.2.set p1.toNat v208).set (w64 (p1 + a191.1)).toNat v210) 0 a191.1 p1).bind fun e216=>(Qr e216.length ((a191.2.set p1.toNat v208).set (w64 (p1 + a191.1)).toNat v210).length).bind fun u218=>some (.inl (w64 (a191.1 - 1),e216))) (some (.inr a191.2))
noncomputable def q25 {T : Type} (q1 : T→T→Option Int) (p0 : List T) (p1 : Int) (p2 : Int) : Option (List T):=
  (loop (q15 q1 p2 p1) (w64 (Int.tdiv (w64 ((w64 (p2 - p1)) - 1)) 2),p0)).bind fun b126=>(loop (q16 p1 q1) (w64 ((w64 (p2 - p1)) - 1),b126)).bind fun x0=>some x0
noncomputable def q27 (p0 : Int) : Option Int:=
  (q13 (IntKind.wrap .u64 p0)).bind fun r1=>(shlK .u64 1 r1).bind fun q3=>some q3
noncomputable def q2b (p0 : Int) : Option Int:=
  some (xorI .u64 (xorI .u64 (xorI .u64 p0 (IntKind.wrap .u64 (p0 * (2 ^ 13)))) (Int.fdiv (xorI .u64 p0 (IntKind.wrap .u64 (p0 * (2 ^ 13)))) (2 ^ 7))) (IntKind.wrap .u64 ((xorI .u64 (xorI .u64 p0 (IntKind.wrap .u64 (p0 * (2 ^ 13)))) (Int.fdiv (xorI .u64 p0 (IntKind.wrap .u64 (p0 * (2 ^ 13)))) (2 ^ 7))) * (2 ^ 17))))
noncomputable def Ua {T : Type} (p1 : Int) (p2 : Int) (r101 : Int) (a153 : Int × List T × Int) : Option ((Int × List T × Int) ⊕ (List T)):=
  cond (decide (a153.1≤(w64 ((w64 (p1 + (w64 ((w64 (Int.tdiv (w64 (p2 - p1)) 4)) * 2)))) + 1)))) ((q2b a153.2.2).bind fun e168=>(cond (decide ((w64 (andI .u64 e168 (IntKind.wrap .u64 (r101 - 1)))) ≥ (w64 (p2 - p1)))) (some (w64 ((w64 (andI .u64 e168 (IntKind.wrap .u64 (r101 - 1)))) - (w64 (p2 - p1))))) (some (w64 (andI .u64 e168 (IntKind.wrap .u64 (r101 - 1)))))).bind fun b172=>(idx a153.2.1 (w64 (p1 + b172))).bind fun v173=>(idx a153.2.1 a153.1).bind fun v175=>(idx a153.2.1 a153.1).bind fun v177=>(idx (a153.2.1.set a153.1.toNat v173) (w64 (p1 + b172))).bind fun v179=>some (.inl (w64 (a153.1 + 1),(a153.2.1.set a153.1.toNat v173).set (w64 (p1 + b172)).toNat v175,e168))) (some (.inr a153.2.1))
noncomputable def q14 {T : Type} (q1 : T→T→Option Int) (p0 : List T) (p1 : Int) (p2 : Int) : Option (List T):=
  cond (decide ((w64 (p2 - p1)) ≥ 8)) ((q27 (w64 (p2 - p1))).bind fun r101=>(loop (Ua p1 p2 r101) (w64 ((w64 (p1 + (w64 ((w64 (Int.tdiv (w64 (p2 - p1)) 4)) * 2)))) - 1),p0,IntKind.wrap .u64 (w64 (p2 - p1)))).bind fun x0=>some x0) (some p0)
noncomputable def Uc {T : Type} (q1 : T→T→Option Int) (p0 : List T) (p1 : Int) (p2 : Int) (p3 : Int) : Option (Int × Int × Int):=
  (idx p0 p2).bind fun v101=>(idx p0 p1).bind fun v103=>(q1 v101 v103).bind fun r105=>cond (decide (r105 < 0)) (some (p2,p1,w64 (p3 + 1))) (some (p1,p2,p3))
noncomputable def Ub {T : Type} (q1 : T→T→Option Int) (p0 : List T) (p1 : Int) (p2 : Int) (p3 : Int) (p4 : Int) : Option (Int × Int):=
  (Uc q1 p0 p1 p2 p4).bind fun e101=>(Uc q1 p0 e101.2.1 p3 e101.2.2).bind fun e103=>(Uc q1 p0 e101.1 e103.1 e103.2.2).bind fun e105=>some (e105.2.1,e105.2.2)
noncomputable def U0 {T : Type} (q1 : T→T→Option Int) (p0 : List T) (p1 : Int) (p2 : Int) : Option (Int × Int):=
  (Ub q1 p0 (w64 (p1 - 1)) p1 (w64 (p1 + 1)) p2).bind fun e101=>some (e101.1,e101.2)
noncomputable def q24 {T : Type} (p0 : List T) (p1 : Int) (p2 : Int) (p3 : T→T→Option Int) : Option (Int × Int):=
  (cond (decide ((w64 (p2 - p1)) ≥ 8)) ((cond (decide ((w64 (p2 - p1)) ≥ 50)) ((U0 p3 p0 (w64 (p1 + (w64 ((w64 (Int.tdiv (w64 (p2 - p1)) 4)) * 1)))) 0).bind fun e25=>(U0 p3 p0 (w64 (p1 + (w64 ((w64 (Int.tdiv (w64 (p2 - p1)) 4)) * 2)))) e25.2).bind fun e27=>(U0 p3 p0 (w64 (p1 + (w64 ((w64 (Int.tdiv (w64 (p2 - p1)) 4)) * 3)))) e27.2).bind fun e29=>some (e25.1,e27.1,e29.1,e29.2)) (some (w64 (p1 + (w64 ((w64 (Int.tdiv (w64 (p2 - p1)) 4)) * 1))),w64 (p1 + (w64 ((w64 (Int.tdiv (w64 (p2 - p1)) 4)) * 2))),w64 (p1 + (w64 ((w64 (Int.tdiv (w64 (p2 - p1)) 4)) * 3))),0))).bind fun b24=>(Ub p3 p0 b24.1 b24.2.1 b24.2.2.1 b24.2.2.2).bind fun e31=>some (e31.1,e31.2)) (some (w64 (p1 + (w64 ((w64 (Int.tdiv (w64 (p2 - p1)) 4)) * 2))),0))).bind fun b15=>cond (b15.2 == 0) (some (b15.1,1)) (cond (b15.2 == 12) (some (b15.1,2)) (some (b15.1,0)))
noncomputable def q2a {T : Type} (a119 : Int × Int × List T) : Option ((Int × Int × List T) ⊕ (List T)):=
  cond (decide (a119.1 < a119.2.1)) ((idx a119.2.2 a119.2.1).bind fun v123=>(idx a119.2.2 a119.1).bind fun v125=>(idx a119.2.2 a119.1).bind fun v127=>(idx (a119.2.2.set a119.1.toNat v123) a119.2.1).bind fun v129=>some (.inl (w64 (a119.1 + 1),w64 (a119.2.1 - 1),(a119.2.2.set a119.1.toNat v123).set a119.2.1.toNat v125))) (some (.inr a119.2.2))
noncomputable def q1c {T : Type} (q1 : T→T→Option Int) (p0 : List T) (p1 : Int) (p2 : Int) : Option (List T):=
  (loop q2a (p1,w64 (p2 - 1),p0)).bind fun x0=>some x0
noncomputable def Ud {T : Type} (p2 : Int) (a438 : Int × Int × List T) (q1 : T→T→Option Int) (a681 : Int) : Option ((Int) ⊕ (Int)):=
  (cond (decide (a681 < p2)) ((idx a438.2.2 a681).bind fun v707=>(idx a438.2.2 (w64 (a681 - 1))).bind fun v709=>(q1 v707 v709).bind fun r711=>some (!(decide (r711 < 0)))) (some false)).bind fun c691=>cond c691 (some (.inl (w64 (a681 + 1)))) (some (.inr a681))
noncomputable def Ue {T : Type} (q1 : T→T→Option Int) (a838 : Int × List T) : Option ((Int × List T) ⊕ (List T)):=
  cond (decide (a838.1 ≥ 1)) ((idx a838.2 a838.1).bind fun v856=>(idx a838.2 (w64 (a838.1 - 1))).bind fun v858=>(q1 v856 v858).bind fun r860=>cond (!(decide (r860 < 0))) (some (.inr a838.2)) ((idx a838.2 (w64 (a838.1 - 1))).bind fun v862=>(idx a838.2 a838.1).bind fun v864=>(idx a838.2 a838.1).bind fun v866=>(idx (a838.2.set a838.1.toNat v862) (w64 (a838.1 - 1))).bind fun v868=>some (.inl (w64 (a838.1 - 1),(a838.2.set a838.1.toNat v862).set (w64 (a838.1 - 1)).toNat v864)))) (some (.inr a838.2))
noncomputable def Uf {T : Type} (p2 : Int) (q1 : T→T→Option Int) (b684 : Int) (a928 : Int × List T) : Option ((Int × List T) ⊕ (Int × List T)):=
  cond (decide (a928.1 < p2)) ((idx a928.2 a928.1).bind fun v946=>(idx a928.2 (w64 (a928.1 - 1))).bind fun v948=>(q1 v946 v948).bind fun r950=>cond (!(decide (r950 < 0))) (some (.inr (b684,a928.2))) ((idx a928.2 (w64 (a928.1 - 1))).bind fun v952=>(idx a928.2 a928.1).bind fun v954=>(idx a928.2 a928.1).bind fun v956=>(idx (a928.2.set a928.1.toNat v952) (w64 (a928.1 - 1))).bind fun v958=>some (.inl (w64 (a928.1 + 1),(a928.2.set a928.1.toNat v952).set (w64 (a928.1 - 1)).toNat v954)))) (some (.inr (b684,a928.2)))
noncomputable def Zo {T : Type} (p2 : Int) (q1 : T→T→Option Int) (p1 : Int) (a438 : Int × Int × List T) : Option ((Int × Int × List T) ⊕ ((List T) ⊕ (Bool × List T))):=
  cond (decide (a438.2.1 < 5)) (((loop (Ud p2 a438 q1) a438.1).bind fun b684=>cond (b684 == p2) (some (.inr (true,a438.2.2))) (cond (decide ((w64 (p2 - p1)) < 50)) (some (.inr (false,a438.2.2))) ((idx a438.2.2 (w64 (b684 - 1))).bind fun v713=>(idx a438.2.2 b684).bind fun v715=>(idx a438.2.2 b684).bind fun v717=>(idx (a438.2.2.set b684.toNat v713) (w64 (b684 - 1))).bind fun v719=>(cond (decide ((w64 (b684 - p1)) ≥ 2)) ((loop (Ue q1) (w64 (b684 - 1),(a438.2.2.set b684.toNat v713).set (w64 (b684 - 1)).toNat v715)).bind fun x0=>some x0) (some ((a438.2.2.set b684.toNat v713).set (w64 (b684 - 1)).toNat v715))).bind fun b779=>cond (decide ((w64 (p2 - b684)) ≥ 2)) ((loop (Uf p2 q1 b684) (w64 (b684 + 1),b779)).bind fun x0=>some (.inl x0)) (some (.inl (b684,b779))))) : Option ((Int × List T) ⊕ (Bool × List T))).bind fun m621=>(match m621 with | .inl b622=>some (.inl (b622.1,w64 (a438.2.1 + 1),b622.2)) | .inr x1=>some (.inr (.inr x1)))) (some (.inr (.inl a438.2.2)))
noncomputable def U1 {T : Type} (q1 : T→T→Option Int) (p0 : List T) (p1 : Int) (p2 : Int) : Option (Bool × List T):=
  (loop (Zo p2 q1 p1) (w64 (p1 + 1),0,p0) : Option ((List T) ⊕ (Bool × List T))).bind fun m439=>(match m439 with | .inl b441=>some (false,b441) | .inr x1=>some x1)
noncomputable def Ug {T : Type} (a318 : Int × Int × List T) (p1 : Int) (q1 : T→T→Option Int) (a378 : Int) : Option ((Int) ⊕ (Int)):=
  (cond (decide (a378≤a318.2.1)) ((idx a318.2.2 p1).bind fun v403=>(idx a318.2.2 a378).bind fun v405=>(q1 v403 v405).bind fun r407=>some (!(decide (r407 < 0)))) (some false)).bind fun c388=>cond c388 (some (.inl (w64 (a378 + 1)))) (some (.inr a378))
noncomputable def Uh {T : Type} (b381 : Int) (a318 : Int × Int × List T) (p1 : Int) (q1 : T→T→Option Int) (a463 : Int) : Option ((Int) ⊕ (Int)):=
  (cond (decide (b381≤a463)) ((idx a318.2.2 p1).bind fun v487=>(idx a318.2.2 a463).bind fun v489=>(q1 v487 v489).bind fun r491=>some (decide (r491 < 0))) (some false)).bind fun c473=>cond c473 (some (.inl (w64 (a463 - 1)))) (some (.inr a463))
noncomputable def q1a {T : Type} (p1 : Int) (q1 : T→T→Option Int) (a318 : Int × Int × List T) : Option ((Int × Int × List T) ⊕ (Int × List T)):=
  (loop (Ug a318 p1 q1) a318.1).bind fun b381=>(loop (Uh b381 a318 p1 q1) a318.2.1).bind fun b466=>cond (decide (b381 > b466)) (some (.inr (b381,a318.2.2))) ((idx a318.2.2 b466).bind fun v493=>(idx a318.2.2 b381).bind fun v495=>(idx a318.2.2 b381).bind fun v497=>(idx (a318.2.2.set b381.toNat v493) b466).bind fun v499=>some (.inl (w64 (b381 + 1),w64 (b466 - 1),(a318.2.2.set b381.toNat v493).set b466.toNat v495)))
noncomputable def q19 {T : Type} (q1 : T→T→Option Int) (p0 : List T) (p1 : Int) (p2 : Int) (p3 : Int) : Option (Int × List T):=
  (idx p0 p3).bind fun v101=>(idx p0 p1).bind fun v103=>(idx p0 p1).bind fun v105=>(idx (p0.set p1.toNat v101) p3).bind fun v107=>(loop (q1a p1 q1) (w64 (p1 + 1),w64 (p2 - 1),(p0.set p1.toNat v101).set p3.toNat v103)).bind fun b321=>some (b321.1,b321.2)
noncomputable def q28 {T : Type} (p2 : Int) (p0 : List T) (p1 : Int) (v101 : T) (p3 : Int) (v103 : T) (q1 : T→T→Option Int) (a163 : Int) : Option ((Int) ⊕ (Int)):=
  (cond (decide (a163≤(w64 (p2 - 1)))) ((idx ((p0.set p1.toNat v101).set p3.toNat v103) a163).bind fun v187=>(idx ((p0.set p1.toNat v101).set p3.toNat v103) p1).bind fun v189=>(q1 v187 v189).bind fun r191=>some (decide (r191 < 0))) (some false)).bind fun c173=>cond c173 (some (.inl (w64 (a163 + 1)))) (some (.inr a163))
noncomputable def q29 {T : Type} (b166 : Int) (p0 : List T) (p1 : Int) (v101 : T) (p3 : Int) (v103 : T) (q1 : T→T→Option Int) (a249 : Int) : Option ((Int) ⊕ (Int)):=
  (cond (decide (b166≤a249)) ((idx ((p0.set p1.toNat v101).set p3.toNat v103) a249).bind fun v274=>(idx ((p0.set p1.toNat v101).set p3.toNat v103) p1).bind fun v276=>(q1 v274 v276).bind fun r278=>some (!(decide (r278 < 0)))) (some false)).bind fun c259=>cond c259 (some (.inl (w64 (a249 - 1)))) (some (.inr a249))
noncomputable def J0 {T : Type} (a514 : Int × Int × List T) (p1 : Int) (q1 : T→T→Option Int) (a572 : Int) : Option ((Int) ⊕ (Int)):=
  (cond (decide (a572≤a514.2.1)) ((idx a514.2.2 a572).bind fun v596=>(idx a514.2.2 p1).bind fun v598=>(q1 v596 v598).bind fun r600=>some (decide (r600 < 0))) (some false)).bind fun c582=>cond c582 (some (.inl (w64 (a572 + 1)))) (some (.inr a572))
noncomputable def J1 {T : Type} (b575 : Int) (a514 : Int × Int × List T) (p1 : Int) (q1 : T→T→Option Int) (a658 : Int) : Option ((Int) ⊕ (Int)):=
  (cond (decide (b575≤a658)) ((idx a514.2.2 a658).bind fun v683=>(idx a514.2.2 p1).bind fun v685=>(q1 v683 v685).bind fun r687=>some (!(decide (r687 < 0)))) (some false)).bind fun c668=>cond c668 (some (.inl (w64 (a658 - 1)))) (some (.inr a658))
noncomputable def q1b {T : Type} (p1 : Int) (q1 : T→T→Option Int) (a514 : Int × Int × List T) : Option ((Int × Int × List T) ⊕ (Int × List T)):=
  (loop (J0 a514 p1 q1) a514.1).bind fun b575=>(loop (J1 b575 a514 p1 q1) a514.2.1).bind fun b661=>cond (decide (b575 > b661)) (some (.inr (b661,a514.2.2))) ((idx a514.2.2 b661).bind fun v689=>(idx a514.2.2 b575).bind fun v691=>(idx a514.2.2 b575).bind fun v693=>(idx (a514.2.2.set b575.toNat v689) b661).bind fun v695=>some (.inl (w64 (b575 + 1),w64 (b661 - 1),(a514.2.2.set b575.toNat v689).set b661.toNat v691)))
noncomputable def q18 {T : Type} (q1 : T→T→Option Int) (p0 : List T) (p1 : Int) (p2 : Int) (p3 : Int) : Option (Int × Bool × List T):=
  (idx p0 p3).bind fun v101=>(idx p0 p1).bind fun v103=>(idx p0 p1).bind fun v105=>(idx (p0.set p1.toNat v101) p3).bind fun v107=>(loop (q28 p2 p0 p1 v101 p3 v103 q1) (w64 (p1 + 1))).bind fun b166=>(loop (q29 b166 p0 p1 v101 p3 v103 q1) (w64 (p2 - 1))).bind fun b252=>cond (decide (b166 > b252)) ((idx ((p0.set p1.toNat v101).set p3.toNat v103) p1).bind fun v288=>(idx ((p0.set p1.toNat v101).set p3.toNat v103) b252).bind fun v290=>(idx ((p0.set p1.toNat v101).set p3.toNat v103) b252).bind fun v292=>(idx (((p0.set p1.toNat v101).set p3.toNat v103).set b252.toNat v288) p1).bind fun v294=>some (b252,true,(((p0.set p1.toNat v101).set p3.toNat v103).set b252.toNat v288).set p1.toNat v290)) ((idx ((p0.set p1.toNat v101).set p3.toNat v103) b252).bind fun v296=>(idx ((p0.set p1.toNat v101).set p3.toNat v103) b166).bind fun v298=>(idx ((p0.set p1.toNat v101).set p3.toNat v103) b166).bind fun v300=>(idx (((p0.set p1.toNat v101).set p3.toNat v103).set b166.toNat v296) b252).bind fun v302=>(loop (q1b p1 q1) (w64 (b166 + 1),w64 (b252 - 1),(((p0.set p1.toNat v101).set p3.toNat v103).set b166.toNat v296).set b252.toNat v298)).bind fun b517=>(idx b517.2 p1).bind fun v697=>(idx b517.2 b517.1).bind fun v699=>(idx b517.2 b517.1).bind fun v701=>(idx (b517.2.set b517.1.toNat v697) p1).bind fun v703=>some (b517.1,false,(b517.2.set b517.1.toNat v697).set p1.toNat v699))
noncomputable def Zd {T : Type} (q1 : T→T→Option Int) (rec : List T→Int→Int→Int→Option (List T)) (a309 : Int × Int × Int × Bool × Bool × List T) : Option ((Int × Int × Int × Bool × Bool × List T) ⊕ (List T)):=
  cond (decide ((w64 (a309.2.1 - a309.1))≤12)) ((q26 q1 a309.2.2.2.2.2 a309.1 a309.2.1).bind fun e318=>(Qr e318.length a309.2.2.2.2.2.length).bind fun u320=>some (.inr e318)) (cond (a309.2.2.1 == 0) ((q25 q1 a309.2.2.2.2.2 a309.1 a309.2.1).bind fun e328=>(Qr e328.length a309.2.2.2.2.2.length).bind fun u330=>some (.inr e328)) ((cond (!a309.2.2.2.1) ((q14 q1 a309.2.2.2.2.2 a309.1 a309.2.1).bind fun e341=>(Qr e341.length a309.2.2.2.2.2.length).bind fun u343=>some (w64 (a309.2.2.1 - 1),e341)) (some (a309.2.2.1,a309.2.2.2.2.2))).bind fun b340=>(q24 b340.2 a309.1 a309.2.1 q1).bind fun r346=>(cond (r346.2 == 2) ((q1c q1 b340.2 a309.1 a309.2.1).bind fun e356=>(Qr e356.length b340.2.length).bind fun u358=>some (w64 ((w64 (a309.2.1 - 1)) - (w64 (r346.1 - a309.1))),1,e356)) (some (r346.1,r346.2,b340.2))).bind fun b355=>(cond a309.2.2.2.1 (some a309.2.2.2.2.1) (some false)).bind fun c361=>(cond c361 (some (b355.2.1 == 1)) (some false)).bind fun c365=>(cond c365 ((U1 q1 b355.2.2 a309.1 a309.2.1).bind fun e378=>(Qr e378.2.length b355.2.2.length).bind fun u380=>cond e378.1 (some (.inr e378.2)) (some (.inl e378.2))) (some (.inl b355.2.2)) : Option ((List T) ⊕ (List T))).bind fun m376=>(match m376 with | .inl b377=>(cond (decide (a309.1 > 0)) ((idx b377 (w64 (a309.1 - 1))).bind fun v405=>(idx b377 b355.1).bind fun v407=>(q1 v405 v407).bind fun r409=>some (!(decide (r409 < 0)))) (some false)).bind fun c389=>cond c389 ((q19 q1 b377 a309.1 a309.2.1 b355.1).bind fun e416=>(Qr e416.2.length b377.length).bind fun u418=>some (.inl (e416.1,a309.2.1,b340.1,a309.2.2.2.1,a309.2.2.2.2.1,e416.2))) ((q18 q1 b377 a309.1 a309.2.1 b355.1).bind fun e421=>(Qr e421.2.2.length b377.length).bind fun u423=>cond (decide ((w64 (e421.1 - a309.1)) < (w64 (a309.2.1 - e421.1)))) ((rec e421.2.2 a309.1 e421.1 b340.1).bind fun e426=>(Qr e426.length e421.2.2.length).bind fun u428=>some (.inl (w64 (e421.1 + 1),a309.2.1,b340.1,decide ((w64 (e421.1 - a309.1)) ≥ (w64 (Int.tdiv (w64 (a309.2.1 - a309.1)) 8))),e421.2.1,e426))) ((rec e421.2.2 (w64 (e421.1 + 1)) a309.2.1 b340.1).bind fun e431=>(Qr e431.length e421.2.2.length).bind fun u433=>some (.inl (a309.1,e421.1,b340.1,decide ((w64 (a309.2.1 - e421.1)) ≥ (w64 (Int.tdiv (w64 (a309.2.1 - a309.1)) 8))),e421.2.1,e431)))) | .inr x1=>some (.inr x1))))
noncomputable def Ui {T : Type} (rec : List T→Int→Int→Int→Option (List T)) (q1 : T→T→Option Int) (p0 : List T) (p1 : Int) (p2 : Int) (p3 : Int) : Option (List T):=
  (loop (Zd q1 rec) (p1,p2,p3,true,true,p0)).bind fun x0=>some x0
noncomputable def Yz {T : Type} : Nat→(T→T→Option Int)→List T→Int→Int→Int→Option (List T)
  | 0,_,_,_,_,_=>none
  | n + 1,q1,p0,p1,p2,p3=>Ui (Yz n q1) q1 p0 p1 p2 p3
noncomputable def q23 {T : Type} (q1 : T→T→Option Int) (p0 : List T) : Option (List T):=
  (q13 (IntKind.wrap .u64 (p0.length : Int))).bind fun r101=>(lim (fun n=>Yz n q1 p0 0 (p0.length : Int) r101)).bind fun e103=>(Qr e103.length p0.length).bind fun u105=>some e103
end Go.Sh
namespace Go.Sh
open Go Go.Am
section
variable {T : Type} [Inhabited T] {P : T→Prop} {lt : T→T→Bool} {q : T→T→Option Int}
def Kk (q : T→T→Option Int) (lt : T→T→Bool) (P : T→Prop) : Prop:=∀ x y,P x→P y→∃ r,q x y = some r∧decide (r < 0) = lt x y
def AllP (n : Nat) (P : T→Prop) (d : Array T) : Prop:=d.size = n∧n≤1000000∧∀ i,i < n→P d[i]!
theorem gx {d : Array T} {k : Nat} (h : k < d.size) : idx d.toList (k : Int) = some d[k]!:=by
  simp [idx,h]
theorem gxs {d : Array T} {k : Nat} {i : Nat} {v : T} (h : k < d.size) : idx (d.toList.set i v) (k : Int) = some (d.setIfInBounds i v)[k]!:=by
  have : d.toList.set i v = (d.setIfInBounds i v).toList:=by simp
  rw [this];exact gx (by simpa using h)
theorem gswp {d : Array T} {i j : Nat} : (d.toList.set i d[j]!).set j d[i]! = (Sort.swp d i j).toList:=by simp [Sort.swp]
theorem AllP.swp {n : Nat} {d : Array T} (h : AllP n P d) {a b : Nat} (ha : a < n) (hb : b < n) : AllP n P (Sort.swp d a b):=by
  obtain ⟨h1,h2,h3⟩:=h
  refine ⟨by rw [Sort.swp_size];exact h1,h2,fun k hk=>?_⟩
  rw [Sort.swp_get d q7 q7]
  repeat' split
  all_goals first | exact h3 _ ha | exact h3 _ hb | exact h3 _ hk
theorem AllP.perm {n : Nat} {d d' : Array T} (h : AllP n P d) {a b : Nat} (hab : a≤b) (hb : b≤n) (hp : Sort.PermIn a b d d') : AllP n P d':=by
  obtain ⟨h1,h2,h3⟩:=h
  refine ⟨by rw [hp.1];exact h1,h2,fun k hk=>?_⟩
  by_cases hk2 : k < a∨b≤k
  · rw [hp.2.1 k hk2];exact h3 k hk
  · exact Sort.permIn_all d d' a b P q7 hp (fun i hi hi2=>h3 i q7) k q7 q7
theorem w1m (j : Nat) (h : j < 2000000) : w64 (((j + 1 : Nat) : Int) - 1) = (j : Int):=by rw [Q0 q7];omega
theorem w1p (j : Nat) (h : j < 2000000) : w64 ((j : Int) + 1) = ((j + 1 : Nat) : Int):=by rw [Q0 q7];omega
theorem wsub {a b : Nat} (h : a≤b) (h2 : b < 2000000) : w64 ((b : Int) - (a : Int)) = ((b - a : Nat) : Int):=by rw [Q0 q7];omega
theorem qj3 (hq : Kk q lt P) (a n : Nat) : ∀ (j : Nat) (d : Array T),AllP n P d→j < n→loop (Jz (a : Int) q) ((j : Int),d.toList) = some (Sort.insInner lt a j d).toList∧AllP n P (Sort.insInner lt a j d)
  | 0,d,hd,hj=>by
    have h0 : decide (((0 : Nat) : Int) > (a : Int)) = false:=decide_eq_false q7
    refine ⟨K8 ?_,hd⟩
    simp only [Jz,h0,cond_false,Option.bind_some];rfl
  | j + 1,d,hd,hj=>by
    have hsz:=hd.1
    have hn:=hd.2.1
    unfold Sort.insInner
    by_cases ha : j + 1 > a
    · have h0 : decide (((j + 1 : Nat) : Int) > (a : Int)) = true:=decide_eq_true q7
      obtain ⟨r,h1,h2⟩:=hq d[j + 1]! d[j]! (hd.2.2 _ hj) (hd.2.2 _ q7)
      by_cases hl : lt d[j + 1]! d[j]! = true
      · rw [if_pos (by simp [ha,hl])]
        have ih:=qj3 hq a n j _ (hd.swp (a:=j + 1) (b:=j) hj q7) q7
        refine ⟨?_,ih.2⟩
        rw [Qv (a':=((j : Int),(Sort.swp d (j + 1) j).toList)) ?_]
        · exact ih.1
        · simp only [Jz,h0,cond_true,gx (d:=d) (k:=j + 1) q7,w1m j q7,gx (d:=d) (k:=j) q7,gxs (d:=d) (k:=j) q7,Option.bind_some,h1,h2,hl,Int.toNat_natCast,gswp]
      · rw [if_neg (by simp [hl])]
        refine ⟨K8 ?_,hd⟩
        simp only [Jz,h0,cond_true,gx (d:=d) (k:=j + 1) q7,w1m j q7,gx (d:=d) (k:=j) q7,Option.bind_some,h1,h2,hl,cond_false]
    · rw [if_neg (by simp [ha])]
      have h0 : decide (((j + 1 : Nat) : Int) > (a : Int)) = false:=decide_eq_false q7
      refine ⟨K8 ?_,hd⟩
      simp only [Jz,h0,cond_false,Option.bind_some]
theorem qqr (hq : Kk q lt P) (a b n : Nat) (hb : b≤n) : ∀ (m i : Nat) (d : Array T),b - i = m→AllP n P d→i≤1000001→loop (q17 (b : Int) (a : Int) q) ((i : Int),d.toList) = some (Sort.insOuter lt a b i d).toList:=by
  intro m
  induction m with
  | zero=>
    intro i d hm hd hi
    unfold Sort.insOuter
    rw [if_neg q7]
    have h0 : decide ((i : Int) < (b : Int)) = false:=decide_eq_false q7
    exact K8 (by simp only [q17,h0,cond_false])
  | succ m ih=>
    intro i d hm hd hi
    unfold Sort.insOuter
    rw [if_pos q7]
    have h0 : decide ((i : Int) < (b : Int)) = true:=decide_eq_true q7
    obtain ⟨h1,h2⟩:=qj3 hq a n i d hd q7
    have:=hd.2.1
    rw [Qv (a':=(((i + 1 : Nat) : Int),(Sort.insInner lt a i d).toList)) ?_]
    · exact ih (i + 1) _ q7 h2 q7
    · simp only [q17,h0,cond_true,h1,Option.bind_some,w1p i q7]
theorem qqt (hq : Kk q lt P) {a b n : Nat} (hb : b≤n) (hab : a≤b) {d : Array T} (hd : AllP n P d) : q26 q d.toList (a : Int) (b : Int) = some (Sort.insertionSort lt d a b).toList:=by
  have:=hd.2.1
  unfold q26 Sort.insertionSort
  rw [w1p a q7,qqr hq a b n hb _ (a + 1) d rfl hd q7]
  rfl
theorem qvs (hq : Kk q lt P) (hi first n : Nat) (hb : first + hi≤n) : ∀ (m root : Nat) (d : Array T),hi - root = m→AllP n P d→root≤1000000→(root < hi∨hi≤1)→loop (U2 (hi : Int) (first : Int) q) ((root : Int),d.toList) = some (Sort.siftDown lt hi first root d).toList∧AllP n P (Sort.siftDown lt hi first root d):=by
  intro m
  induction m using Nat.strongRecOn with
  | _ m ih=>
    intro root d hm hd hr hr2
    have hsz:=hd.1
    have hn:=hd.2.1
    unfold Sort.siftDown
    have e1 : w64 ((w64 (2 * (root : Int))) + 1) = ((2 * root + 1 : Nat) : Int):=by rw [Q0 (x:=2 * (root : Int)) q7,Q0 q7];omega
    by_cases hc : 2 * root + 1 ≥ hi
    · rw [dif_pos hc]
      have h0 : decide (((2 * root + 1 : Nat) : Int) ≥ (hi : Int)) = true:=decide_eq_true q7
      refine ⟨K8 ?_,hd⟩
      simp only [U2,e1,h0,cond_true]
    · rw [dif_neg hc]
      have h0 : decide (((2 * root + 1 : Nat) : Int) ≥ (hi : Int)) = false:=decide_eq_false q7
      have e2 : w64 (((2 * root + 1 : Nat) : Int) + 1) = ((2 * root + 2 : Nat) : Int):=w1p _ q7
      have e3 : w64 ((first : Int) + ((2 * root + 1 : Nat) : Int)) = ((first + (2 * root + 1) : Nat) : Int):=by rw [Q0 q7];omega
      have e4 : w64 ((first : Int) + ((2 * root + 2 : Nat) : Int)) = ((first + (2 * root + 2) : Nat) : Int):=by rw [Q0 q7];omega
      have e5 : w64 ((first : Int) + (root : Int)) = ((first + root : Nat) : Int):=by rw [Q0 q7];omega
      have e6 : w64 (((first + (2 * root + 1) : Nat) : Int) + 1) = ((first + (2 * root + 2) : Nat) : Int):=w1p _ q7
      have x1:=gx (d:=d) (k:=first + (2 * root + 1)) q7
      have x0:=gx (d:=d) (k:=first + root) q7
      have child : ∀ c,(c = 2 * root + 1∨c = 2 * root + 2)→c < hi→
          (∀ (h : (cond (decide (((2 * root + 2 : Nat) : Int) < (hi : Int))) ((idx d.toList ((first + (2 * root + 1) : Nat) : Int)).bind fun v226=>(idx d.toList ((first + (2 * root + 2) : Nat) : Int)).bind fun v228=>(q v226 v228).bind fun r230=>some (decide (r230 < 0))) (some false)) = some (decide (c = 2 * root + 2))),
          (loop (U2 (hi : Int) (first : Int) q) ((root : Int),d.toList) = some (if (!lt d[first + root]! d[first + c]!) = true then d else Sort.siftDown lt hi first c (Sort.swp d (first + root) (first + c))).toList)∧AllP n P (if (!lt d[first + root]! d[first + c]!) = true then d else Sort.siftDown lt hi first c (Sort.swp d (first + root) (first + c)))):=by
        intro c hcc hch h
        have xc:=gx (d:=d) (k:=first + c) q7
        have xs:=fun v=>gxs (d:=d) (k:=first + c) (i:=first + root) (v:=v) q7
        obtain ⟨r,h1,h2⟩:=hq d[first + root]! d[first + c]! (hd.2.2 _ q7) (hd.2.2 _ q7)
        have hb : (cond (decide (c = 2 * root + 2)) (some ((2 * root + 2 : Nat) : Int)) (some ((2 * root + 1 : Nat) : Int))) = some (c : Int):=by
          rcases hcc with rfl | rfl
          · simp
          · simp
        have ec : w64 ((first : Int) + (c : Int)) = ((first + c : Nat) : Int):=by rw [Q0 q7];omega
        by_cases hl : lt d[first + root]! d[first + c]! = true
        · have ihc:=ih (hi - c) q7 c _ rfl (hd.swp (a:=first + root) (b:=first + c) q7 q7) q7 (.inl hch)
          rw [if_neg (by simp [hl])]
          refine ⟨?_,ihc.2⟩
          rw [Qv (a':=((c : Int),(Sort.swp d (first + root) (first + c)).toList)) ?_]
          · exact ihc.1
          · simp only [U2,e1,h0,cond_false,e2,e3,e6,h,Option.bind_some,hb,e5,ec,x0,xc,xs,h1,h2,hl,Bool.not_true,Int.toNat_natCast,gswp]
        · rw [if_pos (by simp [hl])]
          refine ⟨K8 ?_,hd⟩
          simp only [U2,e1,h0,cond_false,e2,e3,e6,h,Option.bind_some,hb,e5,ec,x0,xc,h1,h2,hl,Bool.not_false,cond_true]
      by_cases h2c : 2 * root + 2 < hi
      · have x2:=gx (d:=d) (k:=first + (2 * root + 2)) q7
        have t2 : decide (((2 * root + 2 : Nat) : Int) < (hi : Int)) = true:=decide_eq_true q7
        obtain ⟨r,h1,h2⟩:=hq d[first + (2 * root + 1)]! d[first + (2 * root + 2)]! (hd.2.2 _ q7) (hd.2.2 _ q7)
        by_cases hl : lt d[first + (2 * root + 1)]! d[first + (2 * root + 2)]! = true
        · rw [if_pos (by simp only [Bool.and_eq_true,decide_eq_true_eq];exact ⟨q7,hl⟩)]
          have:=child (2 * root + 2) (.inr rfl) h2c (by simp only [t2,cond_true,x1,x2,Option.bind_some,h1,h2,hl,decide_true])
          rw [dif_pos h2c]
          exact this
        · rw [if_neg (by simp only [Bool.and_eq_true,decide_eq_true_eq];rintro ⟨_,h⟩;exact hl h)]
          have:=child (2 * root + 1) (.inl rfl) q7 (by simp only [t2,cond_true,x1,x2,Option.bind_some,h1,h2,hl];simp)
          exact this
      · have t2 : decide (((2 * root + 2 : Nat) : Int) < (hi : Int)) = false:=decide_eq_false q7
        rw [if_neg (by simp only [Bool.and_eq_true,decide_eq_true_eq];rintro ⟨h,_⟩;omega)]
        have:=child (2 * root + 1) (.inl rfl) q7 (by simp only [t2,cond_false];simp)
        exact this
end
end Go.Sh
namespace Go.Sh
open Go Go.Am
section
variable {T : Type} [Inhabited T] {P : T→Prop} {lt : T→T→Bool} {q : T→T→Option Int}
theorem U3 {n : Nat} {d d' : Array T} (h : AllP n P d) (h' : AllP n P d') : Qr d'.toList.length d.toList.length = some ():=by
  unfold Qr
  rw [if_pos (by simp [h.1,h'.1])]
theorem qio (hq : Kk q lt P) (hi first n root : Nat) (hb : first + hi≤n) (d : Array T) (hd : AllP n P d) (hr : root≤1000000) (h2 : root < hi∨hi≤1) : Uj q d.toList (root : Int) (hi : Int) (first : Int) = some (Sort.siftDown lt hi first root d).toList∧AllP n P (Sort.siftDown lt hi first root d):=by
  obtain ⟨h3,h4⟩:=qvs hq hi first n hb _ root d rfl hd hr h2
  exact ⟨by unfold Uj;rw [h3];rfl,h4⟩
theorem qiy (hq : Kk q lt P) (a b n : Nat) (hb : b≤n) (hab : a≤b) : ∀ (k : Nat) (d : Array T),AllP n P d→(k≤b - a∨b - a = 0∧k≤1)→loop (q15 q (b : Int) (a : Int)) ((k : Int) - 1,d.toList) = some (Sort.heapBuild lt (b - a) a k d).toList∧AllP n P (Sort.heapBuild lt (b - a) a k d)
  | 0,d,hd,hk=>by
    have h0 : decide (((0 : Nat) : Int) - 1 ≥ 0) = false:=decide_eq_false q7
    refine ⟨K8 ?_,hd⟩
    simp only [q15,h0,cond_false];rfl
  | k + 1,d,hd,hk=>by
    have hn:=hd.2.1
    have e : (((k + 1 : Nat) : Int) - 1) = (k : Int):=by omega
    rw [e]
    have h0 : decide ((k : Int) ≥ 0) = true:=decide_eq_true q7
    obtain ⟨h1,h2⟩:=qio hq (b - a) a n k q7 d hd q7 q7
    have ih:=qiy hq a b n hb hab k _ h2 q7
    refine ⟨?_,ih.2⟩
    rw [Qv (a':=((k : Int) - 1,(Sort.siftDown lt (b - a) a k d).toList)) ?_]
    · exact ih.1
    · have ew : w64 ((k : Int) - 1) = (k : Int) - 1:=Q0 q7
      simp only [q15,h0,cond_true,wsub hab (by omega : b < 2000000),h1,Option.bind_some,U3 hd h2,ew]
theorem qiz (hq : Kk q lt P) (a n : Nat) : ∀ (k : Nat) (d : Array T),AllP n P d→a + k≤n→loop (q16 (a : Int) q) ((k : Int) - 1,d.toList) = some (Sort.heapPop lt a k d).toList
  | 0,d,hd,hk=>by
    have h0 : decide (((0 : Nat) : Int) - 1 ≥ 0) = false:=decide_eq_false q7
    refine K8 ?_
    simp only [q16,h0,cond_false];rfl
  | k + 1,d,hd,hk=>by
    have hsz:=hd.1
    have hn:=hd.2.1
    have e : (((k + 1 : Nat) : Int) - 1) = (k : Int):=by omega
    rw [e]
    have h0 : decide ((k : Int) ≥ 0) = true:=decide_eq_true q7
    have hd1:=hd.swp (a:=a) (b:=a + k) q7 q7
    obtain ⟨h1,h2⟩:=qio hq k a n 0 q7 _ hd1 q7 q7
    have ih:=qiz hq a n k _ h2 q7
    rw [Qv (a':=((k : Int) - 1,(Sort.siftDown lt k a 0 (Sort.swp d a (a + k))).toList)) ?_]
    · exact ih
    · have ew : w64 ((k : Int) - 1) = (k : Int) - 1:=Q0 q7
      have ea : w64 ((a : Int) + (k : Int)) = ((a + k : Nat) : Int):=by rw [Q0 q7];omega
      have h1 : Uj q (Sort.swp d a (a + k)).toList 0 (k : Int) (a : Int) = _:=h1
      simp only [q16,h0,cond_true,ea,gx (d:=d) (k:=a) q7,gx (d:=d) (k:=a + k) q7,gxs (d:=d) (k:=a + k) q7,Option.bind_some,Int.toNat_natCast,gswp,h1,U3 hd1 h2,ew]
theorem qqj (hq : Kk q lt P) {a b n : Nat} (hb : b≤n) (hab : a < b) {d : Array T} (hd : AllP n P d) : q25 q d.toList (a : Int) (b : Int) = some (Sort.heapSort lt d a b).toList:=by
  have hn:=hd.2.1
  have e1 : w64 ((b : Int) - (a : Int)) = ((b - a : Nat) : Int):=wsub q7 q7
  have e2 : w64 (((b - a : Nat) : Int) - 1) = ((b - a : Nat) : Int) - 1:=Q0 q7
  have e3 : w64 (Int.tdiv (((b - a : Nat) : Int) - 1) 2) = (((b - a - 1) / 2 + 1 : Nat) : Int) - 1:=by
    rw [Int.tdiv_eq_ediv_of_nonneg q7,Q0 q7];omega
  obtain ⟨h1,h2⟩:=qiy hq a b n hb q7 ((b - a - 1) / 2 + 1) d hd q7
  unfold q25 Sort.heapSort
  rw [e1,e2,e3,h1,Option.bind_some,qiz hq a n (b - a) _ h2 q7]
  rfl
theorem qub (n : Nat) : ∀ (m i j : Nat) (d : Array T),j - i = m→AllP n P d→j < n→i≤1000001→loop (q2a (T:=T)) ((i : Int),(j : Int),d.toList) = some (Sort.reverseLoop i j d).toList:=by
  intro m
  induction m using Nat.strongRecOn with
  | _ m ih=>
    intro i j d hm hd hj hi
    have hsz:=hd.1
    have hn:=hd.2.1
    unfold Sort.reverseLoop
    by_cases hc : i < j
    · rw [if_pos hc]
      have h0 : decide ((i : Int) < (j : Int)) = true:=decide_eq_true q7
      have ej : w64 ((j : Int) - 1) = ((j - 1 : Nat) : Int):=by rw [Q0 q7];omega
      rw [Qv (a':=(((i + 1 : Nat) : Int),((j - 1 : Nat) : Int),(Sort.swp d i j).toList)) ?_]
      · exact ih _ q7 _ _ _ rfl (hd.swp q7 hj) q7 q7
      · simp only [q2a,h0,cond_true,gx (d:=d) (k:=i) q7,gx (d:=d) (k:=j) q7,gxs (d:=d) (k:=j) q7,Option.bind_some,Int.toNat_natCast,gswp,ej,w1p i q7]
    · rw [if_neg hc]
      have h0 : decide ((i : Int) < (j : Int)) = false:=decide_eq_false q7
      exact K8 (by simp only [q2a,h0,cond_false])
theorem quc {a b n : Nat} (hb : b≤n) (hab : a < b) {d : Array T} (hd : AllP n P d) : q1c q d.toList (a : Int) (b : Int) = some (Sort.reverseRange d a b).toList:=by
  have hn:=hd.2.1
  have e1 : w64 ((b : Int) - 1) = ((b - 1 : Nat) : Int):=by rw [Q0 q7];omega
  unfold q1c Sort.reverseRange
  rw [e1,qub n _ a (b - 1) d rfl hd q7 q7]
  rfl
theorem qej (hq : Kk q lt P) {n : Nat} {d : Array T} (hd : AllP n P d) {a b s : Nat} (ha : a < n) (hb : b < n) (hs : s≤1000) : Uc q d.toList (a : Int) (b : Int) (s : Int) = some (((Sort.order2 lt d a b s).1 : Int),((Sort.order2 lt d a b s).2.1 : Int),((Sort.order2 lt d a b s).2.2 : Int))∧(Sort.order2 lt d a b s).1 < n∧(Sort.order2 lt d a b s).2.1 < n∧(Sort.order2 lt d a b s).2.2≤s + 1:=by
  have hsz:=hd.1
  obtain ⟨r,h1,h2⟩:=hq d[b]! d[a]! (hd.2.2 _ hb) (hd.2.2 _ ha)
  unfold Uc Sort.order2
  rw [gx (d:=d) (k:=b) q7,gx (d:=d) (k:=a) q7]
  simp only [Option.bind_some,h1,h2]
  by_cases hl : lt d[b]! d[a]! = true
  · rw [if_pos hl]
    simp only [hl,cond_true,w1p s q7]
    exact ⟨trivial,hb,ha,q7⟩
  · rw [if_neg hl]
    have : lt d[b]! d[a]! = false:=by simpa using hl
    simp only [this,cond_false]
    exact ⟨trivial,ha,hb,q7⟩
theorem qe5 (hq : Kk q lt P) {n : Nat} {d : Array T} (hd : AllP n P d) {a b c s : Nat} (ha : a < n) (hb : b < n) (hc : c < n) (hs : s≤900) : Ub q d.toList (a : Int) (b : Int) (c : Int) (s : Int) = some (((Sort.median lt d a b c s).1 : Int),((Sort.median lt d a b c s).2 : Int))∧(Sort.median lt d a b c s).1 < n∧(Sort.median lt d a b c s).2≤s + 3:=by
  obtain ⟨h1,a1,b1,c1⟩:=qej hq hd ha hb (s:=s) q7
  obtain ⟨h2,a2,b2,c2⟩:=qej hq hd b1 hc (s:=(Sort.order2 lt d a b s).2.2) q7
  obtain ⟨h3,a3,b3,c3⟩:=qej hq hd a1 a2 (s:=(Sort.order2 lt d (Sort.order2 lt d a b s).2.1 c (Sort.order2 lt d a b s).2.2).2.2) q7
  unfold Ub Sort.median
  simp only [h1,h2,h3,Option.bind_some]
  exact ⟨trivial,b3,q7⟩
theorem qe4 (hq : Kk q lt P) {n : Nat} {d : Array T} (hd : AllP n P d) {a s : Nat} (ha : 1≤a) (ha2 : a + 1 < n) (hs : s≤900) : U0 q d.toList (a : Int) (s : Int) = some (((Sort.medianAdjacent lt d a s).1 : Int),((Sort.medianAdjacent lt d a s).2 : Int))∧(Sort.medianAdjacent lt d a s).1 < n∧(Sort.medianAdjacent lt d a s).2≤s + 3:=by
  have hn:=hd.2.1
  obtain ⟨h1,h2,h3⟩:=qe5 hq hd (a:=a - 1) (b:=a) (c:=a + 1) (s:=s) q7 q7 ha2 hs
  have e : w64 ((a : Int) - 1) = ((a - 1 : Nat) : Int):=by rw [Q0 q7];omega
  unfold U0 Sort.medianAdjacent
  rw [e,w1p a q7,h1]
  exact ⟨rfl,h2,h3⟩
def qdv : Sort.Hint→Int
  | .unknown=>0
  | .increasing=>1
  | .decreasing=>2
theorem qop (hq : Kk q lt P) {n : Nat} {d : Array T} (hd : AllP n P d) {a b : Nat} (hab : a < b) (hb : b≤n) : q24 d.toList (a : Int) (b : Int) q = some (((Sort.choosePivot lt d a b).1 : Int),qdv (Sort.choosePivot lt d a b).2):=by
  have hn:=hd.2.1
  have e0 : w64 ((b : Int) - (a : Int)) = ((b - a : Nat) : Int):=wsub q7 q7
  have e1 : w64 (Int.tdiv ((b - a : Nat) : Int) 4) = (((b - a) / 4 : Nat) : Int):=by
    rw [Int.tdiv_eq_ediv_of_nonneg q7,Q0 q7];omega
  have em : ∀ k : Nat,k≤3→w64 ((a : Int) + (w64 ((((b - a) / 4 : Nat) : Int) * (k : Int)))) = ((a + (b - a) / 4 * k : Nat) : Int):=by
    intro k hk
    have : (b - a) / 4 * k≤(b - a) / 4 * 3:=Nat.mul_le_mul_left _ hk
    have e : ((((b - a) / 4 : Nat) : Int) * (k : Int)) = (((b - a) / 4 * k : Nat) : Int):=by push_cast;rfl
    rw [e,Q0 (x:=(((b - a) / 4 * k : Nat) : Int)) q7,Q0 q7];omega
  have em1:=em 1 q7
  have em2:=em 2 q7
  have em3:=em 3 q7
  have last : ∀ r : Nat × Nat,(cond (((r.2 : Int)) == 0) (some ((r.1 : Int),(1 : Int))) (cond (((r.2 : Int)) == 12) (some ((r.1 : Int),(2 : Int))) (some ((r.1 : Int),(0 : Int))))) = some ((r.1 : Int),qdv (if r.2 = 0 then Sort.Hint.increasing else if r.2 = 12 then Sort.Hint.decreasing else Sort.Hint.unknown)):=by
    intro r
    by_cases h0 : r.2 = 0
    · have : ((r.2 : Int) == 0) = true:=by simp [h0]
      simp only [this,cond_true,if_pos h0];rfl
    · have t0 : ((r.2 : Int) == 0) = false:=by simp;omega
      by_cases h12 : r.2 = 12
      · have : ((r.2 : Int) == 12) = true:=by simp;omega
        simp only [t0,this,cond_true,cond_false,if_neg h0,if_pos h12];rfl
      · have : ((r.2 : Int) == 12) = false:=by simp;omega
        simp only [t0,this,cond_false,if_neg h0,if_neg h12];rfl
  unfold q24 Sort.choosePivot
  simp only [e0,e1]
  by_cases h8 : b - a ≥ 8
  · have t8 : decide (((b - a : Nat) : Int) ≥ 8) = true:=decide_eq_true q7
    by_cases h50 : b - a ≥ 50
    · have t50 : decide (((b - a : Nat) : Int) ≥ 50) = true:=decide_eq_true q7
      obtain ⟨x1,y1,z1⟩:=qe4 hq hd (a:=a + (b - a) / 4 * 1) (s:=0) q7 q7 q7
      obtain ⟨x2,y2,z2⟩:=qe4 hq hd (a:=a + (b - a) / 4 * 2) (s:=(Sort.medianAdjacent lt d (a + (b - a) / 4 * 1) 0).2) q7 q7 q7
      obtain ⟨x3,y3,z3⟩:=qe4 hq hd (a:=a + (b - a) / 4 * 3) (s:=(Sort.medianAdjacent lt d (a + (b - a) / 4 * 2) (Sort.medianAdjacent lt d (a + (b - a) / 4 * 1) 0).2).2) q7 q7 q7
      obtain ⟨x4,y4,z4⟩:=qe5 hq hd y1 y2 y3 (s:=(Sort.medianAdjacent lt d (a + (b - a) / 4 * 3) (Sort.medianAdjacent lt d (a + (b - a) / 4 * 2) (Sort.medianAdjacent lt d (a + (b - a) / 4 * 1) 0).2).2).2) q7
      simp only [if_pos h8,if_pos h50,t8,t50,cond_true]
      have g1 : w64 ((a : Int) + (w64 ((((b - a) / 4 : Nat) : Int) * 1))) = _:=em1
      have g2 : w64 ((a : Int) + (w64 ((((b - a) / 4 : Nat) : Int) * 2))) = _:=em2
      have g3 : w64 ((a : Int) + (w64 ((((b - a) / 4 : Nat) : Int) * 3))) = _:=em3
      have x1 : U0 q d.toList ((a + (b - a) / 4 * 1 : Nat) : Int) 0 = _:=x1
      rw [g1,g2,g3]
      simp only [x1,x2,x3,x4,Option.bind_some]
      exact last _
    · have t50 : decide (((b - a : Nat) : Int) ≥ 50) = false:=decide_eq_false q7
      obtain ⟨x4,y4,z4⟩:=qe5 hq hd (a:=a + (b - a) / 4 * 1) (b:=a + (b - a) / 4 * 2) (c:=a + (b - a) / 4 * 3) (s:=0) q7 q7 q7 q7
      simp only [if_pos h8,if_neg h50,t8,t50,cond_true,cond_false]
      have g1 : w64 ((a : Int) + (w64 ((((b - a) / 4 : Nat) : Int) * 1))) = _:=em1
      have g2 : w64 ((a : Int) + (w64 ((((b - a) / 4 : Nat) : Int) * 2))) = _:=em2
      have g3 : w64 ((a : Int) + (w64 ((((b - a) / 4 : Nat) : Int) * 3))) = _:=em3
      have x4 : Ub q d.toList ((a + (b - a) / 4 * 1 : Nat) : Int) ((a + (b - a) / 4 * 2 : Nat) : Int) ((a + (b - a) / 4 * 3 : Nat) : Int) 0 = _:=x4
      rw [g1,g2,g3]
      simp only [x4,Option.bind_some]
      exact last _
  · have t8 : decide (((b - a : Nat) : Int) ≥ 8) = false:=decide_eq_false q7
    simp only [if_neg h8,t8,cond_false]
    have g2 : w64 ((a : Int) + (w64 ((((b - a) / 4 : Nat) : Int) * 2))) = _:=em2
    rw [g2]
    simp only [Option.bind_some]
    exact last (a + (b - a) / 4 * 2,0)
end
end Go.Sh
namespace Go.Sh
open Go Go.Am
theorem q1t (n : Int) : IntKind.u64.wrap n = n % 18446744073709551616:=by simp [IntKind.wrap,IntKind.bits,IntKind.signed]
theorem q110 (n : Int) : IntKind.u8.wrap n = n % 256:=by simp [IntKind.wrap,IntKind.bits,IntKind.signed]
theorem xorU (a b : Nat) (ha : a < 18446744073709551616) (hb : b < 18446744073709551616) : xorI .u64 (a : Int) (b : Int) = ((a ^^^ b : Nat) : Int):=by
  have hx : a ^^^ b < 2 ^ 64:=Nat.xor_lt_two_pow q7 q7
  unfold xorI
  rw [q1t]
  show ((BitVec.ofInt 64 (a : Int) ^^^ BitVec.ofInt 64 (b : Int)).toNat : Int) % _ = _
  rw [BitVec.ofInt_natCast,BitVec.ofInt_natCast,BitVec.toNat_xor,BitVec.toNat_ofNat,BitVec.toNat_ofNat,Nat.mod_eq_of_lt (a:=a) q7,Nat.mod_eq_of_lt (a:=b) q7]
  omega
theorem andU (a b : Nat) (ha : a < 18446744073709551616) (hb : b < 18446744073709551616) : andI .u64 (a : Int) (b : Int) = ((a &&& b : Nat) : Int):=by
  have hx : a &&& b≤a:=Nat.and_le_left
  unfold andI
  rw [q1t]
  show ((BitVec.ofInt 64 (a : Int) &&& BitVec.ofInt 64 (b : Int)).toNat : Int) % _ = _
  rw [BitVec.ofInt_natCast,BitVec.ofInt_natCast,BitVec.toNat_and,BitVec.toNat_ofNat,BitVec.toNat_ofNat,Nat.mod_eq_of_lt (a:=a) q7,Nat.mod_eq_of_lt (a:=b) q7]
  omega
theorem q113 (X : Nat) (hX : X < 18446744073709551616) : q2b (X : Int) = some ((Sort.xorNextN X : Nat) : Int):=by
  obtain ⟨A,hA⟩ : ∃ A : Nat,A = X ^^^ (X * 8192 % 18446744073709551616):=⟨_,rfl⟩
  obtain ⟨B,hB⟩ : ∃ B : Nat,B = A ^^^ (A / 128):=⟨_,rfl⟩
  have lA : A < 18446744073709551616:=by rw [hA];exact Nat.xor_lt_two_pow (n:=64) q7 q7
  have lB : B < 18446744073709551616:=by rw [hB];exact Nat.xor_lt_two_pow (n:=64) q7 q7
  have e1 : xorI .u64 (X : Int) (IntKind.u64.wrap ((X : Int) * 2 ^ 13)) = (A : Int):=by
    rw [q1t,show ((X : Int) * 2 ^ 13 % 18446744073709551616) = ((X * 8192 % 18446744073709551616 : Nat) : Int) by omega,xorU _ _ hX q7,hA]
  have e2 : xorI .u64 (A : Int) (Int.fdiv (A : Int) (2 ^ 7)) = (B : Int):=by
    rw [Int.fdiv_eq_ediv_of_nonneg _ qt,show ((A : Int) / 2 ^ 7) = ((A / 128 : Nat) : Int) by omega,xorU _ _ lA q7,hB]
  have e3 : xorI .u64 (B : Int) (IntKind.u64.wrap ((B : Int) * 2 ^ 17)) = ((B ^^^ (B * 131072 % 18446744073709551616) : Nat) : Int):=by
    rw [q1t,show ((B : Int) * 2 ^ 17 % 18446744073709551616) = ((B * 131072 % 18446744073709551616 : Nat) : Int) by omega,xorU _ _ lB q7]
  have hv : Sort.xorNextN X = B ^^^ (B * 131072 % 18446744073709551616):=by unfold Sort.xorNextN;simp only [];rw [← hA,← hB]
  unfold q2b
  rw [e1,e2,e3,hv]
theorem q10b : ∀ k : Nat,k < 256→q45 q4m (k : Int) = some ((Sort.bitsLen k : Nat) : Int):=by
  have key : ∀ k : Fin 256,(q4m[k.1]?).map (fun b=>b.toNat) = some (Sort.bitsLen k.1):=by decide +kernel
  intro k hk
  have:=key ⟨k,hk⟩
  unfold q45
  rw [if_pos q7,Int.toNat_natCast]
  simp only [Option.map_eq_some_iff] at this ⊢
  obtain ⟨b,h1,h2⟩:=this
  exact ⟨b,h1,by rw [h2]⟩
theorem qgl (n k : Nat) (h : 2 ^ k≤n) : Sort.bitsLen n = Sort.bitsLen (n / 2 ^ k) + k:=by
  have hp : 0 < 2 ^ k:=Nat.two_pow_pos k
  apply Nat.le_antisymm
  · rw [Sort.bitsLen_le_iff]
    have:=Sort.lt_two_pow_bitsLen (n / 2 ^ k)
    rw [Nat.pow_add]
    exact (Nat.div_lt_iff_lt_mul hp).1 this
  · have h2 : k < Sort.bitsLen n:=by
      rcases Nat.lt_or_ge k (Sort.bitsLen n) with h3 | h3
      · exact h3
      · have:=(Sort.bitsLen_le_iff n k).1 h3;omega
    have : Sort.bitsLen (n / 2 ^ k)≤Sort.bitsLen n - k:=by
      rw [Sort.bitsLen_le_iff,Nat.div_lt_iff_lt_mul hp,← Nat.pow_add,Nat.sub_add_cancel q7]
      exact Sort.lt_two_pow_bitsLen n
    omega
theorem qje (n : Nat) (hn : n≤1000000) : q13 (n : Int) = some ((Sort.bitsLen n : Nat) : Int):=by
  unfold q13 q3b
  have h0 : decide ((n : Int) ≥ 4294967296) = false:=decide_eq_false q7
  simp only [h0,cond_false,Option.bind_some]
  have fin : ∀ m s : Nat,m < 256→s≤16→(q45 q4m (IntKind.u8.wrap (m : Int))).bind (fun v10=>some (w64 ((s : Int) + (w64 v10)))) = some ((Sort.bitsLen m + s : Nat) : Int):=by
    intro m s hm hs
    rw [q110,show ((m : Int) % 256) = (m : Int) by omega,q10b m hm]
    have : Sort.bitsLen m≤8:=(Sort.bitsLen_le_iff m 8).2 q7
    rw [Option.bind_some,Q0 (x:=((Sort.bitsLen m : Nat) : Int)) q7,Q0 q7]
    congr 1;omega
  by_cases h1 : n ≥ 65536
  · have t1 : decide ((n : Int) ≥ 65536) = true:=decide_eq_true q7
    have e : Int.fdiv (n : Int) (2 ^ 16) = ((n / 65536 : Nat) : Int):=by rw [Int.fdiv_eq_ediv_of_nonneg _ qt];omega
    have t2 : decide (((n / 65536 : Nat) : Int) ≥ 256) = false:=decide_eq_false q7
    have w : w64 (0 + 16) = ((16 : Nat) : Int):=by rw [Q0 q7];rfl
    simp only [t1,cond_true,Option.bind_some,e,t2,cond_false,w]
    rw [fin (n / 65536) 16 q7 q7,Option.bind_some,qgl n 16 q7]
  · have t1 : decide ((n : Int) ≥ 65536) = false:=decide_eq_false q7
    simp only [t1,cond_false,Option.bind_some]
    by_cases h2 : n ≥ 256
    · have t2 : decide ((n : Int) ≥ 256) = true:=decide_eq_true q7
      have e : Int.fdiv (n : Int) (2 ^ 8) = ((n / 256 : Nat) : Int):=by rw [Int.fdiv_eq_ediv_of_nonneg _ qt];omega
      have w : w64 (0 + 8) = ((8 : Nat) : Int):=by rw [Q0 q7];rfl
      simp only [t2,cond_true,Option.bind_some,e,w]
      rw [fin (n / 256) 8 q7 q7,Option.bind_some,qgl n 8 q7]
    · have t2 : decide ((n : Int) ≥ 256) = false:=decide_eq_false q7
      simp only [t2,cond_false,Option.bind_some]
      have:=fin n 0 q7 q7
      exact congrArg (fun o=>Option.bind o some) this
theorem qrm (n : Nat) (hn : n≤1000000) : q27 (n : Int) = some ((1 <<< Sort.bitsLen n : Nat) : Int):=by
  unfold q27
  rw [q1t,show ((n : Int) % 18446744073709551616) = (n : Int) by omega,qje n hn]
  have hk : Sort.bitsLen n≤20:=(Sort.bitsLen_le_iff n 20).2 q7
  have h : (2 : Nat) ^ Sort.bitsLen n≤2 ^ 20:=Nat.pow_le_pow_right qt hk
  have e : min (Sort.bitsLen n) IntKind.u64.bits = Sort.bitsLen n:=Nat.min_eq_left (by show _≤64;omega)
  simp only [Option.bind_some,shlK]
  rw [if_neg q7,Int.toNat_natCast,e,q1t,Nat.one_shiftLeft,Option.bind_some,show ((1 : Int) * (2 : Int) ^ Sort.bitsLen n) = ((2 ^ Sort.bitsLen n : Nat) : Int) by push_cast;omega]
  generalize (2 : Nat) ^ Sort.bitsLen n = p at h
  congr 1;omega
section
variable {T : Type} [Inhabited T] {P : T→Prop} {lt : T→T→Bool} {q : T→T→Option Int}
theorem qd1 {a b n : Nat} (hb : b≤n) (h8 : 8≤b - a) {d : Array T} (hd : AllP n P d) (k : Nat) (hk : k≤2) (r : UInt64) :
    Ua (a : Int) (b : Int) ((1 <<< Sort.bitsLen (b - a) : Nat) : Int) (((a + (b - a) / 4 * 2 - 1 + k : Nat) : Int),d.toList,((r.toNat : Nat) : Int)) =
      some (.inl (((a + (b - a) / 4 * 2 - 1 + k + 1 : Nat) : Int),(Sort.breakStep a (b - a) (1 <<< Sort.bitsLen (b - a)) (r,d) (a + (b - a) / 4 * 2 - 1 + k)).2.toList,(((Sort.breakStep a (b - a) (1 <<< Sort.bitsLen (b - a)) (r,d) (a + (b - a) / 4 * 2 - 1 + k)).1.toNat : Nat) : Int)))∧
      AllP n P (Sort.breakStep a (b - a) (1 <<< Sort.bitsLen (b - a)) (r,d) (a + (b - a) / 4 * 2 - 1 + k)).2:=by
  have hsz:=hd.1
  have hn:=hd.2.1
  have hr : r.toNat < 18446744073709551616:=r.toNat_lt
  have e0 : w64 ((b : Int) - (a : Int)) = ((b - a : Nat) : Int):=wsub q7 q7
  have e1 : w64 (Int.tdiv ((b - a : Nat) : Int) 4) = (((b - a) / 4 : Nat) : Int):=by
    rw [Int.tdiv_eq_ediv_of_nonneg q7,Q0 q7];omega
  have e2 : w64 ((((b - a) / 4 : Nat) : Int) * 2) = (((b - a) / 4 * 2 : Nat) : Int):=by rw [Q0 q7];omega
  have e3 : w64 ((a : Int) + (((b - a) / 4 * 2 : Nat) : Int)) = ((a + (b - a) / 4 * 2 : Nat) : Int):=by rw [Q0 q7];omega
  have e4 : w64 (((a + (b - a) / 4 * 2 : Nat) : Int) + 1) = ((a + (b - a) / 4 * 2 + 1 : Nat) : Int):=w1p _ q7
  have h0 : decide (((a + (b - a) / 4 * 2 - 1 + k : Nat) : Int)≤((a + (b - a) / 4 * 2 + 1 : Nat) : Int)) = true:=decide_eq_true q7
  have hx:=q113 r.toNat hr
  have hX : Sort.xorNextN r.toNat < 18446744073709551616:=Sort.xorNextN_lt _ hr
  have hk20 : Sort.bitsLen (b - a)≤20:=(Sort.bitsLen_le_iff _ 20).2 q7
  have hp20 : (2 : Nat) ^ Sort.bitsLen (b - a)≤2 ^ 20:=Nat.pow_le_pow_right qt hk20
  have hp1 : 0 < (2 : Nat) ^ Sort.bitsLen (b - a):=Nat.two_pow_pos _
  have hpl:=Sort.two_pow_bitsLen_le (n:=b - a) q7
  have hone : (1 : Nat) <<< Sort.bitsLen (b - a) = 2 ^ Sort.bitsLen (b - a):=Nat.one_shiftLeft _
  have em : IntKind.u64.wrap (((1 <<< Sort.bitsLen (b - a) : Nat) : Int) - 1) = ((1 <<< Sort.bitsLen (b - a) - 1 : Nat) : Int):=by
    rw [q1t,hone]
    generalize (2 : Nat) ^ Sort.bitsLen (b - a) = p at hp20 hp1
    omega
  have hand : (Sort.xorNextN r.toNat) &&& (1 <<< Sort.bitsLen (b - a) - 1) < 2 ^ Sort.bitsLen (b - a):=by
    rw [hone]
    have : (Sort.xorNextN r.toNat) &&& (2 ^ Sort.bitsLen (b - a) - 1)≤2 ^ Sort.bitsLen (b - a) - 1:=Nat.and_le_right
    omega
  have ea:=andU (Sort.xorNextN r.toNat) (1 <<< Sort.bitsLen (b - a) - 1) hX (by rw [hone];omega)
  unfold Sort.breakStep
  simp only [Sort.xorNext_toNat]
  generalize hm : (Sort.xorNextN r.toNat) &&& (1 <<< Sort.bitsLen (b - a) - 1) = m at hand ea
  have hm2 : m < 2 * (b - a):=by omega
  have ew : w64 (m : Int) = (m : Int):=Q0 q7
  have eb : (cond (decide ((m : Int) ≥ ((b - a : Nat) : Int))) (some (w64 ((m : Int) - ((b - a : Nat) : Int)))) (some (m : Int))) = some (((if m ≥ b - a then m - (b - a) else m) : Nat) : Int):=by
    by_cases hc : m ≥ b - a
    · have t : decide ((m : Int) ≥ ((b - a : Nat) : Int)) = true:=decide_eq_true q7
      rw [t,cond_true,if_pos hc,wsub hc q7]
    · have t : decide ((m : Int) ≥ ((b - a : Nat) : Int)) = false:=decide_eq_false q7
      rw [t,cond_false,if_neg hc]
  have ho : (if m ≥ b - a then m - (b - a) else m) < b - a:=by split <;> omega
  generalize (if m ≥ b - a then m - (b - a) else m) = o at eb ho
  have eo : w64 ((a : Int) + (o : Int)) = ((a + o : Nat) : Int):=by rw [Q0 q7];omega
  refine ⟨?_,hd.swp q7 q7⟩
  simp only [Ua,e0,e1,e2,e3,e4,h0,cond_true,hx,Option.bind_some,em,ea,ew,eb,eo,gx (d:=d) (k:=a + o) q7,gx (d:=d) (k:=a + (b - a) / 4 * 2 - 1 + k) q7,gxs (d:=d) (k:=a + o) q7,Int.toNat_natCast,gswp,w1p (a + (b - a) / 4 * 2 - 1 + k) q7]
theorem qnw {a b n : Nat} (hb : b≤n) (hab : a < b) {d : Array T} (hd : AllP n P d) : q14 q d.toList (a : Int) (b : Int) = some (Sort.breakPatterns d a b).toList:=by
  have hn:=hd.2.1
  have e0 : w64 ((b : Int) - (a : Int)) = ((b - a : Nat) : Int):=wsub q7 q7
  unfold q14 Sort.breakPatterns
  simp only [e0]
  by_cases h8 : b - a ≥ 8
  · have t : decide (((b - a : Nat) : Int) ≥ 8) = true:=decide_eq_true q7
    rw [t,cond_true,if_pos h8,qrm _ q7,Option.bind_some]
    have e1 : w64 (Int.tdiv ((b - a : Nat) : Int) 4) = (((b - a) / 4 : Nat) : Int):=by
      rw [Int.tdiv_eq_ediv_of_nonneg q7,Q0 q7];omega
    have e2 : w64 ((((b - a) / 4 : Nat) : Int) * 2) = (((b - a) / 4 * 2 : Nat) : Int):=by rw [Q0 q7];omega
    have e3 : w64 ((a : Int) + (((b - a) / 4 * 2 : Nat) : Int)) = ((a + (b - a) / 4 * 2 : Nat) : Int):=by rw [Q0 q7];omega
    have e4 : w64 (((a + (b - a) / 4 * 2 : Nat) : Int) - 1) = ((a + (b - a) / 4 * 2 - 1 : Nat) : Int):=by rw [Q0 q7];omega
    have e5 : IntKind.u64.wrap ((b - a : Nat) : Int) = (((UInt64.ofNat (b - a)).toNat : Nat) : Int):=by
      rw [q1t,UInt64.toNat_ofNat'];omega
    rw [e1,e2,e3,e4,e5]
    obtain ⟨s1,a1⟩:=qd1 hb h8 hd 0 q7 (UInt64.ofNat (b - a))
    obtain ⟨s2,a2⟩:=qd1 hb h8 a1 1 q7 (Sort.breakStep a (b - a) (1 <<< Sort.bitsLen (b - a)) (UInt64.ofNat (b - a),d) (a + (b - a) / 4 * 2 - 1 + 0)).1
    obtain ⟨s3,a3⟩:=qd1 hb h8 a2 2 q7 (Sort.breakStep a (b - a) (1 <<< Sort.bitsLen (b - a)) ((Sort.breakStep a (b - a) (1 <<< Sort.bitsLen (b - a)) (UInt64.ofNat (b - a),d) (a + (b - a) / 4 * 2 - 1 + 0)).1,(Sort.breakStep a (b - a) (1 <<< Sort.bitsLen (b - a)) (UInt64.ofNat (b - a),d) (a + (b - a) / 4 * 2 - 1 + 0)).2) (a + (b - a) / 4 * 2 - 1 + 1)).1
    simp only [Nat.add_zero,Prod.eta] at s1 s2 s3 a1 a2 a3
    rw [Qv s1,Qv s2,Qv s3]
    have hend : Ua (T:=T) (a : Int) (b : Int) ((1 <<< Sort.bitsLen (b - a) : Nat) : Int) (((a + (b - a) / 4 * 2 - 1 + 2 + 1 : Nat) : Int),(Sort.breakStep a (b - a) (1 <<< Sort.bitsLen (b - a)) (Sort.breakStep a (b - a) (1 <<< Sort.bitsLen (b - a)) (Sort.breakStep a (b - a) (1 <<< Sort.bitsLen (b - a)) (UInt64.ofNat (b - a),d) (a + (b - a) / 4 * 2 - 1)) (a + (b - a) / 4 * 2 - 1 + 1)) (a + (b - a) / 4 * 2 - 1 + 2)).2.toList,(((Sort.breakStep a (b - a) (1 <<< Sort.bitsLen (b - a)) (Sort.breakStep a (b - a) (1 <<< Sort.bitsLen (b - a)) (Sort.breakStep a (b - a) (1 <<< Sort.bitsLen (b - a)) (UInt64.ofNat (b - a),d) (a + (b - a) / 4 * 2 - 1)) (a + (b - a) / 4 * 2 - 1 + 1)) (a + (b - a) / 4 * 2 - 1 + 2)).1.toNat : Nat) : Int)) = some (.inr (Sort.breakStep a (b - a) (1 <<< Sort.bitsLen (b - a)) (Sort.breakStep a (b - a) (1 <<< Sort.bitsLen (b - a)) (Sort.breakStep a (b - a) (1 <<< Sort.bitsLen (b - a)) (UInt64.ofNat (b - a),d) (a + (b - a) / 4 * 2 - 1)) (a + (b - a) / 4 * 2 - 1 + 1)) (a + (b - a) / 4 * 2 - 1 + 2)).2.toList):=by
      have e6 : w64 (((a + (b - a) / 4 * 2 : Nat) : Int) + 1) = ((a + (b - a) / 4 * 2 + 1 : Nat) : Int):=w1p _ q7
      have h0 : decide (((a + (b - a) / 4 * 2 - 1 + 2 + 1 : Nat) : Int)≤((a + (b - a) / 4 * 2 + 1 : Nat) : Int)) = false:=decide_eq_false q7
      simp only [Ua,e0,e1,e2,e3,e6,h0,cond_false]
    rw [K8 hend]
    rfl
  · have t : decide (((b - a : Nat) : Int) ≥ 8) = false:=decide_eq_false q7
    rw [t,cond_false,if_neg h8]
end
end Go.Sh
