/- Pl1 Pl2 Pl3 Pg0 Pg1 Pg2 Pg3 -/
import Derived.Test.YtiejlbckgihckaaK8
import Derived.Sort.AssemblyPlain
import Derived.Sort.LotD5
namespace Go.Sh
open Go Go.Am
def has (s : List qm) (x : Int) : Prop:=∃ t∈s,t.Lo≤x∧x < t.Hi
def Can (s : List qm) : Prop:=(∀ t∈s,t.Lo < t.Hi)∧s.Pairwise (fun a b=>a.Hi < b.Lo)
def vld (t : qm) : Prop:=t.Lo < t.Hi∧-1000000≤t.Lo∧t.Hi≤1000000
instance (t : qm) : Decidable (vld t):=by unfold vld;exact inferInstance
def Good (s : List qm) : Prop:=(∀ t∈s,vld t)∧s.Pairwise (fun a b=>a.Hi < b.Lo)
theorem Good.can {s : List qm} (h : Good s) : Can s:=⟨fun t a=>(h.1 t a).1,h.2⟩
theorem Uw (x : Int) : ¬ has [] x:=by rintro ⟨t,h,_⟩;cases h
theorem Z9 {a : qm} {s : List qm} {x : Int} : has (a::s) x↔(a.Lo≤x∧x < a.Hi)∨has s x:=by
  constructor
  · rintro ⟨t,b,h⟩;rcases List.mem_cons.1 b with rfl | b
    · exact .inl h
    · exact .inr ⟨t,b,h⟩
  · rintro (h | ⟨t,b,h⟩)
    · exact ⟨a,qb,h⟩
    · exact ⟨t,by simp [b],h⟩
theorem qnd {a b : List qm} {x : Int} : has (a ++ b) x↔has a x∨has b x:=by
  induction a with
  | nil=>simp [Uw]
  | cons t r ih=>simp only [List.cons_append,Z9,ih,or_assoc]
theorem Can.tail {a : qm} {s : List qm} (h : Can (a::s)) : Can s:=⟨fun t b=>h.1 t (by simp [b]),(List.pairwise_cons.1 h.2).2⟩
theorem Can.lt {a : qm} {s : List qm} (h : Can (a::s)) : ∀ t∈s,a.Hi < t.Lo:=(List.pairwise_cons.1 h.2).1
theorem Can.tail_gt {a : qm} {s : List qm} (h : Can (a::s)) {x : Int} (c : has s x) : a.Hi < x:=by
  obtain ⟨t,b,d,f⟩:=c;have:=h.lt t b;omega
theorem q6h : ∀ {s t : List qm},Can s→Can t→(∀ x,has s x↔has t x)→s = t
  | [],[],_,_,_=>rfl
  | [],b::t,_,c,h=>absurd ((h b.Lo).2 (Z9.2 (.inl ⟨Int.le_refl _,c.1 b qb⟩))) (Uw _)
  | a::s,[],hs,_,h=>absurd ((h a.Lo).1 (Z9.2 (.inl ⟨Int.le_refl _,hs.1 a qb⟩))) (Uw _)
  | a::s,b::t,hs,c,h=>by
    have m:=hs.1 a qb
    have hb:=c.1 b qb
    have lo : ∀ {a b : qm} {s t : List qm},Can (a::s)→Can (b::t)→(∀ x,has (a::s) x↔has (b::t) x)→b.Lo≤a.Lo:=by
      intro a b s t hs c h;rcases Z9.1 ((h a.Lo).1 (Z9.2 (.inl ⟨Int.le_refl _,hs.1 a qb⟩))) with d | d
      · exact d.1
      · have:=c.tail_gt d;have:=c.1 b qb;omega
    have j : a.Lo = b.Lo:=Int.le_antisymm (lo c hs fun x=>(h x).symm) (lo hs c h)
    have hi : ∀ {a b : qm} {s t : List qm},Can (a::s)→Can (b::t)→(∀ x,has (a::s) x↔has (b::t) x)→a.Lo = b.Lo→b.Hi≤a.Hi:=by
      intro a b s t hs c h e;have m:=hs.1 a qb;have hb:=c.1 b qb;refine Int.not_lt.1 fun k=>?_;rcases Z9.1 ((h a.Hi).2 (Z9.2 (.inl ⟨q6,k⟩))) with d | d
      · omega
      · have:=hs.tail_gt d;omega
    have l : a.Hi = b.Hi:=Int.le_antisymm (hi c hs (fun x=>(h x).symm) j.symm) (hi hs c h j)
    have e : a = b:=by cases a;cases b;simp at j l;simp [j,l]
    subst e
    congr 1
    refine q6h hs.tail c.tail fun x=>⟨fun g=>?_,fun g=>?_⟩
    · have d:=hs.tail_gt g
      rcases Z9.1 ((h x).1 (Z9.2 (.inr g))) with f | f
      · omega
      · exact f
    · have d:=c.tail_gt g
      rcases Z9.1 ((h x).2 (Z9.2 (.inr g))) with f | f
      · omega
      · exact f
theorem qk4 (t : qm) : q2e t = some (decide (vld t)):=by
  unfold q2e vld;by_cases a : t.Lo < t.Hi <;> by_cases b : -1000000≤t.Lo <;> by_cases c : t.Hi≤1000000 <;> simp [a,b,c]
open Classical in
noncomputable def Jr (s : List qm) : Int:=if 400 < s.length then 4 else if Good s then 0 else 8
def qe1 (s : List qm) (k : Nat) : Prop:=(∀ i (h : i < s.length),i < k→vld s[i])∧∀ i (h : i + 1 < s.length),i + 1 < k→s[i].Hi < s[i+1].Lo
theorem qn6 {s : List qm} (h : qe1 s s.length) : Good s:=by
  refine ⟨fun t d=>?_,?_⟩
  · obtain ⟨i,hi,rfl⟩:=List.mem_iff_getElem.1 d;exact h.1 i hi hi
  · have key : ∀ i j (hi : i < s.length) (a : j < s.length),i < j→s[i].Hi < s[j].Lo:=by
      intro i j hi a c
      induction j with
      | zero=>omega
      | succ j ih=>
        have b:=h.2 j a a;by_cases e : i = j
        · subst e;exact b
        · have f:=ih q6 q6;have g:=(h.1 j q6 q6).1;omega
    rw [List.pairwise_iff_getElem];exact key
theorem Good.get {s : List qm} (h : Good s) (i : Nat) (hi : i < s.length) : vld s[i]:=h.1 _ (Kw hi)
theorem Good.nxt {s : List qm} (h : Good s) (i j : Nat) (hi : i < s.length) (b : j < s.length) (a : i < j) : s[i].Hi < s[j].Lo:=List.pairwise_iff_getElem.1 h.2 i j hi b a
theorem qew (s : List qm) : qan s = some (Jr s):=by
  unfold qan Jr;by_cases n : 400 < s.length
  · have : decide ((s.length : Int) > 400) = true:=by simp;omega
    simp [this,n]
  · have hd : decide ((s.length : Int) > 400) = false:=by simp;omega
    simp only [hd,n,if_false,qv];have:=Yv (f:=q3u s) (σ:=Unit) (fun k _=>(k : Int)) s.length (fun k _=>qe1 s k) (fun b=>(b = .inl ()∧Good s)∨(b = .inr 8∧¬ Good s)) ?_ ?_ (k0:=0) (c0:=()) q6 ⟨fun i _ h=>q6,fun i _ h=>q6⟩
    · obtain ⟨b,l,g⟩:=this;have l : loop (q3u s) 0 = some b:=l;rw [l];rcases g with ⟨rfl,g⟩ | ⟨rfl,g⟩ <;> simp [g]
    · intro k _ m d;have hb : decide ((k : Int) < (s.length : Int)) = true:=by simp;omega
      simp only [q3u,hb,qw,Qp m,qj,qk4];have bad : ¬ Good s→∃ b,(some (Sum.inr (Sum.inr 8)) : Option (Int ⊕ (Unit ⊕ Int))) = some (.inr b)∧((b = .inl ()∧Good s)∨(b = .inr 8∧¬ Good s)):=fun h=>⟨_,rfl,.inr ⟨rfl,h⟩⟩
      by_cases a : vld s[k]
      · simp only [a,decide_true,Bool.not_true,qv];by_cases p : k = 0
        · subst p;refine .inl ⟨(),by simp [Qc],⟨fun i hi h=>?_,fun i hi h=>q6⟩⟩
          (obtain rfl : i = 0:=by omega)
          exact a
        · obtain ⟨j,rfl⟩ : ∃ j,k = j + 1:=⟨k - 1,q6⟩
          have hp : decide (((j + 1 : Nat) : Int) > 0) = true:=Q6 q6
          have o : idx s (w64 (((j + 1 : Nat) : Int) - 1)) = some (s[j]'(q6)):=by
            rw [Qc q6];exact Ux q6 q6
          simp only [hp,qw,o,qj];by_cases c : s[j].Hi < s[j+1].Lo
          · have : decide (s[j].Hi ≥ s[j+1].Lo) = false:=by simp;omega
            simp only [this,qv];rw [Qc q6];refine .inl ⟨(),rfl,⟨fun i hi h=>?_,fun i hi h=>?_⟩⟩
            · by_cases e : i = j + 1
              · subst e;exact a
              · exact d.1 i hi q6
            · by_cases e : i = j
              · subst e;exact c
              · exact d.2 i hi q6
          · have : decide (s[j].Hi ≥ s[j+1].Lo) = true:=by simp;omega
            simp only [this,qw];exact .inr (bad fun h=>c (h.nxt j (j + 1) q6 m q6))
      · simp only [a,decide_false,Bool.not_false,qw,qj];exact .inr (bad fun h=>a (h.get k m))
    · intro _ d;have hb : decide ((s.length : Int) < (s.length : Int)) = false:=by simp
      simp only [q3u,hb,qv];exact ⟨_,rfl,.inl ⟨rfl,qn6 d⟩⟩
theorem qqh : qid = q2e:=rfl
theorem qqd (s : List qm) : qd7 s = q3u s:=by
  funext a;unfold qd7 q3u;cases h : idx s a <;> simp [h,qqh]
theorem qqg (s : List qm) : qa2 s = some (Jr s):=by
  rw [← qew];unfold qa2 qan;rw [qqd]
open Classical in
theorem qib (s : List qm) (x : Int) (l : s.length≤1000000) : qa3 s x = some (decide (has s x)):=by
  have:=Yv (f:=q76 s x) (σ:=Unit) (fun k _=>(k : Int)) s.length (fun k _=>∀ i (h : i < s.length),i < k→¬ (s[i].Lo≤x∧x < s[i].Hi)) (fun b=>(b = .inl ()∧¬ has s x)∨(b = .inr true∧has s x)) ?_ ?_ (k0:=0) (c0:=()) q6 (fun i _ h=>q6)
  · obtain ⟨b,c,a⟩:=this;have c : loop (q76 s x) 0 = some b:=c;unfold qa3;rw [c];rcases a with ⟨rfl,a⟩ | ⟨rfl,a⟩ <;> simp [a]
  · intro k _ g d;have hb : decide ((k : Int) < (s.length : Int)) = true:=Q6 q6;simp only [q76,hb,qw,Qp g,qj];by_cases c : s[k].Lo≤x <;> by_cases a : x < s[k].Hi
    · exact .inr ⟨.inr true,by simp [c,a],.inr ⟨rfl,s[k],Kw g,c,a⟩⟩
    all_goals
      refine .inl ⟨(),by simp [c,a];exact Qc q6,fun i hi h=>?_⟩
      by_cases e : i = k
      · subst e;omega
      · exact d i hi q6
  · intro _ d;have hb : decide ((s.length : Int) < (s.length : Int)) = false:=Q9 q6;simp only [q76,hb,qv];refine ⟨_,rfl,.inl ⟨rfl,?_⟩⟩;rintro ⟨t,j,h⟩;obtain ⟨i,hi,rfl⟩:=List.mem_iff_getElem.1 j;exact d i hi hi h
end Go.Sh
namespace Go.Sh
open Go Go.Am
theorem qni (out : List Int) (v : Int) (b : Nat) (hb : b≤out.length) :
    (cpyw (out ++ [0]) (b + 1,(out ++ [0]).length - (b + 1)) ((((out ++ [0]).drop b).take ((out ++ [0]).length - b)))).set b v = out.take b ++ v::out.drop b:=by
  have a : ((out ++ [0]).drop b).take ((out ++ [0]).length - b) = (out ++ [0]).drop b:=List.take_of_length_le qb;rw [a];unfold cpyw splice;have j : (min ((out ++ [0]).drop b).length ((out ++ [0]).length - (b + 1))) = out.length - b:=by simp;omega
  simp only [j]
  have f : ((out ++ [0]).drop b).take (out.length - b) = out.drop b:=by
    rw [List.drop_append_of_le_length hb,List.take_append_of_le_length qb];exact List.take_of_length_le qb
  rw [f]
  have h : (out ++ [0]).drop (b + 1 + (out.drop b).length) = []:=by
    apply List.drop_of_length_le;simp;omega
  rw [h,List.append_nil]
  have g : ∃ y,(out ++ [0]).take (b + 1) = out.take b ++ [y]:=by
    refine ⟨(out ++ [0])[b]'(by simp;omega),?_⟩;rw [List.take_succ_eq_append_getElem (by simp;omega),List.take_append_of_le_length hb]
  obtain ⟨y,c⟩:=g
  have key : ∀ (xs ys : List Int) (y v : Int),(xs ++ (y::ys)).set xs.length v = xs ++ v::ys:=by
    intro xs ys y v
    induction xs with
    | nil=>rfl
    | cons x xs ih=>simp [ih]
  have d : (out.take b).length = b:=by simp;omega
  rw [c,List.append_assoc];have:=key (out.take b) (out.drop b) y v;rw [d] at this;exact this
def Yj (l out : List Int) : Prop:=out.Pairwise (· < ·)∧∀ x,x∈out↔x∈l
theorem qwe (a : Int × List Int) (l : List Int) (i : Nat) (hi : i < l.length) (q : a.1 = i) (n : a.2.length≤1000000) (hs : a.2.Pairwise (· < ·)) :
    ∃ b : Int,loop (q31 a l) (a.2.length : Int) = some b∧∃ k : Nat,b = k∧k≤a.2.length∧(∀ j (h : j < a.2.length),k≤j→l[i] < a.2[j])∧(∀ j (h : j < a.2.length),j < k→a.2[j]≤l[i]):=by
  refine qnz (fun b : Int=>∃ k : Nat,b = k∧k≤a.2.length∧(∀ j (h : j < a.2.length),k≤j→l[i] < a.2[j])) (fun b=>b.toNat) _ ?_ ⟨a.2.length,rfl,q6,fun j h d=>q6⟩;rintro b ⟨k,rfl,r,c⟩
  cases k with
  | zero=>
    refine .inr ⟨0,?_,0,rfl,q6,c,fun j h d=>q6⟩;simp [q31]
  | succ k=>
    have p : decide (((k + 1 : Nat) : Int) > 0) = true:=Q6 q6;have m : idx a.2 (w64 (((k + 1 : Nat) : Int) - 1)) = some (a.2[k]'(q6)):=by rw [Qc q6];exact Ux q6 q6
    have o : idx l a.1 = some l[i]:=by rw [q];exact Qp hi
    have f : k < a.2.length:=by omega
    by_cases g : a.2[k] > l[i]
    · refine .inl ⟨(k : Int),?_,⟨k,rfl,q6,fun j h d=>?_⟩,qb⟩
      · simp only [q31,p,m,o,qw,qj,g,decide_true];rw [Qc q6];congr 2;omega
      · by_cases e : j = k
        · subst e;exact g
        · exact c j h q6
    · refine .inr ⟨((k + 1 : Nat) : Int),?_,k + 1,rfl,r,c,fun j h d=>?_⟩
      · simp only [q31,p,m,o,qw,qj,g,decide_false,qv]
      · by_cases e : j = k
        · subst e;omega
        · have : a.2[j] < a.2[k]:=List.pairwise_iff_getElem.1 hs j k h f q6;omega
theorem qk0 {l out : List Int} {v : Int} {i : Nat} (hi : i < l.length) (c : l[i] = v) (h : Yj (l.take i) out) (a : List Int) (hs : a.Pairwise (· < ·)) (b : ∀ x,x∈a↔x∈out∨x = v) : Yj (l.take (i + 1)) a:=by
  refine ⟨hs,fun x=>?_⟩;rw [b,h.2,List.take_succ_eq_append_getElem hi];simp [c]
theorem qjt (l : List Int) (hl : l.length≤1000000) : ∃ t,J9 l = some t∧Yj l t∧t.length≤l.length:=by
  have:=Yv (f:=q30 l) (σ:=List Int) (fun k c=>((k : Int),c)) l.length (fun k c=>Yj (l.take k) c∧c.length≤k) (fun t=>Yj l t∧t.length≤l.length) ?_ ?_ (k0:=0) (c0:=[]) q6 ⟨⟨.nil,qb⟩,qb⟩
  · obtain ⟨b,g,q⟩:=this;have g : loop (q30 l) (0,[]) = some b:=g;exact ⟨b,by unfold J9;rw [g];rfl,q⟩
  · intro k c hk a;obtain ⟨a,aj⟩:=a;have hb : decide ((k : Int) < (l.length : Int)) = true:=Q6 q6;obtain ⟨b,w,j,rfl,hj,o,p⟩:=qwe ((k : Int),c) l k hk rfl (by simp;omega) a.1;simp only at hj o p w;refine .inl ?_;simp only [q30,hb,qw,w,qj,Qp hk];have hw : w64 ((k : Int) + 1) = ((k + 1 : Nat) : Int):=by rw [Qc q6];omega
    by_cases n : 0 < j∧∃ h : j - 1 < c.length,c[j-1] = l[k]
    · obtain ⟨v,d,he⟩:=n;have s : decide ((j : Int) > 0) = true:=Q6 q6;have g : idx c (w64 ((j : Int) - 1)) = some (c[j-1]):=by rw [Qc q6];exact Ux q6 d
      refine ⟨c,by simp only [s,g,qw,qj,he,beq_self_eq_true,hw],?_,q6⟩;refine qk0 hk rfl a c a.1 fun x=>⟨.inl,?_⟩
      rintro (h | rfl)
      · exact h
      · rw [← he];exact Kw d
    · have hc : (cond (decide ((j : Int) > 0)) ((idx c (w64 ((j : Int) - 1))).bind fun u=>some (u == l[k])) (some false)) = some false:=by
        by_cases v : 0 < j
        · have d : j - 1 < c.length:=by omega
          have s : decide ((j : Int) > 0) = true:=Q6 q6;have g : idx c (w64 ((j : Int) - 1)) = some (c[j-1]):=by rw [Qc q6];exact Ux q6 d
          simp only [s,g,qw,qj];have : c[j-1]≠l[k]:=fun e=>n ⟨v,d,e⟩;simp [this]
        · have s : decide ((j : Int) > 0) = false:=Q9 q6;simp only [s,qv]
      have ac : app 8 c [0] = some (c ++ [0]):=Ku (by simp;omega)
      have ae : sub2 (c ++ [0]).length (w64 ((j : Int) + 1)) ((c ++ [0]).length : Int) = some (j + 1,(c ++ [0]).length - (j + 1)):=by
        rw [Qc q6];unfold sub2;rw [qp ⟨q6,by simp;omega,q6⟩];congr 2
      have af : sub2 (c ++ [0]).length (j : Int) ((c ++ [0]).length : Int) = some (j,(c ++ [0]).length - j):=by
        unfold sub2;rw [qp ⟨q6,by simp;omega,q6⟩];congr 2
      simp only [hc,qj,qv,ac,ae,af]
      have r : j < (cpyw (c ++ [0]) (j + 1,(c ++ [0]).length - (j + 1)) (((c ++ [0]).drop j).take ((c ++ [0]).length - j))).length:=by
        rw [qfg (by simp;omega)];simp;omega
      rw [Qp r];simp only [qj,Int.toNat_natCast,qni c l[k] j hj,hw];refine ⟨_,rfl,?_,by simp;omega⟩;refine qk0 hk rfl a _ ?_ fun x=>?_
      · rw [List.pairwise_append];refine ⟨a.1.sublist (List.take_sublist _ _),?_,?_⟩
        · rw [List.pairwise_cons];refine ⟨fun y hy=>?_,a.1.sublist (List.drop_sublist _ _)⟩;obtain ⟨i,hi,rfl⟩:=List.mem_iff_getElem.1 hy;rw [List.getElem_drop];exact o _ _ q6
        · intro y hy z hz;obtain ⟨i,hi,rfl⟩:=List.mem_iff_getElem.1 hy;rw [List.getElem_take];simp at hi;have g:=p i q6 q6;have q : c[i]≠l[k]∧c[i] < l[k]∨c[i] = l[k]:=by omega
          have h3 : c[i] < l[k]:=by
            rcases q with q | q
            · exact q.2
            · exfalso;by_cases e : i = j - 1
              · subst e;exact n ⟨q6,q6,q⟩
              · have : c[i] < c[j-1]'(q6):=List.pairwise_iff_getElem.1 a.1 i (j-1) q6 q6 q6;have:=p (j-1) q6 q6;omega
          rcases List.mem_cons.1 hz with rfl | hz
          · exact h3
          · obtain ⟨m,hm,rfl⟩:=List.mem_iff_getElem.1 hz;rw [List.getElem_drop];simp at hm;have:=o (j + m) q6 q6;omega
      · constructor
        · intro h;rcases List.mem_append.1 h with h | h
          · exact .inl (List.mem_of_mem_take h)
          · rcases List.mem_cons.1 h with h | h
            · exact .inr h
            · exact .inl (List.mem_of_mem_drop h)
        · rintro (h | rfl)
          · rw [← List.take_append_drop j c] at h;rcases List.mem_append.1 h with h | h
            · exact List.mem_append_left _ h
            · exact List.mem_append_right _ (List.mem_cons_of_mem _ h)
          · simp
  · intro c a;have hb : decide ((l.length : Int) < (l.length : Int)) = false:=Q9 q6;simp only [q30,hb,qv];refine ⟨_,rfl,by simpa using a.1,a.2⟩
def ends (s : List qm) : List Int:=s.flatMap fun t=>[t.Lo,t.Hi]
theorem q70 {s : List qm} {x : Int} : x∈ends s↔∃ t∈s,x = t.Lo∨x = t.Hi:=by simp [ends]
theorem qmh {s : List qm} {k : Nat} (h : k < s.length) : ends (s.take (k + 1)) = ends (s.take k) ++ [s[k].Lo,s[k].Hi]:=by
  unfold ends;rw [List.take_succ_eq_append_getElem h,List.flatMap_append];simp
theorem q9m (s : List qm) : (ends s).length = 2 * s.length:=by
  induction s with
  | nil=>rfl
  | cons t r ih=>simp only [ends,List.flatMap_cons,List.length_append,List.length_cons,List.length_nil] at ih ⊢;omega
theorem qfm (s : List qm) (c0 : List Int) (hs : s.length≤100000) (g : c0.length≤200000) : loop (q75 s) (0,c0) = some (c0 ++ ends s):=by
  have:=Yv (f:=q75 s) (σ:=List Int) (fun k c=>((k : Int),c)) s.length (fun k c=>c = c0 ++ ends (s.take k)) (fun t=>t = c0 ++ ends s) ?_ ?_ (k0:=0) (c0:=c0) q6 (by simp [ends])
  · obtain ⟨b,d,rfl⟩:=this;exact d
  · rintro k c a rfl;have hb : decide ((k : Int) < (s.length : Int)) = true:=Q6 q6;refine .inl ⟨c0 ++ ends (s.take (k + 1)),?_,rfl⟩;simp only [q75,hb,qw,Qp a,qj];rw [Ku (by simp [q9m];omega),Qc q6,qmh a];simp
  · rintro c rfl;have hb : decide ((s.length : Int) < (s.length : Int)) = false:=Q9 q6;simp [q75,hb]
theorem qmg (p q : List qm) (hp : p.length≤100000) (d : q.length≤100000) : ∃ t,qd8 p q = some t∧Yj (ends p ++ ends q) t∧t.length≤2 * (p.length + q.length):=by
  have b : loop (qia q) (0,ends p) = some (ends p ++ ends q):=qfm q (ends p) d (by rw [q9m];omega);obtain ⟨t,f,c,a⟩:=qjt (ends p ++ ends q) (by simp [q9m];omega);refine ⟨t,?_,c,by simp [q9m] at a;omega⟩;unfold qd8;rw [qfm p [] hp qb];simp only [List.nil_append,qj,b,f]
end Go.Sh
namespace Go.Sh
open Go Go.Am
def addS (c : List qm) (a b : Int) : List qm:=match c.getLast? with
  | some t=>if t.Hi = a then c.dropLast ++ [{Lo:=t.Lo,Hi:=b}] else c ++ [{Lo:=a,Hi:=b}]
  | none=>[{Lo:=a,Hi:=b}]
theorem qe5 (a b : Int) : addS [] a b = [{Lo:=a,Hi:=b}]:=rfl
theorem q97 {c : List qm} {t : qm} {b : Int} : addS (c ++ [t]) t.Hi b = c ++ [{Lo:=t.Lo,Hi:=b}]:=by simp [addS]
theorem q98 {c : List qm} {t : qm} {a b : Int} (h : t.Hi≠a) : addS (c ++ [t]) a b = (c ++ [t]) ++ [{Lo:=a,Hi:=b}]:=by simp [addS,h]
theorem qam {α : Type} (c : List α) : c = []∨∃ d t,c = d ++ [t]:=by
  rcases List.eq_nil_or_concat c with h | ⟨d,t,h⟩
  · exact .inl h
  · exact .inr ⟨d,t,by simpa using h⟩
theorem qbb {d : List qm} {t : qm} : Can (d ++ [t])↔Can d∧t.Lo < t.Hi∧∀ s∈d,s.Hi < t.Lo:=by
  unfold Can;constructor
  · rintro ⟨b,a⟩;rw [List.pairwise_append] at a;exact ⟨⟨fun s hs=>b s (by simp [hs]),a.1⟩,b t qb,fun s hs=>a.2.2 s hs t qb⟩
  · rintro ⟨⟨b,a⟩,g,f⟩;refine ⟨fun s hs=>?_,?_⟩
    · rcases List.mem_append.1 hs with hs | hs
      · exact b s hs
      · simp at hs;subst hs;exact g
    · rw [List.pairwise_append];exact ⟨a,qb,fun s hs u c=>by simp at c;subst c;exact f s hs⟩
theorem qc3 {d : List qm} {t : qm} {x : Int} : has (d ++ [t]) x↔has d x∨(t.Lo≤x∧x < t.Hi):=by
  rw [qnd,Z9];simp [Uw]
theorem qe6 {c : List qm} {a b : Int} (j : Can c) (h : ∀ t∈c,t.Hi≤a) (f : a < b) :
    Can (addS c a b)∧(∀ x,has (addS c a b) x↔has c x∨(a≤x∧x < b))∧(∀ t∈addS c a b,t.Hi≤b)∧(addS c a b).length≤c.length + 1∧
    (∀ t∈addS c a b,(t.Lo = a∨∃ u∈c,t.Lo = u.Lo)∧(t.Hi = b∨∃ u∈c,t.Hi = u.Hi)):=by
  rcases qam c with rfl | ⟨d,t,rfl⟩
  · rw [qe5];refine ⟨⟨by simpa using f,qb⟩,fun x=>?_,qb,qb,qb⟩;rw [Z9];simp [Uw]
  · have g:=qbb.1 j;have k : t.Hi≤a:=h t qb;by_cases e : t.Hi = a
    · subst e;rw [q97];refine ⟨qbb.2 ⟨g.1,by simp;omega,g.2.2⟩,fun x=>?_,fun s hs=>?_,qb,fun s hs=>?_⟩
      · rw [qc3,qc3];by_cases hd : has d x <;> simp only [hd,true_or,false_or] <;> omega
      · rcases List.mem_append.1 hs with hs | hs
        · have:=h s (by simp [hs]);omega
        · simp at hs;subst hs;simp
      · rcases List.mem_append.1 hs with hs | hs
        · exact ⟨.inr ⟨s,by simp [hs],rfl⟩,.inr ⟨s,by simp [hs],rfl⟩⟩
        · simp at hs;subst hs;exact ⟨.inr ⟨t,qb,rfl⟩,.inl rfl⟩
    · rw [q98 e];refine ⟨qbb.2 ⟨j,f,fun s hs=>?_⟩,fun x=>?_,fun s hs=>?_,qb,fun s hs=>?_⟩
      · rcases List.mem_append.1 hs with hs | hs
        · have:=g.2.2 s hs;simp only;omega
        · simp at hs;subst hs;simp only;omega
      · rw [qc3]
      · rcases List.mem_append.1 hs with hs | hs
        · have:=h s hs;omega
        · simp at hs;subst hs;simp
      · rcases List.mem_append.1 hs with hs | hs
        · exact ⟨.inr ⟨s,hs,rfl⟩,.inr ⟨s,hs,rfl⟩⟩
        · simp at hs;subst hs;exact ⟨.inl rfl,.inl rfl⟩
theorem qj6 {d : List qm} {t u : qm} : (d ++ [t]).set d.length u = d ++ [u]:=by
  induction d with
  | nil=>rfl
  | cons x d ih=>simp [ih]
structure qaw (cuts : List Int) (ins : List Bool) (k : Nat) (c : List qm) : Prop where
  can : Can c
  pts : ∀ x,has c x↔∃ i,∃ (h : i + 1 < cuts.length) (h' : i < ins.length),i < k∧ins[i] = true∧cuts[i]≤x∧x < cuts[i + 1]
  hi : ∀ t∈c,∃ (h : k < cuts.length),t.Hi≤cuts[k]
  len : c.length≤k
  ends : ∀ t∈c,t.Lo∈cuts∧t.Hi∈cuts
theorem qes (a : List Int) (g : List Bool) (hs : a.Pairwise (· < ·)) (hl : a.length≤1000000) (hi : a.length≤g.length + 1) :
    ∃ c,q2y a g = some c∧qaw a g (a.length - 1) c:=by
  have:=Yv (f:=q2z a g) (σ:=List qm) (fun k c=>((k : Int),c)) (a.length - 1) (fun k c=>qaw a g k c) (fun c=>qaw a g (a.length - 1) c) ?_ ?_ (k0:=0) (c0:=[]) q6
    ⟨⟨qb,qb⟩,fun x=>⟨fun h=>absurd h (Uw x),fun ⟨i,_,_,h,_⟩=>q6⟩,qb,qb,qb⟩
  · obtain ⟨b,l,n⟩:=this;have l : loop (q2z a g) (0,[]) = some b:=l;exact ⟨b,by unfold q2y;rw [l];rfl,n⟩
  · intro k c hk j;have hw : w64 ((k : Int) + 1) = ((k + 1 : Nat) : Int):=by rw [Qc q6];omega
    have m : k + 1 < a.length:=by omega
    have r : k < a.length:=by omega
    have ae : k < g.length:=by omega
    have hb : decide (((k + 1 : Nat) : Int) < (a.length : Int)) = true:=Q6 q6;refine .inl ?_;simp only [q2z,hw,hb,qw,Qp ae,Qp m,Qp r,qj];have ak : a[k] < a[k+1]:=List.pairwise_iff_getElem.1 hs k (k+1) r m q6;have af : ∀ t∈c,t.Hi≤a[k]:=fun t p=>(j.hi t p).2
    cases z : g[k] with
    | false=>
      refine ⟨c,qb,j.can,fun x=>?_,fun t p=>⟨m,by have:=af t p;omega⟩,by have:=j.len;omega,j.ends⟩;rw [j.pts];constructor
      · rintro ⟨i,l,n,h3,o⟩;exact ⟨i,l,n,q6,o⟩
      · rintro ⟨i,l,n,h3,o⟩;by_cases e : i = k
        · subst e;rw [z] at o;simp at o
        · exact ⟨i,l,n,q6,o⟩
    | true=>
      have q : (cond (!true) (some c) ((cond (decide ((c.length : Int) > 0)) ((idx c (w64 ((c.length : Int) - 1))).bind fun s=>some (s.Hi == a[k])) (some false)).bind fun w=>cond w ((idx c (w64 ((c.length : Int) - 1))).bind fun ac=>some (c.set (w64 ((c.length : Int) - 1)).toNat ({Lo:=ac.Lo,Hi:=a[k+1]} : qm))) ((app 16 c [({Lo:=a[k],Hi:=a[k+1]} : qm)]).bind fun ab=>some ab))) = some (addS c a[k] a[k+1]):=by
        have ad : ∀ y,app 16 c [y] = some (c ++ [y]):=fun y=>Ku (by have:=j.len;simp;omega);rcases qam c with rfl | ⟨d,t,rfl⟩
        · simp [ad,addS]
        · have h0 : decide ((((d ++ [t]).length : Nat) : Int) > 0) = true:=Q6 (by rw [List.length_append,List.length_singleton];omega);have ai:=j.len;have v : (((d ++ [t]).length : Nat) : Int) = d.length + 1:=by simp
          have ao : d.length + 1≤k:=by simpa using ai
          have l : w64 (((d ++ [t]).length : Int) - 1) = (d.length : Int):=by rw [v,Qc q6];omega
          have n : idx (d ++ [t]) (d.length : Int) = some t:=by rw [Qp qb];simp
          simp only [Bool.not_true,qv,h0,qw,l,n,qj,Int.toNat_natCast,qj6,ad];by_cases e : t.Hi = a[k]
          · simp [e,← q97]
          · have e' : (t.Hi == a[k]) = false:=by simpa using e
            simp only [e',qv,q98 e]
      rw [q];obtain ⟨a1,a2,a3,a4,a5⟩:=qe6 j.can af ak;refine ⟨_,rfl,a1,fun x=>?_,fun t p=>⟨m,a3 t p⟩,by have:=j.len;omega,fun t p=>?_⟩
      · rw [a2,j.pts];constructor
        · rintro (⟨i,l,n,h3,o⟩ | h)
          · exact ⟨i,l,n,q6,o⟩
          · exact ⟨k,m,ae,q6,z,h⟩
        · rintro ⟨i,l,n,h3,o⟩;by_cases e : i = k
          · subst e;exact .inr o.2
          · exact .inl ⟨i,l,n,q6,o⟩
      · obtain ⟨b1,b2⟩:=a5 t p;constructor
        · rcases b1 with b1 | ⟨u,hu,b1⟩
          · rw [b1];exact Kw r
          · rw [b1];exact (j.ends u hu).1
        · rcases b2 with b2 | ⟨u,hu,b2⟩
          · rw [b2];exact Kw m
          · rw [b2];exact (j.ends u hu).2
  · intro c j;refine ⟨c,?_,j⟩
    have hw : decide (w64 (((a.length - 1 : Nat) : Int) + 1) < (a.length : Int)) = false:=by
      rw [Qc q6];exact Q9 q6
    simp only [q2z,hw,qv]
def Kz (kind : Int) (a b : Prop) : Prop:=(kind = 1∧a∧b)∨(kind = 2∧(a∨b))∨(kind≠1∧kind≠2∧a∧¬ b)
open Classical in
theorem qgo (kind : Int) (a b : Prop) : q4o kind (decide a) (decide b) = some (decide (Kz kind a b)):=by
  unfold q4o Kz;by_cases d : kind = 1
  · subst d;by_cases c : a <;> by_cases hb : b <;> simp [c,hb]
  · by_cases f : kind = 2
    · subst f;by_cases c : a <;> by_cases hb : b <;> simp [c,hb]
    · have g : (kind == 1) = false:=by simpa using d
      have h : (kind == 2) = false:=by simpa using f
      by_cases c : a <;> by_cases hb : b <;> simp [c,hb,d,f,g,h]
theorem q25 {c : List Int} (hs : c.Pairwise (· < ·)) {p : List qm} (m : ∀ x∈ends p,x∈c) {i : Nat} (h : i + 1 < c.length) {x : Int} (r : c[i]≤x) (s : x < c[i + 1]) : has p x↔has p c[i]:=by
  have mono : ∀ a b (f : a < c.length) (hb : b < c.length),c[a] < c[b]→a < b:=by
    intro a b f hb o;refine Nat.not_le.1 fun l=>?_;by_cases e : a = b
    · subst e;omega
    · have:=List.pairwise_iff_getElem.1 hs b a hb f q6;omega
  have d : ∀ a b (f : a < c.length) (hb : b < c.length),a≤b→c[a]≤c[b]:=by
    intro a b f hb l;by_cases e : a = b
    · subst e;omega
    · have:=List.pairwise_iff_getElem.1 hs a b f hb q6;omega
  constructor
  · rintro ⟨t,g,q,n⟩;refine ⟨t,g,?_,q6⟩;obtain ⟨j,k,e⟩:=List.mem_iff_getElem.1 (m t.Lo (q70.2 ⟨t,g,.inl rfl⟩));have:=mono j (i + 1) k h q6;have:=d j i k q6 q6;omega
  · rintro ⟨t,g,q,n⟩;refine ⟨t,g,q6,?_⟩;obtain ⟨j,k,e⟩:=List.mem_iff_getElem.1 (m t.Hi (q70.2 ⟨t,g,.inr rfl⟩));have:=mono i j q6 k q6;have:=d (i + 1) j h k q6;omega
theorem q9r {c : List Int} (hs : c.Pairwise (· < ·)) {p : List qm} (m : ∀ x∈ends p,x∈c) {x : Int} (h : has p x) : ∃ i,∃ (h : i + 1 < c.length),c[i]≤x∧x < c[i + 1]:=by
  obtain ⟨t,k,s,r⟩:=h;obtain ⟨a,g,u⟩:=List.mem_iff_getElem.1 (m t.Lo (q70.2 ⟨t,k,.inl rfl⟩));obtain ⟨b,hb,v⟩:=List.mem_iff_getElem.1 (m t.Hi (q70.2 ⟨t,k,.inr rfl⟩))
  have key : ∀ n j (l : j < c.length),j + n = b→c[j]≤x→∃ i,∃ (h : i + 1 < c.length),c[i]≤x∧x < c[i + 1]:=by
    intro n
    induction n with
    | zero=>intro j l e f;simp at e;subst e;omega
    | succ n ih=>
      intro j l e f;by_cases q : x < c[j+1]'(q6)
      · exact ⟨j,q6,f,q⟩
      · exact ih (j + 1) q6 q6 q6
  have o : a≤b:=by
    refine Nat.not_lt.1 fun d=>?_;have:=List.pairwise_iff_getElem.1 hs b a hb g d;omega
  exact key (b - a) a g q6 q6
structure qay (kind : Int) (p q out : List qm) : Prop where
  can : Can out
  pts : ∀ x,has out x↔Kz kind (has p x) (has q x)
  ends : ∀ t∈out,(t.Lo∈ends p∨t.Lo∈ends q)∧(t.Hi∈ends p∨t.Hi∈ends q)
  len : out.length≤2 * (p.length + q.length)
open Classical in
theorem qnr (a : List Int) (p q : List qm) (kind : Int) (j : a.length≤1000000) (hp : p.length≤100000) (h : q.length≤100000) :
    loop (q77 a p q kind) (0,[]) = some (a.map fun x=>decide (Kz kind (has p x) (has q x))):=by
  have:=Yv (f:=q77 a p q kind) (σ:=List Bool) (fun k c=>((k : Int),c)) a.length (fun k c=>c = (a.take k).map fun x=>decide (Kz kind (has p x) (has q x))) (fun t=>t = a.map fun x=>decide (Kz kind (has p x) (has q x))) ?_ ?_ (k0:=0) (c0:=[]) q6 qb
  · obtain ⟨b,g,rfl⟩:=this;exact g
  · rintro k c d rfl;have hb : decide ((k : Int) < (a.length : Int)) = true:=Q6 q6;refine .inl ⟨_,?_,rfl⟩;simp only [q77,hb,qw,Qp d,qj,qib p _ (by omega : p.length≤1000000),qib q _ (by omega : q.length≤1000000),qgo];rw [Ku (by simp;omega),Qc q6,List.take_succ_eq_append_getElem d,List.map_append];rfl
  · rintro c rfl;have hb : decide ((a.length : Int) < (a.length : Int)) = false:=Q9 q6;simp [q77,hb]
open Classical in
theorem qns (kind : Int) (p q : List qm) (hp : p.length≤100000) (s : q.length≤100000) : ∃ out,qa4 kind p q = some out∧qay kind p q out:=by
  obtain ⟨d,u,⟨hs,l⟩,r⟩:=qmg p q hp s;obtain ⟨c,w,k⟩:=qes d (d.map fun x=>decide (Kz kind (has p x) (has q x))) hs q6 (by rw [List.length_map];omega);refine ⟨c,?_,k.can,fun x=>?_,fun t v=>?_,by have:=k.len;omega⟩
  · unfold qa4;rw [u];simp only [qj,qnr d p q kind q6 hp s,w]
  · have mp : ∀ x∈ends p,x∈d:=fun x n=>(l x).2 (List.mem_append_left _ n);have mq : ∀ x∈ends q,x∈d:=fun x n=>(l x).2 (List.mem_append_right _ n);rw [k.pts];constructor
    · rintro ⟨i,f,y,_,o,g,j⟩;simp only [List.getElem_map,decide_eq_true_eq] at o;rw [q25 hs mp f g j,q25 hs mq f g j];exact o
    · intro h
      have m : has p x∨has q x:=by
        rcases h with ⟨_,h,_⟩ | ⟨_,h⟩ | ⟨_,_,h,_⟩
        · exact .inl h
        · exact h
        · exact .inl h
      obtain ⟨i,f,g,j⟩ : ∃ i,∃ (h : i + 1 < d.length),d[i]≤x∧x < d[i + 1]:=m.elim (q9r hs mp) (q9r hs mq);refine ⟨i,f,by rw [List.length_map];omega,q6,?_,g,j⟩;simp only [List.getElem_map,decide_eq_true_eq];rw [← q25 hs mp f g j,← q25 hs mq f g j];exact h
  · obtain ⟨a,b⟩:=k.ends t v;exact ⟨List.mem_append.1 ((l _).1 a),List.mem_append.1 ((l _).1 b)⟩
end Go.Sh
namespace Go.Sh
open Go Go.Am
def q4e : ByteArray:=⟨#[0,1,2,2,3,3,3,3,4,4,4,4,4,4,4,4,5,5,5,5,5,5,5,5,5,5,5,5,5,5,5,5,6,6,6,6,6,6,6,6,6,6,6,6,6,6,6,6,6,6,6,6,6,6,6,6,6,6,6,6,6,6,6,6,7,7,7,7,7,7,7,7,7,7,7,7,7,7,7,7,7,7,7,7,7,7,7,7,7,7,7,7,7,7,7,7,7,7,7,7,7,7,7,7,7,7,7,7,7,7,7,7,7,7,7,7,7,7,7,7,7,7,7,7,7,7,7,7,8,8,8,8,8,8,8,8,8,8,8,8,8,8,8,8,8,8,8,8,8,8,8,8,8,8,8,8,8,8,8,8,8,8,8,8,8,8,8,8,8,8,8,8,8,8,8,8,8,8,8,8,8,8,8,8,8,8,8,8,8,8,8,8,8,8,8,8,8,8,8,8,8,8,8,8,8,8,8,8,8,8,8,8,8,8,8,8,8,8,8,8,8,8,8,8,8,8,8,8,8,8,8,8,8,8,8,8,8,8,8,8,8,8,8,8,8,8,8,8,8,8,8,8,8,8,8,8]⟩
noncomputable def q2p (p0 : Int) : Option Int:=
  (cond (decide (p0 ≥ 4294967296)) (some (Int.fdiv p0 (2 ^ 32),32)) (some (p0,0))).bind fun b3=>(cond (decide (b3.1 ≥ 65536)) (some (Int.fdiv b3.1 (2 ^ 16),w64 (b3.2 + 16))) (some (b3.1,b3.2))).bind fun b6=>(cond (decide (b6.1 ≥ 256)) (some (Int.fdiv b6.1 (2 ^ 8),w64 (b6.2 + 8))) (some (b6.1,b6.2))).bind fun b9=>(q3x q4e (IntKind.wrap .u8 b9.1)).bind fun v10=>some (w64 (b9.2 + (w64 v10)))
noncomputable def Ul (p0 : Int) : Option Int:=
  (q2p p0).bind fun r1=>some r1
noncomputable def Jg {T : Type} (p1 : Int) (q1 : T→T→Option Int) (a459 : Int × List T) : Option ((Int × List T) ⊕ (List T)):=
  (cond (decide (a459.1 > p1)) ((idx a459.2 a459.1).bind fun v484=>(idx a459.2 (w64 (a459.1 - 1))).bind fun v486=>(q1 v484 v486).bind fun r488=>some (decide (r488 < 0))) (some false)).bind fun c469=>cond c469 ((idx a459.2 (w64 (a459.1 - 1))).bind fun v498=>(idx a459.2 a459.1).bind fun v500=>(idx a459.2 a459.1).bind fun v502=>(idx (a459.2.set a459.1.toNat v498) (w64 (a459.1 - 1))).bind fun v504=>some (.inl (w64 (a459.1 - 1),(a459.2.set a459.1.toNat v498).set (w64 (a459.1 - 1)).toNat v500))) (some (.inr a459.2))
noncomputable def Up {T : Type} (p2 : Int) (p1 : Int) (q1 : T→T→Option Int) (a278 : Int × List T) : Option ((Int × List T) ⊕ (List T)):=
  cond (decide (a278.1 < p2)) (((loop (Jg p1 q1) (a278.1,a278.2)).bind fun x0=>some x0).bind fun b370=>some (.inl (w64 (a278.1 + 1),b370))) (some (.inr a278.2))
noncomputable def q1l {T : Type} (q1 : T→T→Option Int) (p0 : List T) (p1 : Int) (p2 : Int) : Option (List T):=
  (loop (Up p2 p1 q1) (w64 (p1 + 1),p0)).bind fun x0=>some x0
noncomputable def Jj {T : Type} (p2 : Int) (p3 : Int) (q1 : T→T→Option Int) (a197 : Int × List T) : Option ((Int × List T) ⊕ (List T)):=
  cond (decide ((w64 ((w64 (2 * a197.1)) + 1)) ≥ p2)) (some (.inr a197.2)) ((cond (decide ((w64 ((w64 ((w64 (2 * a197.1)) + 1)) + 1)) < p2)) ((idx a197.2 (w64 (p3 + (w64 ((w64 (2 * a197.1)) + 1))))).bind fun v226=>(idx a197.2 (w64 ((w64 (p3 + (w64 ((w64 (2 * a197.1)) + 1)))) + 1))).bind fun v228=>(q1 v226 v228).bind fun r230=>some (decide (r230 < 0))) (some false)).bind fun c207=>(cond c207 (some (w64 ((w64 ((w64 (2 * a197.1)) + 1)) + 1))) (some (w64 ((w64 (2 * a197.1)) + 1)))).bind fun b234=>(idx a197.2 (w64 (p3 + a197.1))).bind fun v235=>(idx a197.2 (w64 (p3 + b234))).bind fun v237=>(q1 v235 v237).bind fun r239=>cond (!(decide (r239 < 0))) (some (.inr a197.2)) ((idx a197.2 (w64 (p3 + b234))).bind fun v241=>(idx a197.2 (w64 (p3 + a197.1))).bind fun v243=>(idx a197.2 (w64 (p3 + a197.1))).bind fun v245=>(idx (a197.2.set (w64 (p3 + a197.1)).toNat v241) (w64 (p3 + b234))).bind fun v247=>some (.inl (b234,(a197.2.set (w64 (p3 + a197.1)).toNat v241).set (w64 (p3 + b234)).toNat v243))))
noncomputable def U2 {T : Type} (q1 : T→T→Option Int) (p0 : List T) (p1 : Int) (p2 : Int) (p3 : Int) : Option (List T):=
  (loop (Jj p2 p3 q1) (p1,p0)).bind fun x0=>some x0
noncomputable def Un {T : Type} (q1 : T→T→Option Int) (p2 : Int) (p1 : Int) (a123 : Int × List T) : Option ((Int × List T) ⊕ (List T)):=
  cond (decide (a123.1 ≥ 0)) ((U2 q1 a123.2 a123.1 (w64 (p2 - p1)) p1).bind fun e132=>(Qw e132.length a123.2.length).bind fun u134=>some (.inl (w64 (a123.1 - 1),e132))) (some (.inr a123.2))
noncomputable def Uo {T : Type} (p1 : Int) (q1 : T→T→Option Int) (a191 : Int × List T) : Option ((Int × List T) ⊕ (List T)):=
  cond (decide (a191.1 ≥ 0)) ((idx a191.2 (w64 (p1 + a191.1))).bind fun v208=>(idx a191.2 p1).bind fun v210=>(idx a191.2 p1).bind fun v212=>(idx (a191.2.set p1.toNat v208) (w64 (p1 + a191.1))).bind fun v214=>(U2 q1 ((a191.2.set p1.toNat v208).set (w64 (p1 + a191.1)).toNat v210) 0 a191.1 p1).bind fun e216=>(Qw e216.length ((a191.2.set p1.toNat v208).set (w64 (p1 + a191.1)).toNat v210).length).bind fun u218=>some (.inl (w64 (a191.1 - 1),e216))) (some (.inr a191.2))
noncomputable def q1k {T : Type} (q1 : T→T→Option Int) (p0 : List T) (p1 : Int) (p2 : Int) : Option (List T):=
  (loop (Un q1 p2 p1) (w64 (Int.tdiv (w64 ((w64 (p2 - p1)) - 1)) 2),p0)).bind fun b126=>(loop (Uo p1 q1) (w64 ((w64 (p2 - p1)) - 1),b126)).bind fun x0=>some x0
noncomputable def q1m (p0 : Int) : Option Int:=
  (Ul (IntKind.wrap .u64 p0)).bind fun r1=>(shlK .u64 1 r1).bind fun q3=>some q3
noncomputable def q1q (p0 : Int) : Option Int:=
  some (xorI .u64 (xorI .u64 (xorI .u64 p0 (IntKind.wrap .u64 (p0 * (2 ^ 13)))) (Int.fdiv (xorI .u64 p0 (IntKind.wrap .u64 (p0 * (2 ^ 13)))) (2 ^ 7))) (IntKind.wrap .u64 ((xorI .u64 (xorI .u64 p0 (IntKind.wrap .u64 (p0 * (2 ^ 13)))) (Int.fdiv (xorI .u64 p0 (IntKind.wrap .u64 (p0 * (2 ^ 13)))) (2 ^ 7))) * (2 ^ 17))))
noncomputable def Jt {T : Type} (p1 : Int) (p2 : Int) (r101 : Int) (a153 : Int × List T × Int) : Option ((Int × List T × Int) ⊕ (List T)):=
  cond (decide (a153.1≤(w64 ((w64 (p1 + (w64 ((w64 (Int.tdiv (w64 (p2 - p1)) 4)) * 2)))) + 1)))) ((q1q a153.2.2).bind fun e168=>(cond (decide ((w64 (andI .u64 e168 (IntKind.wrap .u64 (r101 - 1)))) ≥ (w64 (p2 - p1)))) (some (w64 ((w64 (andI .u64 e168 (IntKind.wrap .u64 (r101 - 1)))) - (w64 (p2 - p1))))) (some (w64 (andI .u64 e168 (IntKind.wrap .u64 (r101 - 1)))))).bind fun b172=>(idx a153.2.1 (w64 (p1 + b172))).bind fun v173=>(idx a153.2.1 a153.1).bind fun v175=>(idx a153.2.1 a153.1).bind fun v177=>(idx (a153.2.1.set a153.1.toNat v173) (w64 (p1 + b172))).bind fun v179=>some (.inl (w64 (a153.1 + 1),(a153.2.1.set a153.1.toNat v173).set (w64 (p1 + b172)).toNat v175,e168))) (some (.inr a153.2.1))
noncomputable def Um {T : Type} (q1 : T→T→Option Int) (p0 : List T) (p1 : Int) (p2 : Int) : Option (List T):=
  cond (decide ((w64 (p2 - p1)) ≥ 8)) ((q1m (w64 (p2 - p1))).bind fun r101=>(loop (Jt p1 p2 r101) (w64 ((w64 (p1 + (w64 ((w64 (Int.tdiv (w64 (p2 - p1)) 4)) * 2)))) - 1),p0,IntKind.wrap .u64 (w64 (p2 - p1)))).bind fun x0=>some x0) (some p0)
noncomputable def Jv {T : Type} (q1 : T→T→Option Int) (p0 : List T) (p1 : Int) (p2 : Int) (p3 : Int) : Option (Int × Int × Int):=
  (idx p0 p2).bind fun v101=>(idx p0 p1).bind fun v103=>(q1 v101 v103).bind fun r105=>cond (decide (r105 < 0)) (some (p2,p1,w64 (p3 + 1))) (some (p1,p2,p3))
noncomputable def Ju {T : Type} (q1 : T→T→Option Int) (p0 : List T) (p1 : Int) (p2 : Int) (p3 : Int) (p4 : Int) : Option (Int × Int):=
  (Jv q1 p0 p1 p2 p4).bind fun e101=>(Jv q1 p0 e101.2.1 p3 e101.2.2).bind fun e103=>(Jv q1 p0 e101.1 e103.1 e103.2.2).bind fun e105=>some (e105.2.1,e105.2.2)
noncomputable def Jh {T : Type} (q1 : T→T→Option Int) (p0 : List T) (p1 : Int) (p2 : Int) : Option (Int × Int):=
  (Ju q1 p0 (w64 (p1 - 1)) p1 (w64 (p1 + 1)) p2).bind fun e101=>some (e101.1,e101.2)
noncomputable def q1j {T : Type} (p0 : List T) (p1 : Int) (p2 : Int) (p3 : T→T→Option Int) : Option (Int × Int):=
  (cond (decide ((w64 (p2 - p1)) ≥ 8)) ((cond (decide ((w64 (p2 - p1)) ≥ 50)) ((Jh p3 p0 (w64 (p1 + (w64 ((w64 (Int.tdiv (w64 (p2 - p1)) 4)) * 1)))) 0).bind fun e25=>(Jh p3 p0 (w64 (p1 + (w64 ((w64 (Int.tdiv (w64 (p2 - p1)) 4)) * 2)))) e25.2).bind fun e27=>(Jh p3 p0 (w64 (p1 + (w64 ((w64 (Int.tdiv (w64 (p2 - p1)) 4)) * 3)))) e27.2).bind fun e29=>some (e25.1,e27.1,e29.1,e29.2)) (some (w64 (p1 + (w64 ((w64 (Int.tdiv (w64 (p2 - p1)) 4)) * 1))),w64 (p1 + (w64 ((w64 (Int.tdiv (w64 (p2 - p1)) 4)) * 2))),w64 (p1 + (w64 ((w64 (Int.tdiv (w64 (p2 - p1)) 4)) * 3))),0))).bind fun b24=>(Ju p3 p0 b24.1 b24.2.1 b24.2.2.1 b24.2.2.2).bind fun e31=>some (e31.1,e31.2)) (some (w64 (p1 + (w64 ((w64 (Int.tdiv (w64 (p2 - p1)) 4)) * 2))),0))).bind fun b15=>cond (b15.2 == 0) (some (b15.1,1)) (cond (b15.2 == 12) (some (b15.1,2)) (some (b15.1,0)))
noncomputable def q1p {T : Type} (a119 : Int × Int × List T) : Option ((Int × Int × List T) ⊕ (List T)):=
  cond (decide (a119.1 < a119.2.1)) ((idx a119.2.2 a119.2.1).bind fun v123=>(idx a119.2.2 a119.1).bind fun v125=>(idx a119.2.2 a119.1).bind fun v127=>(idx (a119.2.2.set a119.1.toNat v123) a119.2.1).bind fun v129=>some (.inl (w64 (a119.1 + 1),w64 (a119.2.1 - 1),(a119.2.2.set a119.1.toNat v123).set a119.2.1.toNat v125))) (some (.inr a119.2.2))
noncomputable def Uu {T : Type} (q1 : T→T→Option Int) (p0 : List T) (p1 : Int) (p2 : Int) : Option (List T):=
  (loop q1p (p1,w64 (p2 - 1),p0)).bind fun x0=>some x0
noncomputable def Jw {T : Type} (p2 : Int) (a438 : Int × Int × List T) (q1 : T→T→Option Int) (a681 : Int) : Option ((Int) ⊕ (Int)):=
  (cond (decide (a681 < p2)) ((idx a438.2.2 a681).bind fun v707=>(idx a438.2.2 (w64 (a681 - 1))).bind fun v709=>(q1 v707 v709).bind fun r711=>some (!(decide (r711 < 0)))) (some false)).bind fun c691=>cond c691 (some (.inl (w64 (a681 + 1)))) (some (.inr a681))
noncomputable def Jx {T : Type} (q1 : T→T→Option Int) (a838 : Int × List T) : Option ((Int × List T) ⊕ (List T)):=
  cond (decide (a838.1 ≥ 1)) ((idx a838.2 a838.1).bind fun v856=>(idx a838.2 (w64 (a838.1 - 1))).bind fun v858=>(q1 v856 v858).bind fun r860=>cond (!(decide (r860 < 0))) (some (.inr a838.2)) ((idx a838.2 (w64 (a838.1 - 1))).bind fun v862=>(idx a838.2 a838.1).bind fun v864=>(idx a838.2 a838.1).bind fun v866=>(idx (a838.2.set a838.1.toNat v862) (w64 (a838.1 - 1))).bind fun v868=>some (.inl (w64 (a838.1 - 1),(a838.2.set a838.1.toNat v862).set (w64 (a838.1 - 1)).toNat v864)))) (some (.inr a838.2))
noncomputable def Jy {T : Type} (p2 : Int) (q1 : T→T→Option Int) (b684 : Int) (a928 : Int × List T) : Option ((Int × List T) ⊕ (Int × List T)):=
  cond (decide (a928.1 < p2)) ((idx a928.2 a928.1).bind fun v946=>(idx a928.2 (w64 (a928.1 - 1))).bind fun v948=>(q1 v946 v948).bind fun r950=>cond (!(decide (r950 < 0))) (some (.inr (b684,a928.2))) ((idx a928.2 (w64 (a928.1 - 1))).bind fun v952=>(idx a928.2 a928.1).bind fun v954=>(idx a928.2 a928.1).bind fun v956=>(idx (a928.2.set a928.1.toNat v952) (w64 (a928.1 - 1))).bind fun v958=>some (.inl (w64 (a928.1 + 1),(a928.2.set a928.1.toNat v952).set (w64 (a928.1 - 1)).toNat v954)))) (some (.inr (b684,a928.2)))
noncomputable def Zg {T : Type} (p2 : Int) (q1 : T→T→Option Int) (p1 : Int) (a438 : Int × Int × List T) : Option ((Int × Int × List T) ⊕ ((List T) ⊕ (Bool × List T))):=
  cond (decide (a438.2.1 < 5)) (((loop (Jw p2 a438 q1) a438.1).bind fun b684=>cond (b684 == p2) (some (.inr (true,a438.2.2))) (cond (decide ((w64 (p2 - p1)) < 50)) (some (.inr (false,a438.2.2))) ((idx a438.2.2 (w64 (b684 - 1))).bind fun v713=>(idx a438.2.2 b684).bind fun v715=>(idx a438.2.2 b684).bind fun v717=>(idx (a438.2.2.set b684.toNat v713) (w64 (b684 - 1))).bind fun v719=>(cond (decide ((w64 (b684 - p1)) ≥ 2)) ((loop (Jx q1) (w64 (b684 - 1),(a438.2.2.set b684.toNat v713).set (w64 (b684 - 1)).toNat v715)).bind fun x0=>some x0) (some ((a438.2.2.set b684.toNat v713).set (w64 (b684 - 1)).toNat v715))).bind fun b779=>cond (decide ((w64 (p2 - b684)) ≥ 2)) ((loop (Jy p2 q1 b684) (w64 (b684 + 1),b779)).bind fun x0=>some (.inl x0)) (some (.inl (b684,b779))))) : Option ((Int × List T) ⊕ (Bool × List T))).bind fun m621=>(match m621 with | .inl b622=>some (.inl (b622.1,w64 (a438.2.1 + 1),b622.2)) | .inr x1=>some (.inr (.inr x1)))) (some (.inr (.inl a438.2.2)))
noncomputable def Ji {T : Type} (q1 : T→T→Option Int) (p0 : List T) (p1 : Int) (p2 : Int) : Option (Bool × List T):=
  (loop (Zg p2 q1 p1) (w64 (p1 + 1),0,p0) : Option ((List T) ⊕ (Bool × List T))).bind fun m439=>(match m439 with | .inl b441=>some (false,b441) | .inr x1=>some x1)
noncomputable def Jz {T : Type} (a318 : Int × Int × List T) (p1 : Int) (q1 : T→T→Option Int) (a378 : Int) : Option ((Int) ⊕ (Int)):=
  (cond (decide (a378≤a318.2.1)) ((idx a318.2.2 p1).bind fun v403=>(idx a318.2.2 a378).bind fun v405=>(q1 v403 v405).bind fun r407=>some (!(decide (r407 < 0)))) (some false)).bind fun c388=>cond c388 (some (.inl (w64 (a378 + 1)))) (some (.inr a378))
noncomputable def U0 {T : Type} (b381 : Int) (a318 : Int × Int × List T) (p1 : Int) (q1 : T→T→Option Int) (a463 : Int) : Option ((Int) ⊕ (Int)):=
  (cond (decide (b381≤a463)) ((idx a318.2.2 p1).bind fun v487=>(idx a318.2.2 a463).bind fun v489=>(q1 v487 v489).bind fun r491=>some (decide (r491 < 0))) (some false)).bind fun c473=>cond c473 (some (.inl (w64 (a463 - 1)))) (some (.inr a463))
noncomputable def Us {T : Type} (p1 : Int) (q1 : T→T→Option Int) (a318 : Int × Int × List T) : Option ((Int × Int × List T) ⊕ (Int × List T)):=
  (loop (Jz a318 p1 q1) a318.1).bind fun b381=>(loop (U0 b381 a318 p1 q1) a318.2.1).bind fun b466=>cond (decide (b381 > b466)) (some (.inr (b381,a318.2.2))) ((idx a318.2.2 b466).bind fun v493=>(idx a318.2.2 b381).bind fun v495=>(idx a318.2.2 b381).bind fun v497=>(idx (a318.2.2.set b381.toNat v493) b466).bind fun v499=>some (.inl (w64 (b381 + 1),w64 (b466 - 1),(a318.2.2.set b381.toNat v493).set b466.toNat v495)))
noncomputable def Ur {T : Type} (q1 : T→T→Option Int) (p0 : List T) (p1 : Int) (p2 : Int) (p3 : Int) : Option (Int × List T):=
  (idx p0 p3).bind fun v101=>(idx p0 p1).bind fun v103=>(idx p0 p1).bind fun v105=>(idx (p0.set p1.toNat v101) p3).bind fun v107=>(loop (Us p1 q1) (w64 (p1 + 1),w64 (p2 - 1),(p0.set p1.toNat v101).set p3.toNat v103)).bind fun b321=>some (b321.1,b321.2)
noncomputable def q1n {T : Type} (p2 : Int) (p0 : List T) (p1 : Int) (v101 : T) (p3 : Int) (v103 : T) (q1 : T→T→Option Int) (a163 : Int) : Option ((Int) ⊕ (Int)):=
  (cond (decide (a163≤(w64 (p2 - 1)))) ((idx ((p0.set p1.toNat v101).set p3.toNat v103) a163).bind fun v187=>(idx ((p0.set p1.toNat v101).set p3.toNat v103) p1).bind fun v189=>(q1 v187 v189).bind fun r191=>some (decide (r191 < 0))) (some false)).bind fun c173=>cond c173 (some (.inl (w64 (a163 + 1)))) (some (.inr a163))
noncomputable def q1o {T : Type} (b166 : Int) (p0 : List T) (p1 : Int) (v101 : T) (p3 : Int) (v103 : T) (q1 : T→T→Option Int) (a249 : Int) : Option ((Int) ⊕ (Int)):=
  (cond (decide (b166≤a249)) ((idx ((p0.set p1.toNat v101).set p3.toNat v103) a249).bind fun v274=>(idx ((p0.set p1.toNat v101).set p3.toNat v103) p1).bind fun v276=>(q1 v274 v276).bind fun r278=>some (!(decide (r278 < 0)))) (some false)).bind fun c259=>cond c259 (some (.inl (w64 (a249 - 1)))) (some (.inr a249))
noncomputable def Zn {T : Type} (a514 : Int × Int × List T) (p1 : Int) (q1 : T→T→Option Int) (a572 : Int) : Option ((Int) ⊕ (Int)):=
  (cond (decide (a572≤a514.2.1)) ((idx a514.2.2 a572).bind fun v596=>(idx a514.2.2 p1).bind fun v598=>(q1 v596 v598).bind fun r600=>some (decide (r600 < 0))) (some false)).bind fun c582=>cond c582 (some (.inl (w64 (a572 + 1)))) (some (.inr a572))
noncomputable def Zo {T : Type} (b575 : Int) (a514 : Int × Int × List T) (p1 : Int) (q1 : T→T→Option Int) (a658 : Int) : Option ((Int) ⊕ (Int)):=
  (cond (decide (b575≤a658)) ((idx a514.2.2 a658).bind fun v683=>(idx a514.2.2 p1).bind fun v685=>(q1 v683 v685).bind fun r687=>some (!(decide (r687 < 0)))) (some false)).bind fun c668=>cond c668 (some (.inl (w64 (a658 - 1)))) (some (.inr a658))
noncomputable def Ut {T : Type} (p1 : Int) (q1 : T→T→Option Int) (a514 : Int × Int × List T) : Option ((Int × Int × List T) ⊕ (Int × List T)):=
  (loop (Zn a514 p1 q1) a514.1).bind fun b575=>(loop (Zo b575 a514 p1 q1) a514.2.1).bind fun b661=>cond (decide (b575 > b661)) (some (.inr (b661,a514.2.2))) ((idx a514.2.2 b661).bind fun v689=>(idx a514.2.2 b575).bind fun v691=>(idx a514.2.2 b575).bind fun v693=>(idx (a514.2.2.set b575.toNat v689) b661).bind fun v695=>some (.inl (w64 (b575 + 1),w64 (b661 - 1),(a514.2.2.set b575.toNat v689).set b661.toNat v691)))
noncomputable def Uq {T : Type} (q1 : T→T→Option Int) (p0 : List T) (p1 : Int) (p2 : Int) (p3 : Int) : Option (Int × Bool × List T):=
  (idx p0 p3).bind fun v101=>(idx p0 p1).bind fun v103=>(idx p0 p1).bind fun v105=>(idx (p0.set p1.toNat v101) p3).bind fun v107=>(loop (q1n p2 p0 p1 v101 p3 v103 q1) (w64 (p1 + 1))).bind fun b166=>(loop (q1o b166 p0 p1 v101 p3 v103 q1) (w64 (p2 - 1))).bind fun b252=>cond (decide (b166 > b252)) ((idx ((p0.set p1.toNat v101).set p3.toNat v103) p1).bind fun v288=>(idx ((p0.set p1.toNat v101).set p3.toNat v103) b252).bind fun v290=>(idx ((p0.set p1.toNat v101).set p3.toNat v103) b252).bind fun v292=>(idx (((p0.set p1.toNat v101).set p3.toNat v103).set b252.toNat v288) p1).bind fun v294=>some (b252,true,(((p0.set p1.toNat v101).set p3.toNat v103).set b252.toNat v288).set p1.toNat v290)) ((idx ((p0.set p1.toNat v101).set p3.toNat v103) b252).bind fun v296=>(idx ((p0.set p1.toNat v101).set p3.toNat v103) b166).bind fun v298=>(idx ((p0.set p1.toNat v101).set p3.toNat v103) b166).bind fun v300=>(idx (((p0.set p1.toNat v101).set p3.toNat v103).set b166.toNat v296) b252).bind fun v302=>(loop (Ut p1 q1) (w64 (b166 + 1),w64 (b252 - 1),(((p0.set p1.toNat v101).set p3.toNat v103).set b166.toNat v296).set b252.toNat v298)).bind fun b517=>(idx b517.2 p1).bind fun v697=>(idx b517.2 b517.1).bind fun v699=>(idx b517.2 b517.1).bind fun v701=>(idx (b517.2.set b517.1.toNat v697) p1).bind fun v703=>some (b517.1,false,(b517.2.set b517.1.toNat v697).set p1.toNat v699))
noncomputable def Z6 {T : Type} (q1 : T→T→Option Int) (rec : List T→Int→Int→Int→Option (List T)) (a309 : Int × Int × Int × Bool × Bool × List T) : Option ((Int × Int × Int × Bool × Bool × List T) ⊕ (List T)):=
  cond (decide ((w64 (a309.2.1 - a309.1))≤12)) ((q1l q1 a309.2.2.2.2.2 a309.1 a309.2.1).bind fun e318=>(Qw e318.length a309.2.2.2.2.2.length).bind fun u320=>some (.inr e318)) (cond (a309.2.2.1 == 0) ((q1k q1 a309.2.2.2.2.2 a309.1 a309.2.1).bind fun e328=>(Qw e328.length a309.2.2.2.2.2.length).bind fun u330=>some (.inr e328)) ((cond (!a309.2.2.2.1) ((Um q1 a309.2.2.2.2.2 a309.1 a309.2.1).bind fun e341=>(Qw e341.length a309.2.2.2.2.2.length).bind fun u343=>some (w64 (a309.2.2.1 - 1),e341)) (some (a309.2.2.1,a309.2.2.2.2.2))).bind fun b340=>(q1j b340.2 a309.1 a309.2.1 q1).bind fun r346=>(cond (r346.2 == 2) ((Uu q1 b340.2 a309.1 a309.2.1).bind fun e356=>(Qw e356.length b340.2.length).bind fun u358=>some (w64 ((w64 (a309.2.1 - 1)) - (w64 (r346.1 - a309.1))),1,e356)) (some (r346.1,r346.2,b340.2))).bind fun b355=>(cond a309.2.2.2.1 (some a309.2.2.2.2.1) (some false)).bind fun c361=>(cond c361 (some (b355.2.1 == 1)) (some false)).bind fun c365=>(cond c365 ((Ji q1 b355.2.2 a309.1 a309.2.1).bind fun e378=>(Qw e378.2.length b355.2.2.length).bind fun u380=>cond e378.1 (some (.inr e378.2)) (some (.inl e378.2))) (some (.inl b355.2.2)) : Option ((List T) ⊕ (List T))).bind fun m376=>(match m376 with | .inl b377=>(cond (decide (a309.1 > 0)) ((idx b377 (w64 (a309.1 - 1))).bind fun v405=>(idx b377 b355.1).bind fun v407=>(q1 v405 v407).bind fun r409=>some (!(decide (r409 < 0)))) (some false)).bind fun c389=>cond c389 ((Ur q1 b377 a309.1 a309.2.1 b355.1).bind fun e416=>(Qw e416.2.length b377.length).bind fun u418=>some (.inl (e416.1,a309.2.1,b340.1,a309.2.2.2.1,a309.2.2.2.2.1,e416.2))) ((Uq q1 b377 a309.1 a309.2.1 b355.1).bind fun e421=>(Qw e421.2.2.length b377.length).bind fun u423=>cond (decide ((w64 (e421.1 - a309.1)) < (w64 (a309.2.1 - e421.1)))) ((rec e421.2.2 a309.1 e421.1 b340.1).bind fun e426=>(Qw e426.length e421.2.2.length).bind fun u428=>some (.inl (w64 (e421.1 + 1),a309.2.1,b340.1,decide ((w64 (e421.1 - a309.1)) ≥ (w64 (Int.tdiv (w64 (a309.2.1 - a309.1)) 8))),e421.2.1,e426))) ((rec e421.2.2 (w64 (e421.1 + 1)) a309.2.1 b340.1).bind fun e431=>(Qw e431.length e421.2.2.length).bind fun u433=>some (.inl (a309.1,e421.1,b340.1,decide ((w64 (a309.2.1 - e421.1)) ≥ (w64 (Int.tdiv (w64 (a309.2.1 - a309.1)) 8))),e421.2.1,e431)))) | .inr x1=>some (.inr x1))))
noncomputable def U1 {T : Type} (rec : List T→Int→Int→Int→Option (List T)) (q1 : T→T→Option Int) (p0 : List T) (p1 : Int) (p2 : Int) (p3 : Int) : Option (List T):=
  (loop (Z6 q1 rec) (p1,p2,p3,true,true,p0)).bind fun x0=>some x0
noncomputable def Yu {T : Type} : Nat→(T→T→Option Int)→List T→Int→Int→Int→Option (List T)
  | 0,_,_,_,_,_=>none
  | n + 1,q1,p0,p1,p2,p3=>U1 (Yu n q1) q1 p0 p1 p2 p3
noncomputable def q1i {T : Type} (q1 : T→T→Option Int) (p0 : List T) : Option (List T):=
  (Ul (IntKind.wrap .u64 (p0.length : Int))).bind fun r101=>(lim (fun n=>Yu n q1 p0 0 (p0.length : Int) r101)).bind fun e103=>(Qw e103.length p0.length).bind fun u105=>some e103
end Go.Sh
namespace Go.Sh
open Go Go.Am
section
variable {T : Type} [Inhabited T] {P : T→Prop} {lt : T→T→Bool} {q : T→T→Option Int}
def Ko (q : T→T→Option Int) (lt : T→T→Bool) (P : T→Prop) : Prop:=∀ x y,P x→P y→∃ r,q x y = some r∧decide (r < 0) = lt x y
def AllP (n : Nat) (P : T→Prop) (d : Array T) : Prop:=d.size = n∧n≤1000000∧∀ i,i < n→P d[i]!
theorem gx {d : Array T} {k : Nat} (h : k < d.size) : idx d.toList (k : Int) = some d[k]!:=by
  simp [idx,h]
theorem gxs {d : Array T} {k : Nat} {i : Nat} {v : T} (h : k < d.size) : idx (d.toList.set i v) (k : Int) = some (d.setIfInBounds i v)[k]!:=by
  have : d.toList.set i v = (d.setIfInBounds i v).toList:=by simp
  rw [this];exact gx (by simpa using h)
theorem gswp {d : Array T} {i j : Nat} : (d.toList.set i d[j]!).set j d[i]! = (Sort.swp d i j).toList:=by simp [Sort.swp]
theorem AllP.swp {n : Nat} {d : Array T} (h : AllP n P d) {a b : Nat} (j : a < n) (hb : b < n) : AllP n P (Sort.swp d a b):=by
  obtain ⟨f,g,c⟩:=h;refine ⟨by rw [Sort.swp_size];exact f,g,fun k l=>?_⟩;rw [Sort.swp_get d q6 q6]
  repeat' split
  all_goals first | exact c _ j | exact c _ hb | exact c _ l
theorem AllP.perm {n : Nat} {d c : Array T} (h : AllP n P d) {a b : Nat} (o : a≤b) (hb : b≤n) (hp : Sort.PermIn a b d c) : AllP n P c:=by
  obtain ⟨j,p,g⟩:=h;refine ⟨by rw [hp.1];exact j,p,fun k l=>?_⟩;by_cases f : k < a∨b≤k
  · rw [hp.2.1 k f];exact g k l
  · exact Sort.permIn_all d c a b P q6 hp (fun i hi m=>g i q6) k q6 q6
theorem w1m (j : Nat) (h : j < 2000000) : w64 (((j + 1 : Nat) : Int) - 1) = (j : Int):=by rw [Qc q6];omega
theorem w1p (j : Nat) (h : j < 2000000) : w64 ((j : Int) + 1) = ((j + 1 : Nat) : Int):=by rw [Qc q6];omega
theorem wsub {a b : Nat} (h : a≤b) (c : b < 2000000) : w64 ((b : Int) - (a : Int)) = ((b - a : Nat) : Int):=by rw [Qc q6];omega
theorem qgr (l : Ko q lt P) (a n : Nat) : ∀ (j : Nat) (d : Array T),AllP n P d→j < n→loop (Jg (a : Int) q) ((j : Int),d.toList) = some (Sort.insInner lt a j d).toList∧AllP n P (Sort.insInner lt a j d)
  | 0,d,hd,hj=>by
    have c : decide (((0 : Nat) : Int) > (a : Int)) = false:=Q9 q6
    refine ⟨Kb ?_,hd⟩
    simp only [Jg,c,qv,qj];rfl
  | j + 1,d,hd,hj=>by
    have p:=hd.1
    have s:=hd.2.1
    unfold Sort.insInner
    by_cases h : j + 1 > a
    · have c : decide (((j + 1 : Nat) : Int) > (a : Int)) = true:=Q6 q6
      obtain ⟨r,g,m⟩:=l d[j + 1]! d[j]! (hd.2.2 _ hj) (hd.2.2 _ q6)
      by_cases f : lt d[j + 1]! d[j]! = true
      · rw [qp (by simp [h,f])]
        have o:=qgr l a n j _ (hd.swp (a:=j + 1) (b:=j) hj q6) q6
        refine ⟨?_,o.2⟩
        rw [Km (a':=((j : Int),(Sort.swp d (j + 1) j).toList)) ?_]
        · exact o.1
        · simp only [Jg,c,qw,gx (d:=d) (k:=j + 1) q6,w1m j q6,gx (d:=d) (k:=j) q6,gxs (d:=d) (k:=j) q6,qj,g,m,f,Int.toNat_natCast,gswp]
      · rw [qs (by simp [f])]
        refine ⟨Kb ?_,hd⟩
        simp only [Jg,c,qw,gx (d:=d) (k:=j + 1) q6,w1m j q6,gx (d:=d) (k:=j) q6,qj,g,m,f,qv]
    · rw [qs (by simp [h])]
      have c : decide (((j + 1 : Nat) : Int) > (a : Int)) = false:=Q9 q6
      refine ⟨Kb ?_,hd⟩
      simp only [Jg,c,qv,qj]
theorem qnh (h : Ko q lt P) (a b n : Nat) (hb : b≤n) : ∀ (m i : Nat) (d : Array T),b - i = m→AllP n P d→i≤1000001→loop (Up (b : Int) (a : Int) q) ((i : Int),d.toList) = some (Sort.insOuter lt a b i d).toList:=by
  intro m
  induction m with
  | zero=>
    intro i d j hd hi;unfold Sort.insOuter;rw [qs q6];have c : decide ((i : Int) < (b : Int)) = false:=Q9 q6;exact Kb (by simp only [Up,c,qv])
  | succ m ih=>
    intro i d j hd hi;unfold Sort.insOuter;rw [qp q6];have c : decide ((i : Int) < (b : Int)) = true:=Q6 q6;obtain ⟨f,g⟩:=qgr h a n i d hd q6;have:=hd.2.1;rw [Km (a':=(((i + 1 : Nat) : Int),(Sort.insInner lt a i d).toList)) ?_]
    · exact ih (i + 1) _ q6 g q6
    · simp only [Up,c,qw,f,qj,w1p i q6]
theorem qnj (f : Ko q lt P) {a b n : Nat} (hb : b≤n) (c : a≤b) {d : Array T} (hd : AllP n P d) : q1l q d.toList (a : Int) (b : Int) = some (Sort.insertionSort lt d a b).toList:=by
  have:=hd.2.1;unfold q1l Sort.insertionSort;rw [w1p a q6,qnh f a b n hb _ (a + 1) d rfl hd q6];rfl
theorem qsy (hq : Ko q lt P) (hi first n : Nat) (hb : first + hi≤n) : ∀ (m root : Nat) (d : Array T),hi - root = m→AllP n P d→root≤1000000→(root < hi∨hi≤1)→loop (Jj (hi : Int) (first : Int) q) ((root : Int),d.toList) = some (Sort.siftDown lt hi first root d).toList∧AllP n P (Sort.siftDown lt hi first root d):=by
  intro m
  induction m using Nat.strongRecOn with
  | _ m ih=>
    intro root d hm hd hr an;have am:=hd.1;have hn:=hd.2.1;unfold Sort.siftDown;have y : w64 ((w64 (2 * (root : Int))) + 1) = ((2 * root + 1 : Nat) : Int):=by rw [Qc (x:=2 * (root : Int)) q6,Qc q6];omega
    by_cases hc : 2 * root + 1 ≥ hi
    · rw [dif_pos hc];have u : decide (((2 * root + 1 : Nat) : Int) ≥ (hi : Int)) = true:=Q6 q6;refine ⟨Kb ?_,hd⟩;simp only [Jj,y,u,qw]
    · rw [dif_neg hc];have u : decide (((2 * root + 1 : Nat) : Int) ≥ (hi : Int)) = false:=Q9 q6;have e2 : w64 (((2 * root + 1 : Nat) : Int) + 1) = ((2 * root + 2 : Nat) : Int):=w1p _ q6;have e3 : w64 ((first : Int) + ((2 * root + 1 : Nat) : Int)) = ((first + (2 * root + 1) : Nat) : Int):=by rw [Qc q6];omega
      have e4 : w64 ((first : Int) + ((2 * root + 2 : Nat) : Int)) = ((first + (2 * root + 2) : Nat) : Int):=by rw [Qc q6];omega
      have e5 : w64 ((first : Int) + (root : Int)) = ((first + root : Nat) : Int):=by rw [Qc q6];omega
      have e6 : w64 (((first + (2 * root + 1) : Nat) : Int) + 1) = ((first + (2 * root + 2) : Nat) : Int):=w1p _ q6;have x1:=gx (d:=d) (k:=first + (2 * root + 1)) q6;have x0:=gx (d:=d) (k:=first + root) q6
      have child : ∀ c,(c = 2 * root + 1∨c = 2 * root + 2)→c < hi→
          (∀ (h : (cond (decide (((2 * root + 2 : Nat) : Int) < (hi : Int))) ((idx d.toList ((first + (2 * root + 1) : Nat) : Int)).bind fun t=>(idx d.toList ((first + (2 * root + 2) : Nat) : Int)).bind fun o=>(q t o).bind fun g=>some (decide (g < 0))) (some false)) = some (decide (c = 2 * root + 2))),
          (loop (Jj (hi : Int) (first : Int) q) ((root : Int),d.toList) = some (if (!lt d[first + root]! d[first + c]!) = true then d else Sort.siftDown lt hi first c (Sort.swp d (first + root) (first + c))).toList)∧AllP n P (if (!lt d[first + root]! d[first + c]!) = true then d else Sort.siftDown lt hi first c (Sort.swp d (first + root) (first + c)))):=by
        intro c aa z h
        have xc:=gx (d:=d) (k:=first + c) q6
        have xs:=fun v=>gxs (d:=d) (k:=first + c) (i:=first + root) (v:=v) q6
        obtain ⟨r,l,p⟩:=hq d[first + root]! d[first + c]! (hd.2.2 _ q6) (hd.2.2 _ q6)
        have hb : (cond (decide (c = 2 * root + 2)) (some ((2 * root + 2 : Nat) : Int)) (some ((2 * root + 1 : Nat) : Int))) = some (c : Int):=by
          rcases aa with rfl | rfl
          · simp
          · simp
        have ec : w64 ((first : Int) + (c : Int)) = ((first + c : Nat) : Int):=by rw [Qc q6];omega
        by_cases f : lt d[first + root]! d[first + c]! = true
        · have j:=ih (hi - c) q6 c _ rfl (hd.swp (a:=first + root) (b:=first + c) q6 q6) q6 (.inl z)
          rw [qs (by simp [f])]
          refine ⟨?_,j.2⟩
          rw [Km (a':=((c : Int),(Sort.swp d (first + root) (first + c)).toList)) ?_]
          · exact j.1
          · simp only [Jj,y,u,qv,e2,e3,e6,h,qj,hb,e5,ec,x0,xc,xs,l,p,f,Bool.not_true,Int.toNat_natCast,gswp]
        · rw [qp (by simp [f])]
          refine ⟨Kb ?_,hd⟩
          simp only [Jj,y,u,qv,e2,e3,e6,h,qj,hb,e5,ec,x0,xc,l,p,f,Bool.not_false,qw]
      by_cases s : 2 * root + 2 < hi
      · have x2:=gx (d:=d) (k:=first + (2 * root + 2)) q6;have w : decide (((2 * root + 2 : Nat) : Int) < (hi : Int)) = true:=Q6 q6;obtain ⟨r,l,p⟩:=hq d[first + (2 * root + 1)]! d[first + (2 * root + 2)]! (hd.2.2 _ q6) (hd.2.2 _ q6);by_cases f : lt d[first + (2 * root + 1)]! d[first + (2 * root + 2)]! = true
        · rw [qp (by simp only [Bool.and_eq_true,decide_eq_true_eq];exact ⟨q6,f⟩)];have:=child (2 * root + 2) (.inr rfl) s (by simp only [w,qw,x1,x2,qj,l,p,f,decide_true]);rw [dif_pos s];exact this
        · rw [qs (by simp only [Bool.and_eq_true,decide_eq_true_eq];rintro ⟨_,h⟩;exact f h)];have:=child (2 * root + 1) (.inl rfl) q6 (by simp only [w,qw,x1,x2,qj,l,p,f];simp);exact this
      · have w : decide (((2 * root + 2 : Nat) : Int) < (hi : Int)) = false:=Q9 q6;rw [qs (by simp only [Bool.and_eq_true,decide_eq_true_eq];rintro ⟨h,_⟩;omega)];have:=child (2 * root + 1) (.inl rfl) q6 (by simp only [w,qv];simp);exact this
end
end Go.Sh
namespace Go.Sh
open Go Go.Am
section
variable {T : Type} [Inhabited T] {P : T→Prop} {lt : T→T→Bool} {q : T→T→Option Int}
theorem Jl {n : Nat} {d a : Array T} (h : AllP n P d) (b : AllP n P a) : Qw a.toList.length d.toList.length = some ():=by
  unfold Qw;rw [qp (by simp [h.1,b.1])]
theorem qgc (f : Ko q lt P) (hi first n root : Nat) (hb : first + hi≤n) (d : Array T) (hd : AllP n P d) (a : root≤1000000) (c : root < hi∨hi≤1) : U2 q d.toList (root : Int) (hi : Int) (first : Int) = some (Sort.siftDown lt hi first root d).toList∧AllP n P (Sort.siftDown lt hi first root d):=by
  obtain ⟨g,b⟩:=qsy f hi first n hb _ root d rfl hd a c;exact ⟨by unfold U2;rw [g];rfl,b⟩
theorem qgk (h : Ko q lt P) (a b n : Nat) (hb : b≤n) (c : a≤b) : ∀ (k : Nat) (d : Array T),AllP n P d→(k≤b - a∨b - a = 0∧k≤1)→loop (Un q (b : Int) (a : Int)) ((k : Int) - 1,d.toList) = some (Sort.heapBuild lt (b - a) a k d).toList∧AllP n P (Sort.heapBuild lt (b - a) a k d)
  | 0,d,hd,hk=>by
    have f : decide (((0 : Nat) : Int) - 1 ≥ 0) = false:=Q9 q6
    refine ⟨Kb ?_,hd⟩
    simp only [Un,f,qv];rfl
  | k + 1,d,hd,hk=>by
    have o:=hd.2.1
    have e : (((k + 1 : Nat) : Int) - 1) = (k : Int):=by omega
    rw [e]
    have f : decide ((k : Int) ≥ 0) = true:=Q6 q6
    obtain ⟨m,g⟩:=qgc h (b - a) a n k q6 d hd q6 q6
    have j:=qgk h a b n hb c k _ g q6
    refine ⟨?_,j.2⟩
    rw [Km (a':=((k : Int) - 1,(Sort.siftDown lt (b - a) a k d).toList)) ?_]
    · exact j.1
    · have l : w64 ((k : Int) - 1) = (k : Int) - 1:=Qc q6
      simp only [Un,f,qw,wsub c (by omega : b < 2000000),m,qj,Jl hd g,l]
theorem qgl (j : Ko q lt P) (a n : Nat) : ∀ (k : Nat) (d : Array T),AllP n P d→a + k≤n→loop (Uo (a : Int) q) ((k : Int) - 1,d.toList) = some (Sort.heapPop lt a k d).toList
  | 0,d,hd,hk=>by
    have g : decide (((0 : Nat) : Int) - 1 ≥ 0) = false:=Q9 q6
    refine Kb ?_
    simp only [Uo,g,qv];rfl
  | k + 1,d,hd,hk=>by
    have p:=hd.1
    have r:=hd.2.1
    have e : (((k + 1 : Nat) : Int) - 1) = (k : Int):=by omega
    rw [e]
    have g : decide ((k : Int) ≥ 0) = true:=Q6 q6
    have c:=hd.swp (a:=a) (b:=a + k) q6 q6
    obtain ⟨f,h⟩:=qgc j k a n 0 q6 _ c q6 q6
    have o:=qgl j a n k _ h q6
    rw [Km (a':=((k : Int) - 1,(Sort.siftDown lt k a 0 (Sort.swp d a (a + k))).toList)) ?_]
    · exact o
    · have m : w64 ((k : Int) - 1) = (k : Int) - 1:=Qc q6
      have l : w64 ((a : Int) + (k : Int)) = ((a + k : Nat) : Int):=by rw [Qc q6];omega
      have f : U2 q (Sort.swp d a (a + k)).toList 0 (k : Int) (a : Int) = _:=f
      simp only [Uo,g,qw,l,gx (d:=d) (k:=a) q6,gx (d:=d) (k:=a + k) q6,gxs (d:=d) (k:=a + k) q6,qj,Int.toNat_natCast,gswp,f,Jl c h,m]
theorem qne (c : Ko q lt P) {a b n : Nat} (hb : b≤n) (h : a < b) {d : Array T} (hd : AllP n P d) : q1k q d.toList (a : Int) (b : Int) = some (Sort.heapSort lt d a b).toList:=by
  have m:=hd.2.1;have f : w64 ((b : Int) - (a : Int)) = ((b - a : Nat) : Int):=wsub q6 q6;have l : w64 (((b - a : Nat) : Int) - 1) = ((b - a : Nat) : Int) - 1:=Qc q6
  have j : w64 (Int.tdiv (((b - a : Nat) : Int) - 1) 2) = (((b - a - 1) / 2 + 1 : Nat) : Int) - 1:=by
    rw [Int.tdiv_eq_ediv_of_nonneg q6,Qc q6];omega
  obtain ⟨g,k⟩:=qgk c a b n hb q6 ((b - a - 1) / 2 + 1) d hd q6;unfold q1k Sort.heapSort;rw [f,l,j,g,qj,qgl c a n (b - a) _ k q6];rfl
theorem qrp (n : Nat) : ∀ (m i j : Nat) (d : Array T),j - i = m→AllP n P d→j < n→i≤1000001→loop (q1p (T:=T)) ((i : Int),(j : Int),d.toList) = some (Sort.reverseLoop i j d).toList:=by
  intro m
  induction m using Nat.strongRecOn with
  | _ m ih=>
    intro i j d l hd c hi;have f:=hd.1;have h:=hd.2.1;unfold Sort.reverseLoop;by_cases b : i < j
    · rw [qp b];have a : decide ((i : Int) < (j : Int)) = true:=Q6 q6;have g : w64 ((j : Int) - 1) = ((j - 1 : Nat) : Int):=by rw [Qc q6];omega
      rw [Km (a':=(((i + 1 : Nat) : Int),((j - 1 : Nat) : Int),(Sort.swp d i j).toList)) ?_]
      · exact ih _ q6 _ _ _ rfl (hd.swp q6 c) q6 q6
      · simp only [q1p,a,qw,gx (d:=d) (k:=i) q6,gx (d:=d) (k:=j) q6,gxs (d:=d) (k:=j) q6,qj,Int.toNat_natCast,gswp,g,w1p i q6]
    · rw [qs b];have a : decide ((i : Int) < (j : Int)) = false:=Q9 q6;exact Kb (by simp only [q1p,a,qv])
theorem qrq {a b n : Nat} (hb : b≤n) (f : a < b) {d : Array T} (hd : AllP n P d) : Uu q d.toList (a : Int) (b : Int) = some (Sort.reverseRange d a b).toList:=by
  have g:=hd.2.1;have c : w64 ((b : Int) - 1) = ((b - 1 : Nat) : Int):=by rw [Qc q6];omega
  unfold Uu Sort.reverseRange;rw [c,qrp n _ a (b - 1) d rfl hd q6 q6];rfl
theorem qd2 (j : Ko q lt P) {n : Nat} {d : Array T} (hd : AllP n P d) {a b s : Nat} (f : a < n) (hb : b < n) (hs : s≤1000) : Jv q d.toList (a : Int) (b : Int) (s : Int) = some (((Sort.order2 lt d a b s).1 : Int),((Sort.order2 lt d a b s).2.1 : Int),((Sort.order2 lt d a b s).2.2 : Int))∧(Sort.order2 lt d a b s).1 < n∧(Sort.order2 lt d a b s).2.1 < n∧(Sort.order2 lt d a b s).2.2≤s + 1:=by
  have l:=hd.1;obtain ⟨r,g,h⟩:=j d[b]! d[a]! (hd.2.2 _ hb) (hd.2.2 _ f);unfold Jv Sort.order2;rw [gx (d:=d) (k:=b) q6,gx (d:=d) (k:=a) q6];simp only [qj,g,h];by_cases c : lt d[b]! d[a]! = true
  · rw [qp c];simp only [c,qw,w1p s q6];exact ⟨trivial,hb,f,q6⟩
  · rw [qs c];have : lt d[b]! d[a]! = false:=by simpa using c
    simp only [this,qv];exact ⟨trivial,f,hb,q6⟩
theorem qch (f : Ko q lt P) {n : Nat} {d : Array T} (hd : AllP n P d) {a b c s : Nat} (j : a < n) (hb : b < n) (p : c < n) (hs : s≤900) : Ju q d.toList (a : Int) (b : Int) (c : Int) (s : Int) = some (((Sort.median lt d a b c s).1 : Int),((Sort.median lt d a b c s).2 : Int))∧(Sort.median lt d a b c s).1 < n∧(Sort.median lt d a b c s).2≤s + 3:=by
  obtain ⟨g,k,b1,c1⟩:=qd2 f hd j hb (s:=s) q6;obtain ⟨m,o,r,c2⟩:=qd2 f hd b1 p (s:=(Sort.order2 lt d a b s).2.2) q6;obtain ⟨l,t,h,c3⟩:=qd2 f hd k o (s:=(Sort.order2 lt d (Sort.order2 lt d a b s).2.1 c (Sort.order2 lt d a b s).2.2).2.2) q6;unfold Ju Sort.median;simp only [g,m,l,qj];exact ⟨trivial,h,q6⟩
theorem qcg (j : Ko q lt P) {n : Nat} {d : Array T} (hd : AllP n P d) {a s : Nat} (m : 1≤a) (f : a + 1 < n) (hs : s≤900) : Jh q d.toList (a : Int) (s : Int) = some (((Sort.medianAdjacent lt d a s).1 : Int),((Sort.medianAdjacent lt d a s).2 : Int))∧(Sort.medianAdjacent lt d a s).1 < n∧(Sort.medianAdjacent lt d a s).2≤s + 3:=by
  have l:=hd.2.1;obtain ⟨g,h,k⟩:=qch j hd (a:=a - 1) (b:=a) (c:=a + 1) (s:=s) q6 q6 f hs;have e : w64 ((a : Int) - 1) = ((a - 1 : Nat) : Int):=by rw [Qc q6];omega
  unfold Jh Sort.medianAdjacent;rw [e,w1p a q6,g];exact ⟨rfl,h,k⟩
def qc4 : Sort.Hint→Int
  | .unknown=>0
  | .increasing=>1
  | .decreasing=>2
theorem qls (j : Ko q lt P) {n : Nat} {d : Array T} (hd : AllP n P d) {a b : Nat} (am : a < b) (hb : b≤n) : q1j d.toList (a : Int) (b : Int) q = some (((Sort.choosePivot lt d a b).1 : Int),qc4 (Sort.choosePivot lt d a b).2):=by
  have hn:=hd.2.1;have e0 : w64 ((b : Int) - (a : Int)) = ((b - a : Nat) : Int):=wsub q6 q6
  have e1 : w64 (Int.tdiv ((b - a : Nat) : Int) 4) = (((b - a) / 4 : Nat) : Int):=by
    rw [Int.tdiv_eq_ediv_of_nonneg q6,Qc q6];omega
  have em : ∀ k : Nat,k≤3→w64 ((a : Int) + (w64 ((((b - a) / 4 : Nat) : Int) * (k : Int)))) = ((a + (b - a) / 4 * k : Nat) : Int):=by
    intro k hk;have : (b - a) / 4 * k≤(b - a) / 4 * 3:=Nat.mul_le_mul_left _ hk;have e : ((((b - a) / 4 : Nat) : Int) * (k : Int)) = (((b - a) / 4 * k : Nat) : Int):=by push_cast;rfl
    rw [e,Qc (x:=(((b - a) / 4 * k : Nat) : Int)) q6,Qc q6];omega
  have o:=em 1 q6;have g:=em 2 q6;have t:=em 3 q6
  have f : ∀ r : Nat × Nat,(cond (((r.2 : Int)) == 0) (some ((r.1 : Int),(1 : Int))) (cond (((r.2 : Int)) == 12) (some ((r.1 : Int),(2 : Int))) (some ((r.1 : Int),(0 : Int))))) = some ((r.1 : Int),qc4 (if r.2 = 0 then Sort.Hint.increasing else if r.2 = 12 then Sort.Hint.decreasing else Sort.Hint.unknown)):=by
    intro r;by_cases v : r.2 = 0
    · have : ((r.2 : Int) == 0) = true:=by simp [v]
      simp only [this,qw,qp v];rfl
    · have t0 : ((r.2 : Int) == 0) = false:=by simp;omega
      by_cases m : r.2 = 12
      · have : ((r.2 : Int) == 12) = true:=by simp;omega
        simp only [t0,this,qw,qv,qs v,qp m];rfl
      · have : ((r.2 : Int) == 12) = false:=by simp;omega
        simp only [t0,this,qv,qs v,qs m];rfl
  unfold q1j Sort.choosePivot;simp only [e0,e1];by_cases z : b - a ≥ 8
  · have w : decide (((b - a : Nat) : Int) ≥ 8) = true:=Q6 q6;by_cases u : b - a ≥ 50
    · have h : decide (((b - a : Nat) : Int) ≥ 50) = true:=Q6 q6;obtain ⟨x1,y1,z1⟩:=qcg j hd (a:=a + (b - a) / 4 * 1) (s:=0) q6 q6 q6;obtain ⟨x2,y2,z2⟩:=qcg j hd (a:=a + (b - a) / 4 * 2) (s:=(Sort.medianAdjacent lt d (a + (b - a) / 4 * 1) 0).2) q6 q6 q6;obtain ⟨x3,y3,z3⟩:=qcg j hd (a:=a + (b - a) / 4 * 3) (s:=(Sort.medianAdjacent lt d (a + (b - a) / 4 * 2) (Sort.medianAdjacent lt d (a + (b - a) / 4 * 1) 0).2).2) q6 q6 q6;obtain ⟨l,y4,z4⟩:=qch j hd y1 y2 y3 (s:=(Sort.medianAdjacent lt d (a + (b - a) / 4 * 3) (Sort.medianAdjacent lt d (a + (b - a) / 4 * 2) (Sort.medianAdjacent lt d (a + (b - a) / 4 * 1) 0).2).2).2) q6;simp only [qp z,qp u,w,h,qw];have g1 : w64 ((a : Int) + (w64 ((((b - a) / 4 : Nat) : Int) * 1))) = _:=o;have p : w64 ((a : Int) + (w64 ((((b - a) / 4 : Nat) : Int) * 2))) = _:=g;have y : w64 ((a : Int) + (w64 ((((b - a) / 4 : Nat) : Int) * 3))) = _:=t;have x1 : Jh q d.toList ((a + (b - a) / 4 * 1 : Nat) : Int) 0 = _:=x1;rw [g1,p,y];simp only [x1,x2,x3,l,qj];exact f _
    · have h : decide (((b - a : Nat) : Int) ≥ 50) = false:=Q9 q6;obtain ⟨l,y4,z4⟩:=qch j hd (a:=a + (b - a) / 4 * 1) (b:=a + (b - a) / 4 * 2) (c:=a + (b - a) / 4 * 3) (s:=0) q6 q6 q6 q6;simp only [qp z,qs u,w,h,qw,qv];have g1 : w64 ((a : Int) + (w64 ((((b - a) / 4 : Nat) : Int) * 1))) = _:=o;have p : w64 ((a : Int) + (w64 ((((b - a) / 4 : Nat) : Int) * 2))) = _:=g;have y : w64 ((a : Int) + (w64 ((((b - a) / 4 : Nat) : Int) * 3))) = _:=t;have l : Ju q d.toList ((a + (b - a) / 4 * 1 : Nat) : Int) ((a + (b - a) / 4 * 2 : Nat) : Int) ((a + (b - a) / 4 * 3 : Nat) : Int) 0 = _:=l;rw [g1,p,y];simp only [l,qj];exact f _
  · have w : decide (((b - a : Nat) : Int) ≥ 8) = false:=Q9 q6;simp only [qs z,w,qv];have p : w64 ((a : Int) + (w64 ((((b - a) / 4 : Nat) : Int) * 2))) = _:=g;rw [p];simp only [qj];exact f (a + (b - a) / 4 * 2,0)
end
end Go.Sh
namespace Go.Sh
open Go Go.Am
theorem q1c (n : Int) : IntKind.u64.wrap n = n % 18446744073709551616:=by simp [IntKind.wrap,IntKind.bits,IntKind.signed]
theorem qxj (n : Int) : IntKind.u8.wrap n = n % 256:=by simp [IntKind.wrap,IntKind.bits,IntKind.signed]
theorem xorU (a b : Nat) (d : a < 18446744073709551616) (hb : b < 18446744073709551616) : xorI .u64 (a : Int) (b : Int) = ((a ^^^ b : Nat) : Int):=by
  have c : a ^^^ b < 2 ^ 64:=Nat.xor_lt_two_pow q6 q6;unfold xorI;rw [q1c];show ((BitVec.ofInt 64 (a : Int) ^^^ BitVec.ofInt 64 (b : Int)).toNat : Int) % _ = _;rw [BitVec.ofInt_natCast,BitVec.ofInt_natCast,BitVec.toNat_xor,BitVec.toNat_ofNat,BitVec.toNat_ofNat,Nat.mod_eq_of_lt (a:=a) q6,Nat.mod_eq_of_lt (a:=b) q6];omega
theorem andU (a b : Nat) (d : a < 18446744073709551616) (hb : b < 18446744073709551616) : andI .u64 (a : Int) (b : Int) = ((a &&& b : Nat) : Int):=by
  have c : a &&& b≤a:=Nat.and_le_left;unfold andI;rw [q1c];show ((BitVec.ofInt 64 (a : Int) &&& BitVec.ofInt 64 (b : Int)).toNat : Int) % _ = _;rw [BitVec.ofInt_natCast,BitVec.ofInt_natCast,BitVec.toNat_and,BitVec.toNat_ofNat,BitVec.toNat_ofNat,Nat.mod_eq_of_lt (a:=a) q6,Nat.mod_eq_of_lt (a:=b) q6];omega
theorem qxm (X : Nat) (d : X < 18446744073709551616) : q1q (X : Int) = some ((Sort.xorNextN X : Nat) : Int):=by
  obtain ⟨A,a⟩ : ∃ A : Nat,A = X ^^^ (X * 8192 % 18446744073709551616):=⟨_,rfl⟩
  obtain ⟨B,b⟩ : ∃ B : Nat,B = A ^^^ (A / 128):=⟨_,rfl⟩
  have k : A < 18446744073709551616:=by rw [a];exact Nat.xor_lt_two_pow (n:=64) q6 q6
  have g : B < 18446744073709551616:=by rw [b];exact Nat.xor_lt_two_pow (n:=64) q6 q6
  have c : xorI .u64 (X : Int) (IntKind.u64.wrap ((X : Int) * 2 ^ 13)) = (A : Int):=by
    rw [q1c,show ((X : Int) * 2 ^ 13 % 18446744073709551616) = ((X * 8192 % 18446744073709551616 : Nat) : Int) by omega,xorU _ _ d q6,a]
  have j : xorI .u64 (A : Int) (Int.fdiv (A : Int) (2 ^ 7)) = (B : Int):=by
    rw [Int.fdiv_eq_ediv_of_nonneg _ Q0,show ((A : Int) / 2 ^ 7) = ((A / 128 : Nat) : Int) by omega,xorU _ _ k q6,b]
  have f : xorI .u64 (B : Int) (IntKind.u64.wrap ((B : Int) * 2 ^ 17)) = ((B ^^^ (B * 131072 % 18446744073709551616) : Nat) : Int):=by
    rw [q1c,show ((B : Int) * 2 ^ 17 % 18446744073709551616) = ((B * 131072 % 18446744073709551616 : Nat) : Int) by omega,xorU _ _ g q6]
  have h : Sort.xorNextN X = B ^^^ (B * 131072 % 18446744073709551616):=by unfold Sort.xorNextN;simp only [];rw [← a,← b]
  unfold q1q;rw [c,j,f,h]
theorem qx3 : ∀ k : Nat,k < 256→q3x q4e (k : Int) = some ((Sort.bitsLen k : Nat) : Int):=by
  have key : ∀ k : Fin 256,(q4e[k.1]?).map (fun b=>b.toNat) = some (Sort.bitsLen k.1):=by decide +kernel
  intro k c;have:=key ⟨k,c⟩;unfold q3x;rw [qp q6,Int.toNat_natCast];simp only [Kt] at this ⊢;obtain ⟨b,a,d⟩:=this;exact ⟨b,a,by rw [d]⟩
theorem qep (n k : Nat) (h : 2 ^ k≤n) : Sort.bitsLen n = Sort.bitsLen (n / 2 ^ k) + k:=by
  have hp : 0 < 2 ^ k:=Nat.two_pow_pos k;apply Nat.le_antisymm
  · rw [Sort.bitsLen_le_iff];have:=Sort.lt_two_pow_bitsLen (n / 2 ^ k);rw [Nat.pow_add];exact (Nat.div_lt_iff_lt_mul hp).1 this
  · have b : k < Sort.bitsLen n:=by
      rcases Nat.lt_or_ge k (Sort.bitsLen n) with a | a
      · exact a
      · have:=(Sort.bitsLen_le_iff n k).1 a;omega
    have : Sort.bitsLen (n / 2 ^ k)≤Sort.bitsLen n - k:=by
      rw [Sort.bitsLen_le_iff,Nat.div_lt_iff_lt_mul hp,← Nat.pow_add,Nat.sub_add_cancel q6];exact Sort.lt_two_pow_bitsLen n
    omega
theorem qh1 (n : Nat) (h : n≤1000000) : Ul (n : Int) = some ((Sort.bitsLen n : Nat) : Int):=by
  unfold Ul q2p;have f : decide ((n : Int) ≥ 4294967296) = false:=Q9 q6;simp only [f,qv,qj]
  have fin : ∀ m s : Nat,m < 256→s≤16→(q3x q4e (IntKind.u8.wrap (m : Int))).bind (fun c=>some (w64 ((s : Int) + (w64 c)))) = some ((Sort.bitsLen m + s : Nat) : Int):=by
    intro m s d hs;rw [qxj,show ((m : Int) % 256) = (m : Int) by omega,qx3 m d];have : Sort.bitsLen m≤8:=(Sort.bitsLen_le_iff m 8).2 q6;rw [qj,Qc (x:=((Sort.bitsLen m : Nat) : Int)) q6,Qc q6];congr 1;omega
  by_cases g : n ≥ 65536
  · have b : decide ((n : Int) ≥ 65536) = true:=Q6 q6;have e : Int.fdiv (n : Int) (2 ^ 16) = ((n / 65536 : Nat) : Int):=by rw [Int.fdiv_eq_ediv_of_nonneg _ Q0];omega
    have a : decide (((n / 65536 : Nat) : Int) ≥ 256) = false:=Q9 q6;have w : w64 (0 + 16) = ((16 : Nat) : Int):=by rw [Qc q6];rfl
    simp only [b,qw,qj,e,a,qv,w];rw [fin (n / 65536) 16 q6 q6,qj,qep n 16 q6]
  · have b : decide ((n : Int) ≥ 65536) = false:=Q9 q6;simp only [b,qv,qj];by_cases j : n ≥ 256
    · have a : decide ((n : Int) ≥ 256) = true:=Q6 q6;have e : Int.fdiv (n : Int) (2 ^ 8) = ((n / 256 : Nat) : Int):=by rw [Int.fdiv_eq_ediv_of_nonneg _ Q0];omega
      have w : w64 (0 + 8) = ((8 : Nat) : Int):=by rw [Qc q6];rfl
      simp only [a,qw,qj,e,w];rw [fin (n / 256) 8 q6 q6,qj,qep n 8 q6]
    · have a : decide ((n : Int) ≥ 256) = false:=Q9 q6;simp only [a,qv,qj];have:=fin n 0 q6 q6;exact congrArg (fun o=>Option.bind o some) this
theorem qoh (n : Nat) (a : n≤1000000) : q1m (n : Int) = some ((1 <<< Sort.bitsLen n : Nat) : Int):=by
  unfold q1m;rw [q1c,show ((n : Int) % 18446744073709551616) = (n : Int) by omega,qh1 n a];have b : Sort.bitsLen n≤20:=(Sort.bitsLen_le_iff n 20).2 q6;have h : (2 : Nat) ^ Sort.bitsLen n≤2 ^ 20:=Nat.pow_le_pow_right Q0 b;have e : min (Sort.bitsLen n) IntKind.u64.bits = Sort.bitsLen n:=Nat.min_eq_left (by show _≤64;omega);simp only [qj,shlK];rw [qs q6,Int.toNat_natCast,e,q1c,Nat.one_shiftLeft,qj,show ((1 : Int) * (2 : Int) ^ Sort.bitsLen n) = ((2 ^ Sort.bitsLen n : Nat) : Int) by push_cast;omega];generalize (2 : Nat) ^ Sort.bitsLen n = p at h;congr 1;omega
section
variable {T : Type} [Inhabited T] {P : T→Prop} {lt : T→T→Bool} {q : T→T→Option Int}
theorem qb7 {a b n : Nat} (hb : b≤n) (h8 : 8≤b - a) {d : Array T} (hd : AllP n P d) (k : Nat) (hk : k≤2) (r : UInt64) :
    Jt (a : Int) (b : Int) ((1 <<< Sort.bitsLen (b - a) : Nat) : Int) (((a + (b - a) / 4 * 2 - 1 + k : Nat) : Int),d.toList,((r.toNat : Nat) : Int)) =
      some (.inl (((a + (b - a) / 4 * 2 - 1 + k + 1 : Nat) : Int),(Sort.breakStep a (b - a) (1 <<< Sort.bitsLen (b - a)) (r,d) (a + (b - a) / 4 * 2 - 1 + k)).2.toList,(((Sort.breakStep a (b - a) (1 <<< Sort.bitsLen (b - a)) (r,d) (a + (b - a) / 4 * 2 - 1 + k)).1.toNat : Nat) : Int)))∧
      AllP n P (Sort.breakStep a (b - a) (1 <<< Sort.bitsLen (b - a)) (r,d) (a + (b - a) / 4 * 2 - 1 + k)).2:=by
  have y:=hd.1;have hn:=hd.2.1;have q : r.toNat < 18446744073709551616:=r.toNat_lt;have v : w64 ((b : Int) - (a : Int)) = ((b - a : Nat) : Int):=wsub q6 q6
  have u : w64 (Int.tdiv ((b - a : Nat) : Int) 4) = (((b - a) / 4 : Nat) : Int):=by
    rw [Int.tdiv_eq_ediv_of_nonneg q6,Qc q6];omega
  have e2 : w64 ((((b - a) / 4 : Nat) : Int) * 2) = (((b - a) / 4 * 2 : Nat) : Int):=by rw [Qc q6];omega
  have x : w64 ((a : Int) + (((b - a) / 4 * 2 : Nat) : Int)) = ((a + (b - a) / 4 * 2 : Nat) : Int):=by rw [Qc q6];omega
  have w : w64 (((a + (b - a) / 4 * 2 : Nat) : Int) + 1) = ((a + (b - a) / 4 * 2 + 1 : Nat) : Int):=w1p _ q6;have h0 : decide (((a + (b - a) / 4 * 2 - 1 + k : Nat) : Int)≤((a + (b - a) / 4 * 2 + 1 : Nat) : Int)) = true:=Q6 q6;have z:=qxm r.toNat q;have hX : Sort.xorNextN r.toNat < 18446744073709551616:=Sort.xorNextN_lt _ q;have g : Sort.bitsLen (b - a)≤20:=(Sort.bitsLen_le_iff _ 20).2 q6;have h : (2 : Nat) ^ Sort.bitsLen (b - a)≤2 ^ 20:=Nat.pow_le_pow_right Q0 g;have hp1 : 0 < (2 : Nat) ^ Sort.bitsLen (b - a):=Nat.two_pow_pos _;have ah:=Sort.two_pow_bitsLen_le (n:=b - a) q6;have c : (1 : Nat) <<< Sort.bitsLen (b - a) = 2 ^ Sort.bitsLen (b - a):=Nat.one_shiftLeft _
  have em : IntKind.u64.wrap (((1 <<< Sort.bitsLen (b - a) : Nat) : Int) - 1) = ((1 <<< Sort.bitsLen (b - a) - 1 : Nat) : Int):=by
    rw [q1c,c];generalize (2 : Nat) ^ Sort.bitsLen (b - a) = p at h hp1;omega
  have f : (Sort.xorNextN r.toNat) &&& (1 <<< Sort.bitsLen (b - a) - 1) < 2 ^ Sort.bitsLen (b - a):=by
    rw [c];have : (Sort.xorNextN r.toNat) &&& (2 ^ Sort.bitsLen (b - a) - 1)≤2 ^ Sort.bitsLen (b - a) - 1:=Nat.and_le_right;omega
  have l:=andU (Sort.xorNextN r.toNat) (1 <<< Sort.bitsLen (b - a) - 1) hX (by rw [c];omega);unfold Sort.breakStep;simp only [Sort.xorNext_toNat];generalize hm : (Sort.xorNextN r.toNat) &&& (1 <<< Sort.bitsLen (b - a) - 1) = m at f l;have ai : m < 2 * (b - a):=by omega
  have ew : w64 (m : Int) = (m : Int):=Qc q6
  have s : (cond (decide ((m : Int) ≥ ((b - a : Nat) : Int))) (some (w64 ((m : Int) - ((b - a : Nat) : Int)))) (some (m : Int))) = some (((if m ≥ b - a then m - (b - a) else m) : Nat) : Int):=by
    by_cases j : m ≥ b - a
    · have t : decide ((m : Int) ≥ ((b - a : Nat) : Int)) = true:=Q6 q6;rw [t,qw,qp j,wsub j q6]
    · have t : decide ((m : Int) ≥ ((b - a : Nat) : Int)) = false:=Q9 q6;rw [t,qv,qs j]
  have ho : (if m ≥ b - a then m - (b - a) else m) < b - a:=by split <;> omega
  generalize (if m ≥ b - a then m - (b - a) else m) = o at s ho;have eo : w64 ((a : Int) + (o : Int)) = ((a + o : Nat) : Int):=by rw [Qc q6];omega
  refine ⟨?_,hd.swp q6 q6⟩;simp only [Jt,v,u,e2,x,w,h0,qw,z,qj,em,l,ew,s,eo,gx (d:=d) (k:=a + o) q6,gx (d:=d) (k:=a + (b - a) / 4 * 2 - 1 + k) q6,gxs (d:=d) (k:=a + o) q6,Int.toNat_natCast,gswp,w1p (a + (b - a) / 4 * 2 - 1 + k) q6]
theorem qkt {a b n : Nat} (hb : b≤n) (x : a < b) {d : Array T} (hd : AllP n P d) : Um q d.toList (a : Int) (b : Int) = some (Sort.breakPatterns d a b).toList:=by
  have z:=hd.2.1;have h : w64 ((b : Int) - (a : Int)) = ((b - a : Nat) : Int):=wsub q6 q6;unfold Um Sort.breakPatterns;simp only [h];by_cases f : b - a ≥ 8
  · have t : decide (((b - a : Nat) : Int) ≥ 8) = true:=Q6 q6;rw [t,qw,qp f,qoh _ q6,qj]
    have g : w64 (Int.tdiv ((b - a : Nat) : Int) 4) = (((b - a) / 4 : Nat) : Int):=by
      rw [Int.tdiv_eq_ediv_of_nonneg q6,Qc q6];omega
    have r : w64 ((((b - a) / 4 : Nat) : Int) * 2) = (((b - a) / 4 * 2 : Nat) : Int):=by rw [Qc q6];omega
    have m : w64 ((a : Int) + (((b - a) / 4 * 2 : Nat) : Int)) = ((a + (b - a) / 4 * 2 : Nat) : Int):=by rw [Qc q6];omega
    have u : w64 (((a + (b - a) / 4 * 2 : Nat) : Int) - 1) = ((a + (b - a) / 4 * 2 - 1 : Nat) : Int):=by rw [Qc q6];omega
    have s : IntKind.u64.wrap ((b - a : Nat) : Int) = (((UInt64.ofNat (b - a)).toNat : Nat) : Int):=by
      rw [q1c,UInt64.toNat_ofNat'];omega
    rw [g,r,m,u,s];obtain ⟨o,k⟩:=qb7 hb f hd 0 q6 (UInt64.ofNat (b - a));obtain ⟨j,p⟩:=qb7 hb f k 1 q6 (Sort.breakStep a (b - a) (1 <<< Sort.bitsLen (b - a)) (UInt64.ofNat (b - a),d) (a + (b - a) / 4 * 2 - 1 + 0)).1;obtain ⟨l,v⟩:=qb7 hb f p 2 q6 (Sort.breakStep a (b - a) (1 <<< Sort.bitsLen (b - a)) ((Sort.breakStep a (b - a) (1 <<< Sort.bitsLen (b - a)) (UInt64.ofNat (b - a),d) (a + (b - a) / 4 * 2 - 1 + 0)).1,(Sort.breakStep a (b - a) (1 <<< Sort.bitsLen (b - a)) (UInt64.ofNat (b - a),d) (a + (b - a) / 4 * 2 - 1 + 0)).2) (a + (b - a) / 4 * 2 - 1 + 1)).1;simp only [Nat.add_zero,Prod.eta] at o j l k p v;rw [Km o,Km j,Km l]
    have c : Jt (T:=T) (a : Int) (b : Int) ((1 <<< Sort.bitsLen (b - a) : Nat) : Int) (((a + (b - a) / 4 * 2 - 1 + 2 + 1 : Nat) : Int),(Sort.breakStep a (b - a) (1 <<< Sort.bitsLen (b - a)) (Sort.breakStep a (b - a) (1 <<< Sort.bitsLen (b - a)) (Sort.breakStep a (b - a) (1 <<< Sort.bitsLen (b - a)) (UInt64.ofNat (b - a),d) (a + (b - a) / 4 * 2 - 1)) (a + (b - a) / 4 * 2 - 1 + 1)) (a + (b - a) / 4 * 2 - 1 + 2)).2.toList,(((Sort.breakStep a (b - a) (1 <<< Sort.bitsLen (b - a)) (Sort.breakStep a (b - a) (1 <<< Sort.bitsLen (b - a)) (Sort.breakStep a (b - a) (1 <<< Sort.bitsLen (b - a)) (UInt64.ofNat (b - a),d) (a + (b - a) / 4 * 2 - 1)) (a + (b - a) / 4 * 2 - 1 + 1)) (a + (b - a) / 4 * 2 - 1 + 2)).1.toNat : Nat) : Int)) = some (.inr (Sort.breakStep a (b - a) (1 <<< Sort.bitsLen (b - a)) (Sort.breakStep a (b - a) (1 <<< Sort.bitsLen (b - a)) (Sort.breakStep a (b - a) (1 <<< Sort.bitsLen (b - a)) (UInt64.ofNat (b - a),d) (a + (b - a) / 4 * 2 - 1)) (a + (b - a) / 4 * 2 - 1 + 1)) (a + (b - a) / 4 * 2 - 1 + 2)).2.toList):=by
      have w : w64 (((a + (b - a) / 4 * 2 : Nat) : Int) + 1) = ((a + (b - a) / 4 * 2 + 1 : Nat) : Int):=w1p _ q6;have y : decide (((a + (b - a) / 4 * 2 - 1 + 2 + 1 : Nat) : Int)≤((a + (b - a) / 4 * 2 + 1 : Nat) : Int)) = false:=Q9 q6;simp only [Jt,h,g,r,m,w,y,qv]
    rw [Kb c];rfl
  · have t : decide (((b - a : Nat) : Int) ≥ 8) = false:=Q9 q6;rw [t,qv,qs f]
end
end Go.Sh
