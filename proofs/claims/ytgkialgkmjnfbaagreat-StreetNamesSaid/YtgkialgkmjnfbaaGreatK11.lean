/- Pl1 Pl2 Pl3 Pg0 Pg1 Pg2 Pg3 -/
import Derived.Test.YtgkialgkmjnfbaaGreatK10
import Derived.Sort.AssemblyPlain
import Derived.Sort.LotD5
namespace Go.Sh
open Go Go.Am
def has (s : List ql) (x : Int) : Prop:=∃ t∈s,t.Lo≤x∧x < t.Hi
def Can (s : List ql) : Prop:=(∀ t∈s,t.Lo < t.Hi)∧s.Pairwise (fun a b=>a.Hi < b.Lo)
def vld (t : ql) : Prop:=t.Lo < t.Hi∧-1000000≤t.Lo∧t.Hi≤1000000
instance (t : ql) : Decidable (vld t):=by unfold vld;exact inferInstance
def Good (s : List ql) : Prop:=(∀ t∈s,vld t)∧s.Pairwise (fun a b=>a.Hi < b.Lo)
theorem Good.can {s : List ql} (h : Good s) : Can s:=⟨fun t a=>(h.1 t a).1,h.2⟩
theorem q2v (x : Int) : ¬ has [] x:=by rintro ⟨t,h,_⟩;cases h
theorem Ji {a : ql} {s : List ql} {x : Int} : has (a::s) x↔(a.Lo≤x∧x < a.Hi)∨has s x:=by
  constructor
  · rintro ⟨t,b,h⟩;rcases List.mem_cons.1 b with rfl | b
    · exact .inl h
    · exact .inr ⟨t,b,h⟩
  · rintro (h | ⟨t,b,h⟩)
    · exact ⟨a,qd,h⟩
    · exact ⟨t,by simp [b],h⟩
theorem qtf {a b : List ql} {x : Int} : has (a ++ b) x↔has a x∨has b x:=by
  induction a with
  | nil=>simp [q2v]
  | cons t r ih=>simp only [List.cons_append,Ji,ih,or_assoc]
theorem Can.tail {a : ql} {s : List ql} (h : Can (a::s)) : Can s:=⟨fun t b=>h.1 t (by simp [b]),(List.pairwise_cons.1 h.2).2⟩
theorem Can.lt {a : ql} {s : List ql} (h : Can (a::s)) : ∀ t∈s,a.Hi < t.Lo:=(List.pairwise_cons.1 h.2).1
theorem Can.tail_gt {a : ql} {s : List ql} (h : Can (a::s)) {x : Int} (c : has s x) : a.Hi < x:=by
  obtain ⟨t,b,f,d⟩:=c;have:=h.lt t b;omega
theorem qi6 : ∀ {s t : List ql},Can s→Can t→(∀ x,has s x↔has t x)→s = t
  | [],[],_,_,_=>rfl
  | [],b::t,_,c,h=>absurd ((h b.Lo).2 (Ji.2 (.inl ⟨Int.le_refl _,c.1 b qd⟩))) (q2v _)
  | a::s,[],hs,_,h=>absurd ((h a.Lo).1 (Ji.2 (.inl ⟨Int.le_refl _,hs.1 a qd⟩))) (q2v _)
  | a::s,b::t,hs,c,h=>by
    have l:=hs.1 a qd
    have hb:=c.1 b qd
    have lo : ∀ {a b : ql} {s t : List ql},Can (a::s)→Can (b::t)→(∀ x,has (a::s) x↔has (b::t) x)→b.Lo≤a.Lo:=by
      intro a b s t hs c h;rcases Ji.1 ((h a.Lo).1 (Ji.2 (.inl ⟨Int.le_refl _,hs.1 a qd⟩))) with d | d
      · exact d.1
      · have:=c.tail_gt d;have:=c.1 b qd;omega
    have e1 : a.Lo = b.Lo:=Int.le_antisymm (lo c hs fun x=>(h x).symm) (lo hs c h)
    have hi : ∀ {a b : ql} {s t : List ql},Can (a::s)→Can (b::t)→(∀ x,has (a::s) x↔has (b::t) x)→a.Lo = b.Lo→b.Hi≤a.Hi:=by
      intro a b s t hs c h e;have l:=hs.1 a qd;have hb:=c.1 b qd;refine Int.not_lt.1 fun j=>?_;rcases Ji.1 ((h a.Hi).2 (Ji.2 (.inl ⟨q8,j⟩))) with d | d
      · omega
      · have:=hs.tail_gt d;omega
    have k : a.Hi = b.Hi:=Int.le_antisymm (hi c hs (fun x=>(h x).symm) e1.symm) (hi hs c h e1)
    have e : a = b:=by cases a;cases b;simp at e1 k;simp [e1,k]
    subst e
    congr 1
    refine qi6 hs.tail c.tail fun x=>⟨fun g=>?_,fun g=>?_⟩
    · have d:=hs.tail_gt g
      rcases Ji.1 ((h x).1 (Ji.2 (.inr g))) with f | f
      · omega
      · exact f
    · have d:=c.tail_gt g
      rcases Ji.1 ((h x).2 (Ji.2 (.inr g))) with f | f
      · omega
      · exact f
theorem qoe (t : ql) : q3v t = some (decide (vld t)):=by
  unfold q3v vld;by_cases a : t.Lo < t.Hi <;> by_cases b : -1000000≤t.Lo <;> by_cases c : t.Hi≤1000000 <;> simp [a,b,c]
open Classical in
noncomputable def q1l (s : List ql) : Int:=if 400 < s.length then 4 else if Good s then 0 else 8
def qhl (s : List ql) (k : Nat) : Prop:=(∀ i (h : i < s.length),i < k→vld s[i])∧∀ i (h : i + 1 < s.length),i + 1 < k→s[i].Hi < s[i+1].Lo
theorem qt3 {s : List ql} (h : qhl s s.length) : Good s:=by
  refine ⟨fun t d=>?_,?_⟩
  · obtain ⟨i,hi,rfl⟩:=List.mem_iff_getElem.1 d;exact h.1 i hi hi
  · have key : ∀ i j (hi : i < s.length) (a : j < s.length),i < j→s[i].Hi < s[j].Lo:=by
      intro i j hi a b
      induction j with
      | zero=>omega
      | succ j ih=>
        have c:=h.2 j a a;by_cases e : i = j
        · subst e;exact c
        · have f:=ih q8 q8;have g:=(h.1 j q8 q8).1;omega
    rw [List.pairwise_iff_getElem];exact key
theorem Good.get {s : List ql} (h : Good s) (i : Nat) (hi : i < s.length) : vld s[i]:=h.1 _ (Yi hi)
theorem Good.nxt {s : List ql} (h : Good s) (i j : Nat) (hi : i < s.length) (b : j < s.length) (a : i < j) : s[i].Hi < s[j].Lo:=List.pairwise_iff_getElem.1 h.2 i j hi b a
theorem qid (s : List ql) : qdj s = some (q1l s):=by
  unfold qdj q1l;by_cases m : 400 < s.length
  · have : decide ((s.length : Int) > 400) = true:=by simp;omega
    simp [this,m]
  · have hd : decide ((s.length : Int) > 400) = false:=by simp;omega
    simp only [hd,m,if_false,Q6];have:=Yx (f:=q4v s) (σ:=Unit) (fun k _=>(k : Int)) s.length (fun k _=>qhl s k) (fun b=>(b = .inl ()∧Good s)∨(b = .inr 8∧¬ Good s)) ?_ ?_ (k0:=0) (c0:=()) q8 ⟨fun i _ h=>q8,fun i _ h=>q8⟩
    · obtain ⟨b,l,d⟩:=this;have l : loop (q4v s) 0 = some b:=l;rw [l];rcases d with ⟨rfl,d⟩ | ⟨rfl,d⟩ <;> simp [d]
    · intro k _ hk g;have hb : decide ((k : Int) < (s.length : Int)) = true:=by simp;omega
      simp only [q4v,hb,Qb,Ko hk,qr,qoe];have bad : ¬ Good s→∃ b,(some (Sum.inr (Sum.inr 8)) : Option (Int ⊕ (Unit ⊕ Int))) = some (.inr b)∧((b = .inl ()∧Good s)∨(b = .inr 8∧¬ Good s)):=fun h=>⟨_,rfl,.inr ⟨rfl,h⟩⟩
      by_cases c : vld s[k]
      · simp only [c,decide_true,Bool.not_true,Q6];by_cases n : k = 0
        · subst n;refine .inl ⟨(),by simp [Qh],⟨fun i hi h=>?_,fun i hi h=>q8⟩⟩
          (obtain rfl : i = 0:=by omega)
          exact c
        · obtain ⟨j,rfl⟩ : ∃ j,k = j + 1:=⟨k - 1,q8⟩
          have hp : decide (((j + 1 : Nat) : Int) > 0) = true:=Q9 q8
          have o : idx s (w64 (((j + 1 : Nat) : Int) - 1)) = some (s[j]'(q8)):=by
            rw [Qh q8];exact q86 q8 q8
          simp only [hp,Qb,o,qr];by_cases a : s[j].Hi < s[j+1].Lo
          · have : decide (s[j].Hi ≥ s[j+1].Lo) = false:=by simp;omega
            simp only [this,Q6];rw [Qh q8];refine .inl ⟨(),rfl,⟨fun i hi h=>?_,fun i hi h=>?_⟩⟩
            · by_cases e : i = j + 1
              · subst e;exact c
              · exact g.1 i hi q8
            · by_cases e : i = j
              · subst e;exact a
              · exact g.2 i hi q8
          · have : decide (s[j].Hi ≥ s[j+1].Lo) = true:=by simp;omega
            simp only [this,Qb];exact .inr (bad fun h=>a (h.nxt j (j + 1) q8 hk q8))
      · simp only [c,decide_false,Bool.not_false,Qb,qr];exact .inr (bad fun h=>c (h.get k hk))
    · intro _ g;have hb : decide ((s.length : Int) < (s.length : Int)) = false:=by simp
      simp only [q4v,hb,Q6];exact ⟨_,rfl,.inl ⟨rfl,qt3 g⟩⟩
theorem qyv : qmo = q3v:=rfl
theorem qyt (s : List ql) : qgb s = q4v s:=by
  funext a;unfold qgb q4v;cases h : idx s a <;> simp [qyv]
theorem qyu (s : List ql) : qd9 s = some (q1l s):=by
  rw [← qid];unfold qd9 qdj;rw [qyt]
open Classical in
theorem qmm (s : List ql) (x : Int) (j : s.length≤1000000) : qda s x = some (decide (has s x)):=by
  have:=Yx (f:=q8u s x) (σ:=Unit) (fun k _=>(k : Int)) s.length (fun k _=>∀ i (h : i < s.length),i < k→¬ (s[i].Lo≤x∧x < s[i].Hi)) (fun b=>(b = .inl ()∧¬ has s x)∨(b = .inr true∧has s x)) ?_ ?_ (k0:=0) (c0:=()) q8 (fun i _ h=>q8)
  · obtain ⟨b,c,a⟩:=this;have c : loop (q8u s x) 0 = some b:=c;unfold qda;rw [c];rcases a with ⟨rfl,a⟩ | ⟨rfl,a⟩ <;> simp [a]
  · intro k _ hk d;have hb : decide ((k : Int) < (s.length : Int)) = true:=Q9 q8;simp only [q8u,hb,Qb,Ko hk,qr];by_cases c : s[k].Lo≤x <;> by_cases a : x < s[k].Hi
    · exact .inr ⟨.inr true,by simp [c,a],.inr ⟨rfl,s[k],Yi hk,c,a⟩⟩
    all_goals
      refine .inl ⟨(),by simp [c,a];exact Qh q8,fun i hi h=>?_⟩
      by_cases e : i = k
      · subst e;omega
      · exact d i hi q8
  · intro _ d;have hb : decide ((s.length : Int) < (s.length : Int)) = false:=Qa q8;simp only [q8u,hb,Q6];refine ⟨_,rfl,.inl ⟨rfl,?_⟩⟩;rintro ⟨t,g,h⟩;obtain ⟨i,hi,rfl⟩:=List.mem_iff_getElem.1 g;exact d i hi hi h
end Go.Sh
namespace Go.Sh
open Go Go.Am
theorem qtn (out : List Int) (v : Int) (b : Nat) (hb : b≤out.length) :
    (cpyw (out ++ [0]) (b + 1,(out ++ [0]).length - (b + 1)) ((((out ++ [0]).drop b).take ((out ++ [0]).length - b)))).set b v = out.take b ++ v::out.drop b:=by
  have e1 : ((out ++ [0]).drop b).take ((out ++ [0]).length - b) = (out ++ [0]).drop b:=List.take_of_length_le qd;rw [e1];unfold cpyw splice;have h : (min ((out ++ [0]).drop b).length ((out ++ [0]).length - (b + 1))) = out.length - b:=by simp;omega
  simp only [h]
  have c : ((out ++ [0]).drop b).take (out.length - b) = out.drop b:=by
    rw [List.drop_append_of_le_length hb,List.take_append_of_le_length qd];exact List.take_of_length_le qd
  rw [c]
  have g : (out ++ [0]).drop (b + 1 + (out.drop b).length) = []:=by
    apply List.drop_of_length_le;simp;omega
  rw [g,List.append_nil]
  have a : ∃ y,(out ++ [0]).take (b + 1) = out.take b ++ [y]:=by
    refine ⟨(out ++ [0])[b]'(by simp;omega),?_⟩;rw [List.take_succ_eq_append_getElem (by simp;omega),List.take_append_of_le_length hb]
  obtain ⟨y,f⟩:=a
  have key : ∀ (xs ys : List Int) (y v : Int),(xs ++ (y::ys)).set xs.length v = xs ++ v::ys:=by
    intro xs ys y v
    induction xs with
    | nil=>rfl
    | cons x xs ih=>simp [ih]
  have d : (out.take b).length = b:=by simp;omega
  rw [f,List.append_assoc];have:=key (out.take b) (out.drop b) y v;rw [d] at this;exact this
def q5b (l out : List Int) : Prop:=out.Pairwise (· < ·)∧∀ x,x∈out↔x∈l
theorem q123 (a : Int × List Int) (l : List Int) (i : Nat) (hi : i < l.length) (q : a.1 = i) (o : a.2.length≤1000000) (hs : a.2.Pairwise (· < ·)) :
    ∃ b : Int,loop (q8y a l) (a.2.length : Int) = some b∧∃ k : Nat,b = k∧k≤a.2.length∧(∀ j (h : j < a.2.length),k≤j→l[i] < a.2[j])∧(∀ j (h : j < a.2.length),j < k→a.2[j]≤l[i]):=by
  refine quc (fun b : Int=>∃ k : Nat,b = k∧k≤a.2.length∧(∀ j (h : j < a.2.length),k≤j→l[i] < a.2[j])) (fun b=>b.toNat) _ ?_ ⟨a.2.length,rfl,q8,fun j h f=>q8⟩;rintro b ⟨k,rfl,hk,c⟩
  cases k with
  | zero=>
    refine .inr ⟨0,?_,0,rfl,q8,c,fun j h f=>q8⟩;simp [q8y]
  | succ k=>
    have n : decide (((k + 1 : Nat) : Int) > 0) = true:=Q9 q8;have p : idx a.2 (w64 (((k + 1 : Nat) : Int) - 1)) = some (a.2[k]'(q8)):=by rw [Qh q8];exact q86 q8 q8
    have m : idx l a.1 = some l[i]:=by rw [q];exact Ko hi
    have d : k < a.2.length:=by omega
    by_cases g : a.2[k] > l[i]
    · refine .inl ⟨(k : Int),?_,⟨k,rfl,q8,fun j h f=>?_⟩,qd⟩
      · simp only [q8y,n,p,m,Qb,qr,g,decide_true];rw [Qh q8];congr 2;omega
      · by_cases e : j = k
        · subst e;exact g
        · exact c j h q8
    · refine .inr ⟨((k + 1 : Nat) : Int),?_,k + 1,rfl,hk,c,fun j h f=>?_⟩
      · simp only [q8y,n,p,m,Qb,qr,g,decide_false,Q6]
      · by_cases e : j = k
        · subst e;omega
        · have : a.2[j] < a.2[k]:=List.pairwise_iff_getElem.1 hs j k h d q8;omega
theorem qo8 {l out : List Int} {v : Int} {i : Nat} (hi : i < l.length) (c : l[i] = v) (h : q5b (l.take i) out) (a : List Int) (hs : a.Pairwise (· < ·)) (b : ∀ x,x∈a↔x∈out∨x = v) : q5b (l.take (i + 1)) a:=by
  refine ⟨hs,fun x=>?_⟩;rw [b,h.2,List.take_succ_eq_append_getElem hi];simp [c]
theorem q124 (l : List Int) (hl : l.length≤1000000) : ∃ t,qge l = some t∧q5b l t∧t.length≤l.length:=by
  have:=Yx (f:=q8x l) (σ:=List Int) (fun k c=>((k : Int),c)) l.length (fun k c=>q5b (l.take k) c∧c.length≤k) (fun t=>q5b l t∧t.length≤l.length) ?_ ?_ (k0:=0) (c0:=[]) q8 ⟨⟨.nil,qd⟩,qd⟩
  · obtain ⟨b,g,n⟩:=this;have g : loop (q8x l) (0,[]) = some b:=g;exact ⟨b,by unfold qge;rw [g];rfl,n⟩
  · intro k c hk a;obtain ⟨a,al⟩:=a;have hb : decide ((k : Int) < (l.length : Int)) = true:=Q9 q8;obtain ⟨b,v,j,rfl,hj,p,q⟩:=q123 ((k : Int),c) l k hk rfl (by simp;omega) a.1;simp only at hj p q v;refine .inl ?_;simp only [q8x,hb,Qb,v,qr,Ko hk];have hw : w64 ((k : Int) + 1) = ((k + 1 : Nat) : Int):=by rw [Qh q8];omega
    by_cases o : 0 < j∧∃ h : j - 1 < c.length,c[j-1] = l[k]
    · obtain ⟨s,d,he⟩:=o;have u : decide ((j : Int) > 0) = true:=Q9 q8;have g : idx c (w64 ((j : Int) - 1)) = some (c[j-1]):=by rw [Qh q8];exact q86 q8 d
      refine ⟨c,by simp only [u,g,Qb,qr,he,beq_self_eq_true,hw],?_,q8⟩;refine qo8 hk rfl a c a.1 fun x=>⟨.inl,?_⟩
      rintro (h | rfl)
      · exact h
      · rw [← he];exact Yi d
    · have hc : (cond (decide ((j : Int) > 0)) ((idx c (w64 ((j : Int) - 1))).bind fun w=>some (w == l[k])) (some false)) = some false:=by
        by_cases s : 0 < j
        · have d : j - 1 < c.length:=by omega
          have u : decide ((j : Int) > 0) = true:=Q9 q8;have g : idx c (w64 ((j : Int) - 1)) = some (c[j-1]):=by rw [Qh q8];exact q86 q8 d
          simp only [u,g,Qb,qr];have : c[j-1]≠l[k]:=fun e=>o ⟨s,d,e⟩;simp [this]
        · have u : decide ((j : Int) > 0) = false:=Qa q8;simp only [u,Q6]
      have aa : app 8 c [0] = some (c ++ [0]):=Jc (by simp;omega)
      have ac : sub2 (c ++ [0]).length (w64 ((j : Int) + 1)) ((c ++ [0]).length : Int) = some (j + 1,(c ++ [0]).length - (j + 1)):=by
        rw [Qh q8];unfold sub2;rw [qu ⟨q8,by simp;omega,q8⟩];congr 2
      have ad : sub2 (c ++ [0]).length (j : Int) ((c ++ [0]).length : Int) = some (j,(c ++ [0]).length - j):=by
        unfold sub2;rw [qu ⟨q8,by simp;omega,q8⟩];congr 2
      simp only [hc,qr,Q6,aa,ac,ad]
      have r : j < (cpyw (c ++ [0]) (j + 1,(c ++ [0]).length - (j + 1)) (((c ++ [0]).drop j).take ((c ++ [0]).length - j))).length:=by
        rw [qqs (by simp;omega)];simp;omega
      rw [Ko r];simp only [qr,Int.toNat_natCast,qtn c l[k] j hj,hw];refine ⟨_,rfl,?_,by simp;omega⟩;refine qo8 hk rfl a _ ?_ fun x=>?_
      · rw [List.pairwise_append];refine ⟨a.1.sublist (List.take_sublist _ _),?_,?_⟩
        · rw [List.pairwise_cons];refine ⟨fun y hy=>?_,a.1.sublist (List.drop_sublist _ _)⟩;obtain ⟨i,hi,rfl⟩:=List.mem_iff_getElem.1 hy;rw [List.getElem_drop];exact p _ _ q8
        · intro y hy z hz;obtain ⟨i,hi,rfl⟩:=List.mem_iff_getElem.1 hy;rw [List.getElem_take];simp at hi;have g:=q i q8 q8;have n : c[i]≠l[k]∧c[i] < l[k]∨c[i] = l[k]:=by omega
          have h3 : c[i] < l[k]:=by
            rcases n with n | n
            · exact n.2
            · exfalso;by_cases e : i = j - 1
              · subst e;exact o ⟨q8,q8,n⟩
              · have : c[i] < c[j-1]'(q8):=List.pairwise_iff_getElem.1 a.1 i (j-1) q8 q8 q8;have:=q (j-1) q8 q8;omega
          rcases List.mem_cons.1 hz with rfl | hz
          · exact h3
          · obtain ⟨m,hm,rfl⟩:=List.mem_iff_getElem.1 hz;rw [List.getElem_drop];simp at hm;have:=p (j + m) q8 q8;omega
      · constructor
        · intro h;rcases List.mem_append.1 h with h | h
          · exact .inl (List.mem_of_mem_take h)
          · rcases List.mem_cons.1 h with h | h
            · exact .inr h
            · exact .inl (List.mem_of_mem_drop h)
        · rintro (h | rfl)
          · rw [← List.take_append_drop j c] at h;rcases List.mem_append.1 h with h | h
            · exact List.mem_append_left _ h
            · exact List.mem_append_right _ (List.mem_cons_of_mem _ h)
          · simp
  · intro c a;have hb : decide ((l.length : Int) < (l.length : Int)) = false:=Qa q8;simp only [q8x,hb,Q6];refine ⟨_,rfl,by simpa using a.1,a.2⟩
def ends (s : List ql) : List Int:=s.flatMap fun t=>[t.Lo,t.Hi]
theorem q8f {s : List ql} {x : Int} : x∈ends s↔∃ t∈s,x = t.Lo∨x = t.Hi:=by simp [ends]
theorem qs8 {s : List ql} {k : Nat} (h : k < s.length) : ends (s.take (k + 1)) = ends (s.take k) ++ [s[k].Lo,s[k].Hi]:=by
  unfold ends;rw [List.take_succ_eq_append_getElem h,List.flatMap_append];simp
theorem qce (s : List ql) : (ends s).length = 2 * s.length:=by
  induction s with
  | nil=>rfl
  | cons t r ih=>simp only [ends,List.flatMap_cons,List.length_append,List.length_cons,List.length_nil] at ih ⊢;omega
theorem qja (s : List ql) (c0 : List Int) (hs : s.length≤100000) (d : c0.length≤200000) : loop (q8t s) (0,c0) = some (c0 ++ ends s):=by
  have:=Yx (f:=q8t s) (σ:=List Int) (fun k c=>((k : Int),c)) s.length (fun k c=>c = c0 ++ ends (s.take k)) (fun t=>t = c0 ++ ends s) ?_ ?_ (k0:=0) (c0:=c0) q8 (by simp [ends])
  · obtain ⟨b,a,rfl⟩:=this;exact a
  · rintro k c hk rfl;have hb : decide ((k : Int) < (s.length : Int)) = true:=Q9 q8;refine .inl ⟨c0 ++ ends (s.take (k + 1)),?_,rfl⟩;simp only [q8t,hb,Qb,Ko hk,qr];rw [Jc (by simp [qce];omega),Qh q8,qs8 hk];simp
  · rintro c rfl;have hb : decide ((s.length : Int) < (s.length : Int)) = false:=Qa q8;simp [q8t]
theorem qs7 (p q : List ql) (hp : p.length≤100000) (a : q.length≤100000) : ∃ t,qgc p q = some t∧q5b (ends p ++ ends q) t∧t.length≤2 * (p.length + q.length):=by
  have b : loop (qml q) (0,ends p) = some (ends p ++ ends q):=qja q (ends p) a (by rw [qce];omega);obtain ⟨t,f,c,d⟩:=q124 (ends p ++ ends q) (by simp [qce];omega);refine ⟨t,?_,c,by simp [qce] at d;omega⟩;unfold qgc;rw [qja p [] hp qd];simp only [List.nil_append,qr,b,f]
end Go.Sh
namespace Go.Sh
open Go Go.Am
def addS (c : List ql) (a b : Int) : List ql:=match c.getLast? with
  | some t=>if t.Hi = a then c.dropLast ++ [{Lo:=t.Lo,Hi:=b}] else c ++ [{Lo:=a,Hi:=b}]
  | none=>[{Lo:=a,Hi:=b}]
theorem qhq (a b : Int) : addS [] a b = [{Lo:=a,Hi:=b}]:=rfl
theorem qbw {c : List ql} {t : ql} {b : Int} : addS (c ++ [t]) t.Hi b = c ++ [{Lo:=t.Lo,Hi:=b}]:=by simp [addS]
theorem qbx {c : List ql} {t : ql} {a b : Int} (h : t.Hi≠a) : addS (c ++ [t]) a b = (c ++ [t]) ++ [{Lo:=a,Hi:=b}]:=by simp [addS,h]
theorem qdh {α : Type} (c : List α) : c = []∨∃ d t,c = d ++ [t]:=by
  rcases List.eq_nil_or_concat c with h | ⟨d,t,h⟩
  · exact .inl h
  · exact .inr ⟨d,t,by simpa using h⟩
theorem qeb {d : List ql} {t : ql} : Can (d ++ [t])↔Can d∧t.Lo < t.Hi∧∀ s∈d,s.Hi < t.Lo:=by
  unfold Can;constructor
  · rintro ⟨b,a⟩;rw [List.pairwise_append] at a;exact ⟨⟨fun s hs=>b s (by simp [hs]),a.1⟩,b t qd,fun s hs=>a.2.2 s hs t qd⟩
  · rintro ⟨⟨b,a⟩,g,f⟩;refine ⟨fun s hs=>?_,?_⟩
    · rcases List.mem_append.1 hs with hs | hs
      · exact b s hs
      · simp at hs;subst hs;exact g
    · rw [List.pairwise_append];exact ⟨a,qd,fun s hs u c=>by simp at c;subst c;exact f s hs⟩
theorem qfd {d : List ql} {t : ql} {x : Int} : has (d ++ [t]) x↔has d x∨(t.Lo≤x∧x < t.Hi):=by
  rw [qtf,Ji];simp [q2v]
theorem qhr {c : List ql} {a b : Int} (j : Can c) (g : ∀ t∈c,t.Hi≤a) (f : a < b) :
    Can (addS c a b)∧(∀ x,has (addS c a b) x↔has c x∨(a≤x∧x < b))∧(∀ t∈addS c a b,t.Hi≤b)∧(addS c a b).length≤c.length + 1∧
    (∀ t∈addS c a b,(t.Lo = a∨∃ u∈c,t.Lo = u.Lo)∧(t.Hi = b∨∃ u∈c,t.Hi = u.Hi)):=by
  rcases qdh c with rfl | ⟨d,t,rfl⟩
  · rw [qhq];refine ⟨⟨by simpa using f,qd⟩,fun x=>?_,qd,qd,qd⟩;rw [Ji];simp [q2v]
  · have h:=qeb.1 j;have k : t.Hi≤a:=g t qd;by_cases e : t.Hi = a
    · subst e;rw [qbw];refine ⟨qeb.2 ⟨h.1,by simp;omega,h.2.2⟩,fun x=>?_,fun s hs=>?_,qd,fun s hs=>?_⟩
      · rw [qfd,qfd];by_cases hd : has d x <;> simp only [hd,true_or,false_or] <;> omega
      · rcases List.mem_append.1 hs with hs | hs
        · have:=g s (by simp [hs]);omega
        · simp at hs;subst hs;simp
      · rcases List.mem_append.1 hs with hs | hs
        · exact ⟨.inr ⟨s,by simp [hs],rfl⟩,.inr ⟨s,by simp [hs],rfl⟩⟩
        · simp at hs;subst hs;exact ⟨.inr ⟨t,qd,rfl⟩,.inl rfl⟩
    · rw [qbx e];refine ⟨qeb.2 ⟨j,f,fun s hs=>?_⟩,fun x=>?_,fun s hs=>?_,qd,fun s hs=>?_⟩
      · rcases List.mem_append.1 hs with hs | hs
        · have:=h.2.2 s hs;simp only;omega
        · simp at hs;subst hs;simp only;omega
      · rw [qfd]
      · rcases List.mem_append.1 hs with hs | hs
        · have:=g s hs;omega
        · simp at hs;subst hs;simp
      · rcases List.mem_append.1 hs with hs | hs
        · exact ⟨.inr ⟨s,hs,rfl⟩,.inr ⟨s,hs,rfl⟩⟩
        · simp at hs;subst hs;exact ⟨.inl rfl,.inl rfl⟩
theorem qnj {d : List ql} {t u : ql} : (d ++ [t]).set d.length u = d ++ [u]:=by
  induction d with
  | nil=>rfl
  | cons x d ih=>simp [ih]
structure qdx (cuts : List Int) (ins : List Bool) (k : Nat) (c : List ql) : Prop where
  can : Can c
  pts : ∀ x,has c x↔∃ i,∃ (h : i + 1 < cuts.length) (h' : i < ins.length),i < k∧ins[i] = true∧cuts[i]≤x∧x < cuts[i + 1]
  hi : ∀ t∈c,∃ (h : k < cuts.length),t.Hi≤cuts[k]
  len : c.length≤k
  ends : ∀ t∈c,t.Lo∈cuts∧t.Hi∈cuts
theorem qpb (a : List Int) (g : List Bool) (hs : a.Pairwise (· < ·)) (hl : a.length≤1000000) (hi : a.length≤g.length + 1) :
    ∃ c,qga a g = some c∧qdx a g (a.length - 1) c:=by
  have:=Yx (f:=q8s a g) (σ:=List ql) (fun k c=>((k : Int),c)) (a.length - 1) (fun k c=>qdx a g k c) (fun c=>qdx a g (a.length - 1) c) ?_ ?_ (k0:=0) (c0:=[]) q8
    ⟨⟨qd,qd⟩,fun x=>⟨fun h=>absurd h (q2v x),fun ⟨i,_,_,h,_⟩=>q8⟩,qd,qd,qd⟩
  · obtain ⟨b,m,n⟩:=this;have m : loop (q8s a g) (0,[]) = some b:=m;exact ⟨b,by unfold qga;rw [m];rfl,n⟩
  · intro k c hk j;have hw : w64 ((k : Int) + 1) = ((k + 1 : Nat) : Int):=by rw [Qh q8];omega
    have l : k + 1 < a.length:=by omega
    have q : k < a.length:=by omega
    have z : k < g.length:=by omega
    have hb : decide (((k + 1 : Nat) : Int) < (a.length : Int)) = true:=Q9 q8;refine .inl ?_;simp only [q8s,hw,hb,Qb,Ko z,Ko l,Ko q,qr];have ai : a[k] < a[k+1]:=List.pairwise_iff_getElem.1 hs k (k+1) q l q8;have ab : ∀ t∈c,t.Hi≤a[k]:=fun t p=>(j.hi t p).2
    cases ac : g[k] with
    | false=>
      refine ⟨c,qd,j.can,fun x=>?_,fun t p=>⟨l,by have:=ab t p;omega⟩,by have:=j.len;omega,j.ends⟩;rw [j.pts];constructor
      · rintro ⟨i,m,n,h3,o⟩;exact ⟨i,m,n,q8,o⟩
      · rintro ⟨i,m,n,h3,o⟩;by_cases e : i = k
        · subst e;rw [ac] at o;simp at o
        · exact ⟨i,m,n,q8,o⟩
    | true=>
      have r : (cond (!true) (some c) ((cond (decide ((c.length : Int) > 0)) ((idx c (w64 ((c.length : Int) - 1))).bind fun ae=>some (ae.Hi == a[k])) (some false)).bind fun ad=>cond ad ((idx c (w64 ((c.length : Int) - 1))).bind fun aa=>some (c.set (w64 ((c.length : Int) - 1)).toNat ({Lo:=aa.Lo,Hi:=a[k+1]} : ql))) ((app 16 c [({Lo:=a[k],Hi:=a[k+1]} : ql)]).bind fun w=>some w))) = some (addS c a[k] a[k+1]):=by
        have s : ∀ y,app 16 c [y] = some (c ++ [y]):=fun y=>Jc (by have:=j.len;simp;omega);rcases qdh c with rfl | ⟨d,t,rfl⟩
        · simp [s,addS]
        · have h0 : decide ((((d ++ [t]).length : Nat) : Int) > 0) = true:=Q9 (by rw [List.length_append,List.length_singleton];omega);have aj:=j.len;have v : (((d ++ [t]).length : Nat) : Int) = d.length + 1:=by simp
          have ak : d.length + 1≤k:=by simpa using aj
          have m : w64 (((d ++ [t]).length : Int) - 1) = (d.length : Int):=by rw [v,Qh q8];omega
          have n : idx (d ++ [t]) (d.length : Int) = some t:=by rw [Ko qd];simp
          simp only [Bool.not_true,Q6,h0,Qb,m,n,qr,Int.toNat_natCast,qnj,s];by_cases e : t.Hi = a[k]
          · simp [e,← qbw]
          · have e' : (t.Hi == a[k]) = false:=by simpa using e
            simp only [e',Q6,qbx e]
      rw [r];obtain ⟨a1,a2,a3,a4,a5⟩:=qhr j.can ab ai;refine ⟨_,rfl,a1,fun x=>?_,fun t p=>⟨l,a3 t p⟩,by have:=j.len;omega,fun t p=>?_⟩
      · rw [a2,j.pts];constructor
        · rintro (⟨i,m,n,h3,o⟩ | h)
          · exact ⟨i,m,n,q8,o⟩
          · exact ⟨k,l,z,q8,ac,h⟩
        · rintro ⟨i,m,n,h3,o⟩;by_cases e : i = k
          · subst e;exact .inr o.2
          · exact .inl ⟨i,m,n,q8,o⟩
      · obtain ⟨b1,b2⟩:=a5 t p;constructor
        · rcases b1 with b1 | ⟨u,hu,b1⟩
          · rw [b1];exact Yi q
          · rw [b1];exact (j.ends u hu).1
        · rcases b2 with b2 | ⟨u,hu,b2⟩
          · rw [b2];exact Yi l
          · rw [b2];exact (j.ends u hu).2
  · intro c j;refine ⟨c,?_,j⟩
    have hw : decide (w64 (((a.length - 1 : Nat) : Int) + 1) < (a.length : Int)) = false:=by
      rw [Qh q8];exact Qa q8
    simp only [q8s,hw,Q6]
def q2w (kind : Int) (a b : Prop) : Prop:=(kind = 1∧a∧b)∨(kind = 2∧(a∨b))∨(kind≠1∧kind≠2∧a∧¬ b)
open Classical in
theorem qtj (kind : Int) (a b : Prop) : qgd kind (decide a) (decide b) = some (decide (q2w kind a b)):=by
  unfold qgd q2w;by_cases f : kind = 1
  · subst f;by_cases c : a <;> by_cases hb : b <;> simp [c,hb]
  · by_cases d : kind = 2
    · subst d;by_cases c : a <;> by_cases hb : b <;> simp [c,hb]
    · have e1 : (kind == 1) = false:=by simpa using f
      have g : (kind == 2) = false:=by simpa using d
      by_cases c : a <;> by_cases hb : b <;> simp [c,hb,f,d,e1,g]
theorem qde {c : List Int} (hs : c.Pairwise (· < ·)) {p : List ql} (m : ∀ x∈ends p,x∈c) {i : Nat} (h : i + 1 < c.length) {x : Int} (s : c[i]≤x) (r : x < c[i + 1]) : has p x↔has p c[i]:=by
  have mono : ∀ a b (k : a < c.length) (hb : b < c.length),c[a] < c[b]→a < b:=by
    intro a b k hb o;refine Nat.not_le.1 fun l=>?_;by_cases e : a = b
    · subst e;omega
    · have:=List.pairwise_iff_getElem.1 hs b a hb k q8;omega
  have d : ∀ a b (k : a < c.length) (hb : b < c.length),a≤b→c[a]≤c[b]:=by
    intro a b k hb l;by_cases e : a = b
    · subst e;omega
    · have:=List.pairwise_iff_getElem.1 hs a b k hb q8;omega
  constructor
  · rintro ⟨t,f,n,q⟩;refine ⟨t,f,?_,q8⟩;obtain ⟨j,g,e⟩:=List.mem_iff_getElem.1 (m t.Lo (q8f.2 ⟨t,f,.inl rfl⟩));have:=mono j (i + 1) g h q8;have:=d j i g q8 q8;omega
  · rintro ⟨t,f,n,q⟩;refine ⟨t,f,q8,?_⟩;obtain ⟨j,g,e⟩:=List.mem_iff_getElem.1 (m t.Hi (q8f.2 ⟨t,f,.inr rfl⟩));have:=mono i j q8 g q8;have:=d (i + 1) j h g q8;omega
theorem qkb {c : List Int} (hs : c.Pairwise (· < ·)) {p : List ql} (g : ∀ x∈ends p,x∈c) {x : Int} (h : has p x) : ∃ i,∃ (h : i + 1 < c.length),c[i]≤x∧x < c[i + 1]:=by
  obtain ⟨t,f,r,s⟩:=h;obtain ⟨a,l,u⟩:=List.mem_iff_getElem.1 (g t.Lo (q8f.2 ⟨t,f,.inl rfl⟩));obtain ⟨b,hb,v⟩:=List.mem_iff_getElem.1 (g t.Hi (q8f.2 ⟨t,f,.inr rfl⟩))
  have key : ∀ n j (k : j < c.length),j + n = b→c[j]≤x→∃ i,∃ (h : i + 1 < c.length),c[i]≤x∧x < c[i + 1]:=by
    intro n
    induction n with
    | zero=>intro j k e m;simp at e;subst e;omega
    | succ n ih=>
      intro j k e m;by_cases o : x < c[j+1]'(q8)
      · exact ⟨j,q8,m,o⟩
      · exact ih (j + 1) q8 q8 q8
  have q : a≤b:=by
    refine Nat.not_lt.1 fun d=>?_;have:=List.pairwise_iff_getElem.1 hs b a hb l d;omega
  exact key (b - a) a l q8 q8
structure qdz (kind : Int) (p q out : List ql) : Prop where
  can : Can out
  pts : ∀ x,has out x↔q2w kind (has p x) (has q x)
  ends : ∀ t∈out,(t.Lo∈ends p∨t.Lo∈ends q)∧(t.Hi∈ends p∨t.Hi∈ends q)
  len : out.length≤2 * (p.length + q.length)
open Classical in
theorem qts (a : List Int) (p q : List ql) (kind : Int) (h : a.length≤1000000) (hp : p.length≤100000) (g : q.length≤100000) :
    loop (q8v a p q kind) (0,[]) = some (a.map fun x=>decide (q2w kind (has p x) (has q x))):=by
  have:=Yx (f:=q8v a p q kind) (σ:=List Bool) (fun k c=>((k : Int),c)) a.length (fun k c=>c = (a.take k).map fun x=>decide (q2w kind (has p x) (has q x))) (fun t=>t = a.map fun x=>decide (q2w kind (has p x) (has q x))) ?_ ?_ (k0:=0) (c0:=[]) q8 qd
  · obtain ⟨b,d,rfl⟩:=this;exact d
  · rintro k c hk rfl;have hb : decide ((k : Int) < (a.length : Int)) = true:=Q9 q8;refine .inl ⟨_,?_,rfl⟩;simp only [q8v,hb,Qb,Ko hk,qr,qmm p _ (by omega : p.length≤1000000),qmm q _ (by omega : q.length≤1000000),qtj];rw [Jc (by simp;omega),Qh q8,List.take_succ_eq_append_getElem hk,List.map_append];rfl
  · rintro c rfl;have hb : decide ((a.length : Int) < (a.length : Int)) = false:=Qa q8;simp [q8v]
open Classical in
theorem qtt (kind : Int) (p q : List ql) (hp : p.length≤100000) (s : q.length≤100000) : ∃ out,qdb kind p q = some out∧qdz kind p q out:=by
  obtain ⟨d,y,⟨hs,l⟩,u⟩:=qs7 p q hp s;obtain ⟨c,v,k⟩:=qpb d (d.map fun x=>decide (q2w kind (has p x) (has q x))) hs q8 (by rw [List.length_map];omega);refine ⟨c,?_,k.can,fun x=>?_,fun t w=>?_,by have:=k.len;omega⟩
  · unfold qdb;rw [y];simp only [qr,qts d p q kind q8 hp s,v]
  · have mp : ∀ x∈ends p,x∈d:=fun x o=>(l x).2 (List.mem_append_left _ o);have m : ∀ x∈ends q,x∈d:=fun x o=>(l x).2 (List.mem_append_right _ o);rw [k.pts];constructor
    · rintro ⟨i,f,z,_,r,j,g⟩;simp only [List.getElem_map,decide_eq_true_eq] at r;rw [qde hs mp f j g,qde hs m f j g];exact r
    · intro h
      have n : has p x∨has q x:=by
        rcases h with ⟨_,h,_⟩ | ⟨_,h⟩ | ⟨_,_,h,_⟩
        · exact .inl h
        · exact h
        · exact .inl h
      obtain ⟨i,f,j,g⟩ : ∃ i,∃ (h : i + 1 < d.length),d[i]≤x∧x < d[i + 1]:=n.elim (qkb hs mp) (qkb hs m);refine ⟨i,f,by rw [List.length_map];omega,q8,?_,j,g⟩;simp only [List.getElem_map,decide_eq_true_eq];rw [← qde hs mp f j g,← qde hs m f j g];exact h
  · obtain ⟨a,b⟩:=k.ends t w;exact ⟨List.mem_append.1 ((l _).1 a),List.mem_append.1 ((l _).1 b)⟩
end Go.Sh
namespace Go.Sh
open Go Go.Am
def q4h : ByteArray:=⟨#[0,1,2,2,3,3,3,3,4,4,4,4,4,4,4,4,5,5,5,5,5,5,5,5,5,5,5,5,5,5,5,5,6,6,6,6,6,6,6,6,6,6,6,6,6,6,6,6,6,6,6,6,6,6,6,6,6,6,6,6,6,6,6,6,7,7,7,7,7,7,7,7,7,7,7,7,7,7,7,7,7,7,7,7,7,7,7,7,7,7,7,7,7,7,7,7,7,7,7,7,7,7,7,7,7,7,7,7,7,7,7,7,7,7,7,7,7,7,7,7,7,7,7,7,7,7,7,7,8,8,8,8,8,8,8,8,8,8,8,8,8,8,8,8,8,8,8,8,8,8,8,8,8,8,8,8,8,8,8,8,8,8,8,8,8,8,8,8,8,8,8,8,8,8,8,8,8,8,8,8,8,8,8,8,8,8,8,8,8,8,8,8,8,8,8,8,8,8,8,8,8,8,8,8,8,8,8,8,8,8,8,8,8,8,8,8,8,8,8,8,8,8,8,8,8,8,8,8,8,8,8,8,8,8,8,8,8,8,8,8,8,8,8,8,8,8,8,8,8,8,8,8,8,8,8,8]⟩
noncomputable def q3l (p0 : Int) : Option Int:=
  (cond (decide (p0 ≥ 4294967296)) (some (Int.fdiv p0 (2 ^ 32),32)) (some (p0,0))).bind fun b3=>(cond (decide (b3.1 ≥ 65536)) (some (Int.fdiv b3.1 (2 ^ 16),w64 (b3.2 + 16))) (some (b3.1,b3.2))).bind fun b6=>(cond (decide (b6.1 ≥ 256)) (some (Int.fdiv b6.1 (2 ^ 8),w64 (b6.2 + 8))) (some (b6.1,b6.2))).bind fun b9=>(q4y q4h (IntKind.wrap .u8 b9.1)).bind fun v10=>some (w64 (b9.2 + (w64 v10)))
noncomputable def q1p (p0 : Int) : Option Int:=
  (q3l p0).bind fun r1=>some r1
noncomputable def Ua {T : Type} (p1 : Int) (q1 : T→T→Option Int) (a459 : Int × List T) : Option ((Int × List T) ⊕ (List T)):=
  (cond (decide (a459.1 > p1)) ((idx a459.2 a459.1).bind fun v484=>(idx a459.2 (w64 (a459.1 - 1))).bind fun v486=>(q1 v484 v486).bind fun r488=>some (decide (r488 < 0))) (some false)).bind fun c469=>cond c469 ((idx a459.2 (w64 (a459.1 - 1))).bind fun v498=>(idx a459.2 a459.1).bind fun v500=>(idx a459.2 a459.1).bind fun _=>(idx (a459.2.set a459.1.toNat v498) (w64 (a459.1 - 1))).bind fun _=>some (.inl (w64 (a459.1 - 1),(a459.2.set a459.1.toNat v498).set (w64 (a459.1 - 1)).toNat v500))) (some (.inr a459.2))
noncomputable def q1t {T : Type} (p2 : Int) (p1 : Int) (q1 : T→T→Option Int) (a278 : Int × List T) : Option ((Int × List T) ⊕ (List T)):=
  cond (decide (a278.1 < p2)) (((loop (Ua p1 q1) (a278.1,a278.2)).bind fun x0=>some x0).bind fun b370=>some (.inl (w64 (a278.1 + 1),b370))) (some (.inr a278.2))
noncomputable def q2q {T : Type} (q1 : T→T→Option Int) (p0 : List T) (p1 : Int) (p2 : Int) : Option (List T):=
  (loop (q1t p2 p1 q1) (w64 (p1 + 1),p0)).bind fun x0=>some x0
noncomputable def Ue {T : Type} (p2 : Int) (p3 : Int) (q1 : T→T→Option Int) (a197 : Int × List T) : Option ((Int × List T) ⊕ (List T)):=
  cond (decide ((w64 ((w64 (2 * a197.1)) + 1)) ≥ p2)) (some (.inr a197.2)) ((cond (decide ((w64 ((w64 ((w64 (2 * a197.1)) + 1)) + 1)) < p2)) ((idx a197.2 (w64 (p3 + (w64 ((w64 (2 * a197.1)) + 1))))).bind fun v226=>(idx a197.2 (w64 ((w64 (p3 + (w64 ((w64 (2 * a197.1)) + 1)))) + 1))).bind fun v228=>(q1 v226 v228).bind fun r230=>some (decide (r230 < 0))) (some false)).bind fun c207=>(cond c207 (some (w64 ((w64 ((w64 (2 * a197.1)) + 1)) + 1))) (some (w64 ((w64 (2 * a197.1)) + 1)))).bind fun b234=>(idx a197.2 (w64 (p3 + a197.1))).bind fun v235=>(idx a197.2 (w64 (p3 + b234))).bind fun v237=>(q1 v235 v237).bind fun r239=>cond (!(decide (r239 < 0))) (some (.inr a197.2)) ((idx a197.2 (w64 (p3 + b234))).bind fun v241=>(idx a197.2 (w64 (p3 + a197.1))).bind fun v243=>(idx a197.2 (w64 (p3 + a197.1))).bind fun _=>(idx (a197.2.set (w64 (p3 + a197.1)).toNat v241) (w64 (p3 + b234))).bind fun _=>some (.inl (b234,(a197.2.set (w64 (p3 + a197.1)).toNat v241).set (w64 (p3 + b234)).toNat v243))))
noncomputable def q11 {T : Type} (q1 : T→T→Option Int) (p0 : List T) (p1 : Int) (p2 : Int) (p3 : Int) : Option (List T):=
  (loop (Ue p2 p3 q1) (p1,p0)).bind fun x0=>some x0
noncomputable def q1r {T : Type} (q1 : T→T→Option Int) (p2 : Int) (p1 : Int) (a123 : Int × List T) : Option ((Int × List T) ⊕ (List T)):=
  cond (decide (a123.1 ≥ 0)) ((q11 q1 a123.2 a123.1 (w64 (p2 - p1)) p1).bind fun e132=>(K1 e132.length a123.2.length).bind fun _=>some (.inl (w64 (a123.1 - 1),e132))) (some (.inr a123.2))
noncomputable def q1s {T : Type} (p1 : Int) (q1 : T→T→Option Int) (a191 : Int × List T) : Option ((Int × List T) ⊕ (List T)):=
  cond (decide (a191.1 ≥ 0)) ((idx a191.2 (w64 (p1 + a191.1))).bind fun v208=>(idx a191.2 p1).bind fun v210=>(idx a191.2 p1).bind fun _=>(idx (a191.2.set p1.toNat v208) (w64 (p1 + a191.1))).bind fun _=>(q11 q1 ((a191.2.set p1.toNat v208).set (w64 (p1 + a191.1)).toNat v210) 0 a191.1 p1).bind fun e216=>(K1 e216.length ((a191.2.set p1.toNat v208).set (w64 (p1 + a191.1)).toNat v210).length).bind fun _=>some (.inl (w64 (a191.1 - 1),e216))) (some (.inr a191.2))
noncomputable def q2p {T : Type} (q1 : T→T→Option Int) (p0 : List T) (p1 : Int) (p2 : Int) : Option (List T):=
  (loop (q1r q1 p2 p1) (w64 (Int.tdiv (w64 ((w64 (p2 - p1)) - 1)) 2),p0)).bind fun b126=>(loop (q1s p1 q1) (w64 ((w64 (p2 - p1)) - 1),b126)).bind fun x0=>some x0
noncomputable def q2r (p0 : Int) : Option Int:=
  (q1p (IntKind.wrap .u64 p0)).bind fun r1=>(shlK .u64 1 r1).bind fun q3=>some q3
noncomputable def q2u (p0 : Int) : Option Int:=
  some (xorI .u64 (xorI .u64 (xorI .u64 p0 (IntKind.wrap .u64 (p0 * (2 ^ 13)))) (Int.fdiv (xorI .u64 p0 (IntKind.wrap .u64 (p0 * (2 ^ 13)))) (2 ^ 7))) (IntKind.wrap .u64 ((xorI .u64 (xorI .u64 p0 (IntKind.wrap .u64 (p0 * (2 ^ 13)))) (Int.fdiv (xorI .u64 p0 (IntKind.wrap .u64 (p0 * (2 ^ 13)))) (2 ^ 7))) * (2 ^ 17))))
noncomputable def Uu {T : Type} (p1 : Int) (p2 : Int) (r101 : Int) (a153 : Int × List T × Int) : Option ((Int × List T × Int) ⊕ (List T)):=
  cond (decide (a153.1≤(w64 ((w64 (p1 + (w64 ((w64 (Int.tdiv (w64 (p2 - p1)) 4)) * 2)))) + 1)))) ((q2u a153.2.2).bind fun e168=>(cond (decide ((w64 (andI .u64 e168 (IntKind.wrap .u64 (r101 - 1)))) ≥ (w64 (p2 - p1)))) (some (w64 ((w64 (andI .u64 e168 (IntKind.wrap .u64 (r101 - 1)))) - (w64 (p2 - p1))))) (some (w64 (andI .u64 e168 (IntKind.wrap .u64 (r101 - 1)))))).bind fun b172=>(idx a153.2.1 (w64 (p1 + b172))).bind fun v173=>(idx a153.2.1 a153.1).bind fun v175=>(idx a153.2.1 a153.1).bind fun _=>(idx (a153.2.1.set a153.1.toNat v173) (w64 (p1 + b172))).bind fun _=>some (.inl (w64 (a153.1 + 1),(a153.2.1.set a153.1.toNat v173).set (w64 (p1 + b172)).toNat v175,e168))) (some (.inr a153.2.1))
noncomputable def q1q {T : Type} (_ : T→T→Option Int) (p0 : List T) (p1 : Int) (p2 : Int) : Option (List T):=
  cond (decide ((w64 (p2 - p1)) ≥ 8)) ((q2r (w64 (p2 - p1))).bind fun r101=>(loop (Uu p1 p2 r101) (w64 ((w64 (p1 + (w64 ((w64 (Int.tdiv (w64 (p2 - p1)) 4)) * 2)))) - 1),p0,IntKind.wrap .u64 (w64 (p2 - p1)))).bind fun x0=>some x0) (some p0)
noncomputable def Uw {T : Type} (q1 : T→T→Option Int) (p0 : List T) (p1 : Int) (p2 : Int) (p3 : Int) : Option (Int × Int × Int):=
  (idx p0 p2).bind fun v101=>(idx p0 p1).bind fun v103=>(q1 v101 v103).bind fun r105=>cond (decide (r105 < 0)) (some (p2,p1,w64 (p3 + 1))) (some (p1,p2,p3))
noncomputable def Uv {T : Type} (q1 : T→T→Option Int) (p0 : List T) (p1 : Int) (p2 : Int) (p3 : Int) (p4 : Int) : Option (Int × Int):=
  (Uw q1 p0 p1 p2 p4).bind fun e101=>(Uw q1 p0 e101.2.1 p3 e101.2.2).bind fun e103=>(Uw q1 p0 e101.1 e103.1 e103.2.2).bind fun e105=>some (e105.2.1,e105.2.2)
noncomputable def Ub {T : Type} (q1 : T→T→Option Int) (p0 : List T) (p1 : Int) (p2 : Int) : Option (Int × Int):=
  (Uv q1 p0 (w64 (p1 - 1)) p1 (w64 (p1 + 1)) p2).bind fun e101=>some (e101.1,e101.2)
noncomputable def q2o {T : Type} (p0 : List T) (p1 : Int) (p2 : Int) (p3 : T→T→Option Int) : Option (Int × Int):=
  (cond (decide ((w64 (p2 - p1)) ≥ 8)) ((cond (decide ((w64 (p2 - p1)) ≥ 50)) ((Ub p3 p0 (w64 (p1 + (w64 ((w64 (Int.tdiv (w64 (p2 - p1)) 4)) * 1)))) 0).bind fun e25=>(Ub p3 p0 (w64 (p1 + (w64 ((w64 (Int.tdiv (w64 (p2 - p1)) 4)) * 2)))) e25.2).bind fun e27=>(Ub p3 p0 (w64 (p1 + (w64 ((w64 (Int.tdiv (w64 (p2 - p1)) 4)) * 3)))) e27.2).bind fun e29=>some (e25.1,e27.1,e29.1,e29.2)) (some (w64 (p1 + (w64 ((w64 (Int.tdiv (w64 (p2 - p1)) 4)) * 1))),w64 (p1 + (w64 ((w64 (Int.tdiv (w64 (p2 - p1)) 4)) * 2))),w64 (p1 + (w64 ((w64 (Int.tdiv (w64 (p2 - p1)) 4)) * 3))),0))).bind fun b24=>(Uv p3 p0 b24.1 b24.2.1 b24.2.2.1 b24.2.2.2).bind fun e31=>some (e31.1,e31.2)) (some (w64 (p1 + (w64 ((w64 (Int.tdiv (w64 (p2 - p1)) 4)) * 2))),0))).bind fun b15=>cond (b15.2 == 0) (some (b15.1,1)) (cond (b15.2 == 12) (some (b15.1,2)) (some (b15.1,0)))
noncomputable def q1z {T : Type} (a119 : Int × Int × List T) : Option ((Int × Int × List T) ⊕ (List T)):=
  cond (decide (a119.1 < a119.2.1)) ((idx a119.2.2 a119.2.1).bind fun v123=>(idx a119.2.2 a119.1).bind fun v125=>(idx a119.2.2 a119.1).bind fun _=>(idx (a119.2.2.set a119.1.toNat v123) a119.2.1).bind fun _=>some (.inl (w64 (a119.1 + 1),w64 (a119.2.1 - 1),(a119.2.2.set a119.1.toNat v123).set a119.2.1.toNat v125))) (some (.inr a119.2.2))
noncomputable def q1y {T : Type} (_ : T→T→Option Int) (p0 : List T) (p1 : Int) (p2 : Int) : Option (List T):=
  (loop q1z (p1,w64 (p2 - 1),p0)).bind fun x0=>some x0
noncomputable def Ux {T : Type} (p2 : Int) (a438 : Int × Int × List T) (q1 : T→T→Option Int) (a681 : Int) : Option ((Int) ⊕ (Int)):=
  (cond (decide (a681 < p2)) ((idx a438.2.2 a681).bind fun v707=>(idx a438.2.2 (w64 (a681 - 1))).bind fun v709=>(q1 v707 v709).bind fun r711=>some (!(decide (r711 < 0)))) (some false)).bind fun c691=>cond c691 (some (.inl (w64 (a681 + 1)))) (some (.inr a681))
noncomputable def Uc {T : Type} (q1 : T→T→Option Int) (a838 : Int × List T) : Option ((Int × List T) ⊕ (List T)):=
  cond (decide (a838.1 ≥ 1)) ((idx a838.2 a838.1).bind fun v856=>(idx a838.2 (w64 (a838.1 - 1))).bind fun v858=>(q1 v856 v858).bind fun r860=>cond (!(decide (r860 < 0))) (some (.inr a838.2)) ((idx a838.2 (w64 (a838.1 - 1))).bind fun v862=>(idx a838.2 a838.1).bind fun v864=>(idx a838.2 a838.1).bind fun _=>(idx (a838.2.set a838.1.toNat v862) (w64 (a838.1 - 1))).bind fun _=>some (.inl (w64 (a838.1 - 1),(a838.2.set a838.1.toNat v862).set (w64 (a838.1 - 1)).toNat v864)))) (some (.inr a838.2))
noncomputable def Uy {T : Type} (p2 : Int) (q1 : T→T→Option Int) (b684 : Int) (a928 : Int × List T) : Option ((Int × List T) ⊕ (Int × List T)):=
  cond (decide (a928.1 < p2)) ((idx a928.2 a928.1).bind fun v946=>(idx a928.2 (w64 (a928.1 - 1))).bind fun v948=>(q1 v946 v948).bind fun r950=>cond (!(decide (r950 < 0))) (some (.inr (b684,a928.2))) ((idx a928.2 (w64 (a928.1 - 1))).bind fun v952=>(idx a928.2 a928.1).bind fun v954=>(idx a928.2 a928.1).bind fun _=>(idx (a928.2.set a928.1.toNat v952) (w64 (a928.1 - 1))).bind fun _=>some (.inl (w64 (a928.1 + 1),(a928.2.set a928.1.toNat v952).set (w64 (a928.1 - 1)).toNat v954)))) (some (.inr (b684,a928.2)))
noncomputable def Zz {T : Type} (p2 : Int) (q1 : T→T→Option Int) (p1 : Int) (a438 : Int × Int × List T) : Option ((Int × Int × List T) ⊕ ((List T) ⊕ (Bool × List T))):=
  cond (decide (a438.2.1 < 5)) (((loop (Ux p2 a438 q1) a438.1).bind fun b684=>cond (b684 == p2) (some (.inr (true,a438.2.2))) (cond (decide ((w64 (p2 - p1)) < 50)) (some (.inr (false,a438.2.2))) ((idx a438.2.2 (w64 (b684 - 1))).bind fun v713=>(idx a438.2.2 b684).bind fun v715=>(idx a438.2.2 b684).bind fun _=>(idx (a438.2.2.set b684.toNat v713) (w64 (b684 - 1))).bind fun _=>(cond (decide ((w64 (b684 - p1)) ≥ 2)) ((loop (Uc q1) (w64 (b684 - 1),(a438.2.2.set b684.toNat v713).set (w64 (b684 - 1)).toNat v715)).bind fun x0=>some x0) (some ((a438.2.2.set b684.toNat v713).set (w64 (b684 - 1)).toNat v715))).bind fun b779=>cond (decide ((w64 (p2 - b684)) ≥ 2)) ((loop (Uy p2 q1 b684) (w64 (b684 + 1),b779)).bind fun x0=>some (.inl x0)) (some (.inl (b684,b779))))) : Option ((Int × List T) ⊕ (Bool × List T))).bind fun m621=>(match m621 with | .inl b622=>some (.inl (b622.1,w64 (a438.2.1 + 1),b622.2)) | .inr x1=>some (.inr (.inr x1)))) (some (.inr (.inl a438.2.2)))
noncomputable def Ju {T : Type} (q1 : T→T→Option Int) (p0 : List T) (p1 : Int) (p2 : Int) : Option (Bool × List T):=
  (loop (Zz p2 q1 p1) (w64 (p1 + 1),0,p0) : Option ((List T) ⊕ (Bool × List T))).bind fun m439=>(match m439 with | .inl b441=>some (false,b441) | .inr x1=>some x1)
noncomputable def Uz {T : Type} (a318 : Int × Int × List T) (p1 : Int) (q1 : T→T→Option Int) (a378 : Int) : Option ((Int) ⊕ (Int)):=
  (cond (decide (a378≤a318.2.1)) ((idx a318.2.2 p1).bind fun v403=>(idx a318.2.2 a378).bind fun v405=>(q1 v403 v405).bind fun r407=>some (!(decide (r407 < 0)))) (some false)).bind fun c388=>cond c388 (some (.inl (w64 (a378 + 1)))) (some (.inr a378))
noncomputable def q10 {T : Type} (b381 : Int) (a318 : Int × Int × List T) (p1 : Int) (q1 : T→T→Option Int) (a463 : Int) : Option ((Int) ⊕ (Int)):=
  (cond (decide (b381≤a463)) ((idx a318.2.2 p1).bind fun v487=>(idx a318.2.2 a463).bind fun v489=>(q1 v487 v489).bind fun r491=>some (decide (r491 < 0))) (some false)).bind fun c473=>cond c473 (some (.inl (w64 (a463 - 1)))) (some (.inr a463))
noncomputable def q1w {T : Type} (p1 : Int) (q1 : T→T→Option Int) (a318 : Int × Int × List T) : Option ((Int × Int × List T) ⊕ (Int × List T)):=
  (loop (Uz a318 p1 q1) a318.1).bind fun b381=>(loop (q10 b381 a318 p1 q1) a318.2.1).bind fun b466=>cond (decide (b381 > b466)) (some (.inr (b381,a318.2.2))) ((idx a318.2.2 b466).bind fun v493=>(idx a318.2.2 b381).bind fun v495=>(idx a318.2.2 b381).bind fun _=>(idx (a318.2.2.set b381.toNat v493) b466).bind fun _=>some (.inl (w64 (b381 + 1),w64 (b466 - 1),(a318.2.2.set b381.toNat v493).set b466.toNat v495)))
noncomputable def q1v {T : Type} (q1 : T→T→Option Int) (p0 : List T) (p1 : Int) (p2 : Int) (p3 : Int) : Option (Int × List T):=
  (idx p0 p3).bind fun v101=>(idx p0 p1).bind fun v103=>(idx p0 p1).bind fun _=>(idx (p0.set p1.toNat v101) p3).bind fun _=>(loop (q1w p1 q1) (w64 (p1 + 1),w64 (p2 - 1),(p0.set p1.toNat v101).set p3.toNat v103)).bind fun b321=>some (b321.1,b321.2)
noncomputable def q2s {T : Type} (p2 : Int) (p0 : List T) (p1 : Int) (v101 : T) (p3 : Int) (v103 : T) (q1 : T→T→Option Int) (a163 : Int) : Option ((Int) ⊕ (Int)):=
  (cond (decide (a163≤(w64 (p2 - 1)))) ((idx ((p0.set p1.toNat v101).set p3.toNat v103) a163).bind fun v187=>(idx ((p0.set p1.toNat v101).set p3.toNat v103) p1).bind fun v189=>(q1 v187 v189).bind fun r191=>some (decide (r191 < 0))) (some false)).bind fun c173=>cond c173 (some (.inl (w64 (a163 + 1)))) (some (.inr a163))
noncomputable def q2t {T : Type} (b166 : Int) (p0 : List T) (p1 : Int) (v101 : T) (p3 : Int) (v103 : T) (q1 : T→T→Option Int) (a249 : Int) : Option ((Int) ⊕ (Int)):=
  (cond (decide (b166≤a249)) ((idx ((p0.set p1.toNat v101).set p3.toNat v103) a249).bind fun v274=>(idx ((p0.set p1.toNat v101).set p3.toNat v103) p1).bind fun v276=>(q1 v274 v276).bind fun r278=>some (!(decide (r278 < 0)))) (some false)).bind fun c259=>cond c259 (some (.inl (w64 (a249 - 1)))) (some (.inr a249))
noncomputable def Jg {T : Type} (a514 : Int × Int × List T) (p1 : Int) (q1 : T→T→Option Int) (a572 : Int) : Option ((Int) ⊕ (Int)):=
  (cond (decide (a572≤a514.2.1)) ((idx a514.2.2 a572).bind fun v596=>(idx a514.2.2 p1).bind fun v598=>(q1 v596 v598).bind fun r600=>some (decide (r600 < 0))) (some false)).bind fun c582=>cond c582 (some (.inl (w64 (a572 + 1)))) (some (.inr a572))
noncomputable def Jh {T : Type} (b575 : Int) (a514 : Int × Int × List T) (p1 : Int) (q1 : T→T→Option Int) (a658 : Int) : Option ((Int) ⊕ (Int)):=
  (cond (decide (b575≤a658)) ((idx a514.2.2 a658).bind fun v683=>(idx a514.2.2 p1).bind fun v685=>(q1 v683 v685).bind fun r687=>some (!(decide (r687 < 0)))) (some false)).bind fun c668=>cond c668 (some (.inl (w64 (a658 - 1)))) (some (.inr a658))
noncomputable def q1x {T : Type} (p1 : Int) (q1 : T→T→Option Int) (a514 : Int × Int × List T) : Option ((Int × Int × List T) ⊕ (Int × List T)):=
  (loop (Jg a514 p1 q1) a514.1).bind fun b575=>(loop (Jh b575 a514 p1 q1) a514.2.1).bind fun b661=>cond (decide (b575 > b661)) (some (.inr (b661,a514.2.2))) ((idx a514.2.2 b661).bind fun v689=>(idx a514.2.2 b575).bind fun v691=>(idx a514.2.2 b575).bind fun _=>(idx (a514.2.2.set b575.toNat v689) b661).bind fun _=>some (.inl (w64 (b575 + 1),w64 (b661 - 1),(a514.2.2.set b575.toNat v689).set b661.toNat v691)))
noncomputable def q1u {T : Type} (q1 : T→T→Option Int) (p0 : List T) (p1 : Int) (p2 : Int) (p3 : Int) : Option (Int × Bool × List T):=
  (idx p0 p3).bind fun v101=>(idx p0 p1).bind fun v103=>(idx p0 p1).bind fun _=>(idx (p0.set p1.toNat v101) p3).bind fun _=>(loop (q2s p2 p0 p1 v101 p3 v103 q1) (w64 (p1 + 1))).bind fun b166=>(loop (q2t b166 p0 p1 v101 p3 v103 q1) (w64 (p2 - 1))).bind fun b252=>cond (decide (b166 > b252)) ((idx ((p0.set p1.toNat v101).set p3.toNat v103) p1).bind fun v288=>(idx ((p0.set p1.toNat v101).set p3.toNat v103) b252).bind fun v290=>(idx ((p0.set p1.toNat v101).set p3.toNat v103) b252).bind fun _=>(idx (((p0.set p1.toNat v101).set p3.toNat v103).set b252.toNat v288) p1).bind fun _=>some (b252,true,(((p0.set p1.toNat v101).set p3.toNat v103).set b252.toNat v288).set p1.toNat v290)) ((idx ((p0.set p1.toNat v101).set p3.toNat v103) b252).bind fun v296=>(idx ((p0.set p1.toNat v101).set p3.toNat v103) b166).bind fun v298=>(idx ((p0.set p1.toNat v101).set p3.toNat v103) b166).bind fun _=>(idx (((p0.set p1.toNat v101).set p3.toNat v103).set b166.toNat v296) b252).bind fun _=>(loop (q1x p1 q1) (w64 (b166 + 1),w64 (b252 - 1),(((p0.set p1.toNat v101).set p3.toNat v103).set b166.toNat v296).set b252.toNat v298)).bind fun b517=>(idx b517.2 p1).bind fun v697=>(idx b517.2 b517.1).bind fun v699=>(idx b517.2 b517.1).bind fun _=>(idx (b517.2.set b517.1.toNat v697) p1).bind fun _=>some (b517.1,false,(b517.2.set b517.1.toNat v697).set p1.toNat v699))
noncomputable def Zo {T : Type} (q1 : T→T→Option Int) (rec : List T→Int→Int→Int→Option (List T)) (a309 : Int × Int × Int × Bool × Bool × List T) : Option ((Int × Int × Int × Bool × Bool × List T) ⊕ (List T)):=
  cond (decide ((w64 (a309.2.1 - a309.1))≤12)) ((q2q q1 a309.2.2.2.2.2 a309.1 a309.2.1).bind fun e318=>(K1 e318.length a309.2.2.2.2.2.length).bind fun _=>some (.inr e318)) (cond (a309.2.2.1 == 0) ((q2p q1 a309.2.2.2.2.2 a309.1 a309.2.1).bind fun e328=>(K1 e328.length a309.2.2.2.2.2.length).bind fun _=>some (.inr e328)) ((cond (!a309.2.2.2.1) ((q1q q1 a309.2.2.2.2.2 a309.1 a309.2.1).bind fun e341=>(K1 e341.length a309.2.2.2.2.2.length).bind fun _=>some (w64 (a309.2.2.1 - 1),e341)) (some (a309.2.2.1,a309.2.2.2.2.2))).bind fun b340=>(q2o b340.2 a309.1 a309.2.1 q1).bind fun r346=>(cond (r346.2 == 2) ((q1y q1 b340.2 a309.1 a309.2.1).bind fun e356=>(K1 e356.length b340.2.length).bind fun _=>some (w64 ((w64 (a309.2.1 - 1)) - (w64 (r346.1 - a309.1))),1,e356)) (some (r346.1,r346.2,b340.2))).bind fun b355=>(cond a309.2.2.2.1 (some a309.2.2.2.2.1) (some false)).bind fun c361=>(cond c361 (some (b355.2.1 == 1)) (some false)).bind fun c365=>(cond c365 ((Ju q1 b355.2.2 a309.1 a309.2.1).bind fun e378=>(K1 e378.2.length b355.2.2.length).bind fun _=>cond e378.1 (some (.inr e378.2)) (some (.inl e378.2))) (some (.inl b355.2.2)) : Option ((List T) ⊕ (List T))).bind fun m376=>(match m376 with | .inl b377=>(cond (decide (a309.1 > 0)) ((idx b377 (w64 (a309.1 - 1))).bind fun v405=>(idx b377 b355.1).bind fun v407=>(q1 v405 v407).bind fun r409=>some (!(decide (r409 < 0)))) (some false)).bind fun c389=>cond c389 ((q1v q1 b377 a309.1 a309.2.1 b355.1).bind fun e416=>(K1 e416.2.length b377.length).bind fun _=>some (.inl (e416.1,a309.2.1,b340.1,a309.2.2.2.1,a309.2.2.2.2.1,e416.2))) ((q1u q1 b377 a309.1 a309.2.1 b355.1).bind fun e421=>(K1 e421.2.2.length b377.length).bind fun _=>cond (decide ((w64 (e421.1 - a309.1)) < (w64 (a309.2.1 - e421.1)))) ((rec e421.2.2 a309.1 e421.1 b340.1).bind fun e426=>(K1 e426.length e421.2.2.length).bind fun _=>some (.inl (w64 (e421.1 + 1),a309.2.1,b340.1,decide ((w64 (e421.1 - a309.1)) ≥ (w64 (Int.tdiv (w64 (a309.2.1 - a309.1)) 8))),e421.2.1,e426))) ((rec e421.2.2 (w64 (e421.1 + 1)) a309.2.1 b340.1).bind fun e431=>(K1 e431.length e421.2.2.length).bind fun _=>some (.inl (a309.1,e421.1,b340.1,decide ((w64 (a309.2.1 - e421.1)) ≥ (w64 (Int.tdiv (w64 (a309.2.1 - a309.1)) 8))),e421.2.1,e431)))) | .inr x1=>some (.inr x1))))
noncomputable def Ud {T : Type} (rec : List T→Int→Int→Int→Option (List T)) (q1 : T→T→Option Int) (p0 : List T) (p1 : Int) (p2 : Int) (p3 : Int) : Option (List T):=
  (loop (Zo q1 rec) (p1,p2,p3,true,true,p0)).bind fun x0=>some x0
noncomputable def Zj {T : Type} : Nat→(T→T→Option Int)→List T→Int→Int→Int→Option (List T)
  | 0,_,_,_,_,_=>none
  | n + 1,q1,p0,p1,p2,p3=>Ud (Zj n q1) q1 p0 p1 p2 p3
noncomputable def q2n {T : Type} (q1 : T→T→Option Int) (p0 : List T) : Option (List T):=
  (q1p (IntKind.wrap .u64 (p0.length : Int))).bind fun r101=>(lim (fun n=>Zj n q1 p0 0 (p0.length : Int) r101)).bind fun e103=>(K1 e103.length p0.length).bind fun _=>some e103
end Go.Sh
namespace Go.Sh
open Go Go.Am
section
variable {T : Type} [Inhabited T] {P : T→Prop} {lt : T→T→Bool} {q : T→T→Option Int}
def Ya (q : T→T→Option Int) (lt : T→T→Bool) (P : T→Prop) : Prop:=∀ x y,P x→P y→∃ r,q x y = some r∧decide (r < 0) = lt x y
def AllP (n : Nat) (P : T→Prop) (d : Array T) : Prop:=d.size = n∧n≤1000000∧∀ i,i < n→P d[i]!
theorem gx {d : Array T} {k : Nat} (h : k < d.size) : idx d.toList (k : Int) = some d[k]!:=by
  simp [idx,h]
theorem gxs {d : Array T} {k : Nat} {i : Nat} {v : T} (h : k < d.size) : idx (d.toList.set i v) (k : Int) = some (d.setIfInBounds i v)[k]!:=by
  have : d.toList.set i v = (d.setIfInBounds i v).toList:=by simp
  rw [this];exact gx (by simpa using h)
theorem gswp {d : Array T} {i j : Nat} : (d.toList.set i d[j]!).set j d[i]! = (Sort.swp d i j).toList:=by simp [Sort.swp]
theorem AllP.swp {n : Nat} {d : Array T} (h : AllP n P d) {a b : Nat} (f : a < n) (hb : b < n) : AllP n P (Sort.swp d a b):=by
  obtain ⟨j,g,c⟩:=h;refine ⟨by rw [Sort.swp_size];exact j,g,fun k hk=>?_⟩;rw [Sort.swp_get d q8 q8]
  repeat' split
  all_goals first | exact c _ f | exact c _ hb | exact c _ hk
theorem AllP.perm {n : Nat} {d f : Array T} (h : AllP n P d) {a b : Nat} (_ : a≤b) (hb : b≤n) (hp : Sort.PermIn a b d f) : AllP n P f:=by
  obtain ⟨m,j,g⟩:=h;refine ⟨by rw [hp.1];exact m,j,fun k hk=>?_⟩;by_cases c : k < a∨b≤k
  · rw [hp.2.1 k c];exact g k hk
  · exact Sort.permIn_all d f a b P q8 hp (fun i hi l=>g i q8) k q8 q8
theorem w1m (j : Nat) (h : j < 2000000) : w64 (((j + 1 : Nat) : Int) - 1) = (j : Int):=by rw [Qh q8];omega
theorem w1p (j : Nat) (h : j < 2000000) : w64 ((j : Int) + 1) = ((j + 1 : Nat) : Int):=by rw [Qh q8];omega
theorem wsub {a b : Nat} (h : a≤b) (c : b < 2000000) : w64 ((b : Int) - (a : Int)) = ((b - a : Nat) : Int):=by rw [Qh q8];omega
theorem qke (h : Ya q lt P) (a n : Nat) : ∀ (j : Nat) (d : Array T),AllP n P d→j < n→loop (Ua (a : Int) q) ((j : Int),d.toList) = some (Sort.insInner lt a j d).toList∧AllP n P (Sort.insInner lt a j d)
  | 0,d,hd,hj=>by
    have c : decide (((0 : Nat) : Int) > (a : Int)) = false:=Qa q8
    refine ⟨Kc ?_,hd⟩
    simp only [Ua,c,Q6,qr];rfl
  | j + 1,d,hd,hj=>by
    have p:=hd.1
    have s:=hd.2.1
    unfold Sort.insInner
    by_cases m : j + 1 > a
    · have c : decide (((j + 1 : Nat) : Int) > (a : Int)) = true:=Q9 q8
      obtain ⟨r,o,g⟩:=h d[j + 1]! d[j]! (hd.2.2 _ hj) (hd.2.2 _ q8)
      by_cases f : lt d[j + 1]! d[j]! = true
      · rw [qu (by simp [m,f])]
        have l:=qke h a n j _ (hd.swp (a:=j + 1) (b:=j) hj q8) q8
        refine ⟨?_,l.2⟩
        rw [Kf (a':=((j : Int),(Sort.swp d (j + 1) j).toList)) ?_]
        · exact l.1
        · simp only [Ua,c,Qb,gx (d:=d) (k:=j + 1) q8,w1m j q8,gx (d:=d) (k:=j) q8,gxs (d:=d) (k:=j) q8,qr,o,g,f,Int.toNat_natCast,gswp]
      · rw [qw (by simp [f])]
        refine ⟨Kc ?_,hd⟩
        simp only [Ua,c,Qb,gx (d:=d) (k:=j + 1) q8,w1m j q8,gx (d:=d) (k:=j) q8,qr,o,g,f,Q6]
    · rw [qw (by simp [m])]
      have c : decide (((j + 1 : Nat) : Int) > (a : Int)) = false:=Qa q8
      refine ⟨Kc ?_,hd⟩
      simp only [Ua,c,Q6,qr]
theorem qtm (g : Ya q lt P) (a b n : Nat) (hb : b≤n) : ∀ (m i : Nat) (d : Array T),b - i = m→AllP n P d→i≤1000001→loop (q1t (b : Int) (a : Int) q) ((i : Int),d.toList) = some (Sort.insOuter lt a b i d).toList:=by
  intro m
  induction m with
  | zero=>
    intro i d f hd hi;unfold Sort.insOuter;rw [qw q8];have c : decide ((i : Int) < (b : Int)) = false:=Qa q8;exact Kc (by simp only [q1t,c,Q6])
  | succ m ih=>
    intro i d f hd hi;unfold Sort.insOuter;rw [qu q8];have c : decide ((i : Int) < (b : Int)) = true:=Q9 q8;obtain ⟨j,h⟩:=qke g a n i d hd q8;have:=hd.2.1;rw [Kf (a':=(((i + 1 : Nat) : Int),(Sort.insInner lt a i d).toList)) ?_]
    · exact ih (i + 1) _ q8 h q8
    · simp only [q1t,c,Qb,j,qr,w1p i q8]
theorem qto (c : Ya q lt P) {a b n : Nat} (hb : b≤n) (f : a≤b) {d : Array T} (hd : AllP n P d) : q2q q d.toList (a : Int) (b : Int) = some (Sort.insertionSort lt d a b).toList:=by
  have:=hd.2.1;unfold q2q Sort.insertionSort;rw [w1p a q8,qtm c a b n hb _ (a + 1) d rfl hd q8];rfl
theorem q10w (hq : Ya q lt P) (hi first n : Nat) (hb : first + hi≤n) : ∀ (m root : Nat) (d : Array T),hi - root = m→AllP n P d→root≤1000000→(root < hi∨hi≤1)→loop (Ue (hi : Int) (first : Int) q) ((root : Int),d.toList) = some (Sort.siftDown lt hi first root d).toList∧AllP n P (Sort.siftDown lt hi first root d):=by
  intro m
  induction m using Nat.strongRecOn with
  | _ m ih=>
    intro root d hm hd hr al;have am:=hd.1;have hn:=hd.2.1;unfold Sort.siftDown;have e1 : w64 ((w64 (2 * (root : Int))) + 1) = ((2 * root + 1 : Nat) : Int):=by rw [Qh (x:=2 * (root : Int)) q8,Qh q8];omega
    by_cases hc : 2 * root + 1 ≥ hi
    · rw [dif_pos hc];have w : decide (((2 * root + 1 : Nat) : Int) ≥ (hi : Int)) = true:=Q9 q8;refine ⟨Kc ?_,hd⟩;simp only [Ue,e1,w,Qb]
    · rw [dif_neg hc];have w : decide (((2 * root + 1 : Nat) : Int) ≥ (hi : Int)) = false:=Qa q8;have e2 : w64 (((2 * root + 1 : Nat) : Int) + 1) = ((2 * root + 2 : Nat) : Int):=w1p _ q8;have e3 : w64 ((first : Int) + ((2 * root + 1 : Nat) : Int)) = ((first + (2 * root + 1) : Nat) : Int):=by rw [Qh q8];omega
      have e4 : w64 ((first : Int) + ((2 * root + 2 : Nat) : Int)) = ((first + (2 * root + 2) : Nat) : Int):=by rw [Qh q8];omega
      have e5 : w64 ((first : Int) + (root : Int)) = ((first + root : Nat) : Int):=by rw [Qh q8];omega
      have e6 : w64 (((first + (2 * root + 1) : Nat) : Int) + 1) = ((first + (2 * root + 2) : Nat) : Int):=w1p _ q8;have x1:=gx (d:=d) (k:=first + (2 * root + 1)) q8;have x0:=gx (d:=d) (k:=first + root) q8
      have child : ∀ c,(c = 2 * root + 1∨c = 2 * root + 2)→c < hi→
          (∀ (h : (cond (decide (((2 * root + 2 : Nat) : Int) < (hi : Int))) ((idx d.toList ((first + (2 * root + 1) : Nat) : Int)).bind fun l=>(idx d.toList ((first + (2 * root + 2) : Nat) : Int)).bind fun o=>(q l o).bind fun j=>some (decide (j < 0))) (some false)) = some (decide (c = 2 * root + 2))),
          (loop (Ue (hi : Int) (first : Int) q) ((root : Int),d.toList) = some (if (!lt d[first + root]! d[first + c]!) = true then d else Sort.siftDown lt hi first c (Sort.swp d (first + root) (first + c))).toList)∧AllP n P (if (!lt d[first + root]! d[first + c]!) = true then d else Sort.siftDown lt hi first c (Sort.swp d (first + root) (first + c)))):=by
        intro c z y h
        have xc:=gx (d:=d) (k:=first + c) q8
        have xs:=fun v=>gxs (d:=d) (k:=first + c) (i:=first + root) (v:=v) q8
        obtain ⟨r,t,g⟩:=hq d[first + root]! d[first + c]! (hd.2.2 _ q8) (hd.2.2 _ q8)
        have hb : (cond (decide (c = 2 * root + 2)) (some ((2 * root + 2 : Nat) : Int)) (some ((2 * root + 1 : Nat) : Int))) = some (c : Int):=by
          rcases z with rfl | rfl
          · simp
          · simp
        have ec : w64 ((first : Int) + (c : Int)) = ((first + c : Nat) : Int):=by rw [Qh q8];omega
        by_cases f : lt d[first + root]! d[first + c]! = true
        · have s:=ih (hi - c) q8 c _ rfl (hd.swp (a:=first + root) (b:=first + c) q8 q8) q8 (.inl y)
          rw [qw (by simp [f])]
          refine ⟨?_,s.2⟩
          rw [Kf (a':=((c : Int),(Sort.swp d (first + root) (first + c)).toList)) ?_]
          · exact s.1
          · simp only [Ue,e1,w,Q6,e2,e3,e6,h,qr,hb,e5,ec,x0,xc,xs,t,g,f,Bool.not_true,Int.toNat_natCast,gswp]
        · rw [qu (by simp [f])]
          refine ⟨Kc ?_,hd⟩
          simp only [Ue,e1,w,Q6,e2,e3,e6,h,qr,hb,e5,ec,x0,xc,t,g,f,Bool.not_false,Qb]
      by_cases p : 2 * root + 2 < hi
      · have x2:=gx (d:=d) (k:=first + (2 * root + 2)) q8;have u : decide (((2 * root + 2 : Nat) : Int) < (hi : Int)) = true:=Q9 q8;obtain ⟨r,t,g⟩:=hq d[first + (2 * root + 1)]! d[first + (2 * root + 2)]! (hd.2.2 _ q8) (hd.2.2 _ q8);by_cases f : lt d[first + (2 * root + 1)]! d[first + (2 * root + 2)]! = true
        · rw [qu (by simp only [Bool.and_eq_true,decide_eq_true_eq];exact ⟨q8,f⟩)];have:=child (2 * root + 2) (.inr rfl) p (by simp only [u,Qb,x1,x2,qr,t,g,f,decide_true]);rw [dif_pos p];exact this
        · rw [qw (by simp only [Bool.and_eq_true,decide_eq_true_eq];rintro ⟨_,h⟩;exact f h)];have:=child (2 * root + 1) (.inl rfl) q8 (by simp only [u,Qb,x1,x2,qr,t,g,f];simp);exact this
      · have u : decide (((2 * root + 2 : Nat) : Int) < (hi : Int)) = false:=Qa q8;rw [qw (by simp only [Bool.and_eq_true,decide_eq_true_eq];rintro ⟨h,_⟩;omega)];have:=child (2 * root + 1) (.inl rfl) q8 (by simp only [u,Q6];simp);exact this
end
end Go.Sh
namespace Go.Sh
open Go Go.Am
section
variable {T : Type} [Inhabited T] {P : T→Prop} {lt : T→T→Bool} {q : T→T→Option Int}
theorem q12 {n : Nat} {d a : Array T} (h : AllP n P d) (b : AllP n P a) : K1 a.toList.length d.toList.length = some ():=by
  unfold K1;rw [qu (by simp [h.1,b.1])]
theorem qk1 (a : Ya q lt P) (hi first n root : Nat) (hb : first + hi≤n) (d : Array T) (hd : AllP n P d) (f : root≤1000000) (b : root < hi∨hi≤1) : q11 q d.toList (root : Int) (hi : Int) (first : Int) = some (Sort.siftDown lt hi first root d).toList∧AllP n P (Sort.siftDown lt hi first root d):=by
  obtain ⟨g,c⟩:=q10w a hi first n hb _ root d rfl hd f b;exact ⟨by unfold q11;rw [g];rfl,c⟩
theorem qkc (g : Ya q lt P) (a b n : Nat) (hb : b≤n) (c : a≤b) : ∀ (k : Nat) (d : Array T),AllP n P d→(k≤b - a∨b - a = 0∧k≤1)→loop (q1r q (b : Int) (a : Int)) ((k : Int) - 1,d.toList) = some (Sort.heapBuild lt (b - a) a k d).toList∧AllP n P (Sort.heapBuild lt (b - a) a k d)
  | 0,d,hd,hk=>by
    have f : decide (((0 : Nat) : Int) - 1 ≥ 0) = false:=Qa q8
    refine ⟨Kc ?_,hd⟩
    simp only [q1r,f,Q6];rfl
  | k + 1,d,hd,hk=>by
    have o:=hd.2.1
    have e : (((k + 1 : Nat) : Int) - 1) = (k : Int):=by omega
    rw [e]
    have f : decide ((k : Int) ≥ 0) = true:=Q9 q8
    obtain ⟨l,j⟩:=qk1 g (b - a) a n k q8 d hd q8 q8
    have h:=qkc g a b n hb c k _ j q8
    refine ⟨?_,h.2⟩
    rw [Kf (a':=((k : Int) - 1,(Sort.siftDown lt (b - a) a k d).toList)) ?_]
    · exact h.1
    · have m : w64 ((k : Int) - 1) = (k : Int) - 1:=Qh q8
      simp only [q1r,f,Qb,wsub c (by omega : b < 2000000),l,qr,q12 hd j,m]
theorem qkd (h : Ya q lt P) (a n : Nat) : ∀ (k : Nat) (d : Array T),AllP n P d→a + k≤n→loop (q1s (a : Int) q) ((k : Int) - 1,d.toList) = some (Sort.heapPop lt a k d).toList
  | 0,d,hd,hk=>by
    have g : decide (((0 : Nat) : Int) - 1 ≥ 0) = false:=Qa q8
    refine Kc ?_
    simp only [q1s,g,Q6];rfl
  | k + 1,d,hd,hk=>by
    have p:=hd.1
    have r:=hd.2.1
    have e : (((k + 1 : Nat) : Int) - 1) = (k : Int):=by omega
    rw [e]
    have g : decide ((k : Int) ≥ 0) = true:=Q9 q8
    have c:=hd.swp (a:=a) (b:=a + k) q8 q8
    obtain ⟨f,j⟩:=qk1 h k a n 0 q8 _ c q8 q8
    have l:=qkd h a n k _ j q8
    rw [Kf (a':=((k : Int) - 1,(Sort.siftDown lt k a 0 (Sort.swp d a (a + k))).toList)) ?_]
    · exact l
    · have m : w64 ((k : Int) - 1) = (k : Int) - 1:=Qh q8
      have o : w64 ((a : Int) + (k : Int)) = ((a + k : Nat) : Int):=by rw [Qh q8];omega
      have f : q11 q (Sort.swp d a (a + k)).toList 0 (k : Int) (a : Int) = _:=f
      simp only [q1s,g,Qb,o,gx (d:=d) (k:=a) q8,gx (d:=d) (k:=a + k) q8,gxs (d:=d) (k:=a + k) q8,qr,Int.toNat_natCast,gswp,f,q12 c j,m]
theorem qti (c : Ya q lt P) {a b n : Nat} (hb : b≤n) (j : a < b) {d : Array T} (hd : AllP n P d) : q2p q d.toList (a : Int) (b : Int) = some (Sort.heapSort lt d a b).toList:=by
  have l:=hd.2.1;have e1 : w64 ((b : Int) - (a : Int)) = ((b - a : Nat) : Int):=wsub q8 q8;have k : w64 (((b - a : Nat) : Int) - 1) = ((b - a : Nat) : Int) - 1:=Qh q8
  have f : w64 (Int.tdiv (((b - a : Nat) : Int) - 1) 2) = (((b - a - 1) / 2 + 1 : Nat) : Int) - 1:=by
    rw [Int.tdiv_eq_ediv_of_nonneg q8,Qh q8];omega
  obtain ⟨h,g⟩:=qkc c a b n hb q8 ((b - a - 1) / 2 + 1) d hd q8;unfold q2p Sort.heapSort;rw [e1,k,f,h,qr,qkd c a n (b - a) _ g q8];rfl
theorem qz9 (n : Nat) : ∀ (m i j : Nat) (d : Array T),j - i = m→AllP n P d→j < n→i≤1000001→loop (q1z (T:=T)) ((i : Int),(j : Int),d.toList) = some (Sort.reverseLoop i j d).toList:=by
  intro m
  induction m using Nat.strongRecOn with
  | _ m ih=>
    intro i j d h hd f hi;have g:=hd.1;have l:=hd.2.1;unfold Sort.reverseLoop;by_cases b : i < j
    · rw [qu b];have a : decide ((i : Int) < (j : Int)) = true:=Q9 q8;have c : w64 ((j : Int) - 1) = ((j - 1 : Nat) : Int):=by rw [Qh q8];omega
      rw [Kf (a':=(((i + 1 : Nat) : Int),((j - 1 : Nat) : Int),(Sort.swp d i j).toList)) ?_]
      · exact ih _ q8 _ _ _ rfl (hd.swp q8 f) q8 q8
      · simp only [q1z,a,Qb,gx (d:=d) (k:=i) q8,gx (d:=d) (k:=j) q8,gxs (d:=d) (k:=j) q8,qr,Int.toNat_natCast,gswp,c,w1p i q8]
    · rw [qw b];have a : decide ((i : Int) < (j : Int)) = false:=Qa q8;exact Kc (by simp only [q1z,a,Q6])
theorem qza {a b n : Nat} (hb : b≤n) (c : a < b) {d : Array T} (hd : AllP n P d) : q1y q d.toList (a : Int) (b : Int) = some (Sort.reverseRange d a b).toList:=by
  have f:=hd.2.1;have e1 : w64 ((b : Int) - 1) = ((b - 1 : Nat) : Int):=by rw [Qh q8];omega
  unfold q1y Sort.reverseRange;rw [e1,qz9 n _ a (b - 1) d rfl hd q8 q8];rfl
theorem qg8 (g : Ya q lt P) {n : Nat} {d : Array T} (hd : AllP n P d) {a b s : Nat} (f : a < n) (hb : b < n) (hs : s≤1000) : Uw q d.toList (a : Int) (b : Int) (s : Int) = some (((Sort.order2 lt d a b s).1 : Int),((Sort.order2 lt d a b s).2.1 : Int),((Sort.order2 lt d a b s).2.2 : Int))∧(Sort.order2 lt d a b s).1 < n∧(Sort.order2 lt d a b s).2.1 < n∧(Sort.order2 lt d a b s).2.2≤s + 1:=by
  have l:=hd.1;obtain ⟨r,j,h⟩:=g d[b]! d[a]! (hd.2.2 _ hb) (hd.2.2 _ f);unfold Uw Sort.order2;rw [gx (d:=d) (k:=b) q8,gx (d:=d) (k:=a) q8];simp only [qr,j,h];by_cases c : lt d[b]! d[a]! = true
  · rw [qu c];simp only [c,Qb,w1p s q8];exact ⟨trivial,hb,f,q8⟩
  · rw [qw c];have : lt d[b]! d[a]! = false:=by simpa using c
    simp only [this,Q6];exact ⟨trivial,f,hb,q8⟩
theorem qfm (f : Ya q lt P) {n : Nat} {d : Array T} (hd : AllP n P d) {a b c s : Nat} (m : a < n) (hb : b < n) (p : c < n) (hs : s≤900) : Uv q d.toList (a : Int) (b : Int) (c : Int) (s : Int) = some (((Sort.median lt d a b c s).1 : Int),((Sort.median lt d a b c s).2 : Int))∧(Sort.median lt d a b c s).1 < n∧(Sort.median lt d a b c s).2≤s + 3:=by
  obtain ⟨o,k,b1,c1⟩:=qg8 f hd m hb (s:=s) q8;obtain ⟨g,l,b2,c2⟩:=qg8 f hd b1 p (s:=(Sort.order2 lt d a b s).2.2) q8;obtain ⟨h,r,j,c3⟩:=qg8 f hd k l (s:=(Sort.order2 lt d (Sort.order2 lt d a b s).2.1 c (Sort.order2 lt d a b s).2.2).2.2) q8;unfold Uv Sort.median;simp only [o,g,h,qr];exact ⟨trivial,j,q8⟩
theorem qfl (g : Ya q lt P) {n : Nat} {d : Array T} (hd : AllP n P d) {a s : Nat} (l : 1≤a) (f : a + 1 < n) (hs : s≤900) : Ub q d.toList (a : Int) (s : Int) = some (((Sort.medianAdjacent lt d a s).1 : Int),((Sort.medianAdjacent lt d a s).2 : Int))∧(Sort.medianAdjacent lt d a s).1 < n∧(Sort.medianAdjacent lt d a s).2≤s + 3:=by
  have m:=hd.2.1;obtain ⟨j,h,k⟩:=qfm g hd (a:=a - 1) (b:=a) (c:=a + 1) (s:=s) q8 q8 f hs;have e : w64 ((a : Int) - 1) = ((a - 1 : Nat) : Int):=by rw [Qh q8];omega
  unfold Ub Sort.medianAdjacent;rw [e,w1p a q8,j];exact ⟨rfl,h,k⟩
def qfe : Sort.Hint→Int
  | .unknown=>0
  | .increasing=>1
  | .decreasing=>2
theorem qq6 (l : Ya q lt P) {n : Nat} {d : Array T} (hd : AllP n P d) {a b : Nat} (ad : a < b) (hb : b≤n) : q2o d.toList (a : Int) (b : Int) q = some (((Sort.choosePivot lt d a b).1 : Int),qfe (Sort.choosePivot lt d a b).2):=by
  have hn:=hd.2.1;have e0 : w64 ((b : Int) - (a : Int)) = ((b - a : Nat) : Int):=wsub q8 q8
  have e1 : w64 (Int.tdiv ((b - a : Nat) : Int) 4) = (((b - a) / 4 : Nat) : Int):=by
    rw [Int.tdiv_eq_ediv_of_nonneg q8,Qh q8];omega
  have w : ∀ k : Nat,k≤3→w64 ((a : Int) + (w64 ((((b - a) / 4 : Nat) : Int) * (k : Int)))) = ((a + (b - a) / 4 * k : Nat) : Int):=by
    intro k hk;have : (b - a) / 4 * k≤(b - a) / 4 * 3:=Nat.mul_le_mul_left _ hk;have e : ((((b - a) / 4 : Nat) : Int) * (k : Int)) = (((b - a) / 4 * k : Nat) : Int):=by push_cast;rfl
    rw [e,Qh (x:=(((b - a) / 4 * k : Nat) : Int)) q8,Qh q8];omega
  have t:=w 1 q8;have f:=w 2 q8;have o:=w 3 q8
  have last : ∀ r : Nat × Nat,(cond (((r.2 : Int)) == 0) (some ((r.1 : Int),(1 : Int))) (cond (((r.2 : Int)) == 12) (some ((r.1 : Int),(2 : Int))) (some ((r.1 : Int),(0 : Int))))) = some ((r.1 : Int),qfe (if r.2 = 0 then Sort.Hint.increasing else if r.2 = 12 then Sort.Hint.decreasing else Sort.Hint.unknown)):=by
    intro r;by_cases u : r.2 = 0
    · have : ((r.2 : Int) == 0) = true:=by simp [u]
      simp only [this,Qb,qu u];rfl
    · have t0 : ((r.2 : Int) == 0) = false:=by simp;omega
      by_cases m : r.2 = 12
      · have : ((r.2 : Int) == 12) = true:=by simp;omega
        simp only [t0,this,Qb,Q6,qw u,qu m];rfl
      · have : ((r.2 : Int) == 12) = false:=by simp;omega
        simp only [t0,this,Q6,qw u,qw m];rfl
  unfold q2o Sort.choosePivot;simp only [e0,e1];by_cases z : b - a ≥ 8
  · have v : decide (((b - a : Nat) : Int) ≥ 8) = true:=Q9 q8;by_cases p : b - a ≥ 50
    · have g : decide (((b - a : Nat) : Int) ≥ 50) = true:=Q9 q8;obtain ⟨x1,y1,z1⟩:=qfl l hd (a:=a + (b - a) / 4 * 1) (s:=0) q8 q8 q8;obtain ⟨x2,y2,z2⟩:=qfl l hd (a:=a + (b - a) / 4 * 2) (s:=(Sort.medianAdjacent lt d (a + (b - a) / 4 * 1) 0).2) q8 q8 q8;obtain ⟨x3,y3,z3⟩:=qfl l hd (a:=a + (b - a) / 4 * 3) (s:=(Sort.medianAdjacent lt d (a + (b - a) / 4 * 2) (Sort.medianAdjacent lt d (a + (b - a) / 4 * 1) 0).2).2) q8 q8 q8;obtain ⟨h,y4,z4⟩:=qfm l hd y1 y2 y3 (s:=(Sort.medianAdjacent lt d (a + (b - a) / 4 * 3) (Sort.medianAdjacent lt d (a + (b - a) / 4 * 2) (Sort.medianAdjacent lt d (a + (b - a) / 4 * 1) 0).2).2).2) q8;simp only [qu z,qu p,v,g,Qb];have y : w64 ((a : Int) + (w64 ((((b - a) / 4 : Nat) : Int) * 1))) = _:=t;have j : w64 ((a : Int) + (w64 ((((b - a) / 4 : Nat) : Int) * 2))) = _:=f;have g3 : w64 ((a : Int) + (w64 ((((b - a) / 4 : Nat) : Int) * 3))) = _:=o;have x1 : Ub q d.toList ((a + (b - a) / 4 * 1 : Nat) : Int) 0 = _:=x1;rw [y,j,g3];simp only [x1,x2,x3,h,qr];exact last _
    · have g : decide (((b - a : Nat) : Int) ≥ 50) = false:=Qa q8;obtain ⟨h,y4,z4⟩:=qfm l hd (a:=a + (b - a) / 4 * 1) (b:=a + (b - a) / 4 * 2) (c:=a + (b - a) / 4 * 3) (s:=0) q8 q8 q8 q8;simp only [qu z,qw p,v,g,Qb,Q6];have y : w64 ((a : Int) + (w64 ((((b - a) / 4 : Nat) : Int) * 1))) = _:=t;have j : w64 ((a : Int) + (w64 ((((b - a) / 4 : Nat) : Int) * 2))) = _:=f;have g3 : w64 ((a : Int) + (w64 ((((b - a) / 4 : Nat) : Int) * 3))) = _:=o;have h : Uv q d.toList ((a + (b - a) / 4 * 1 : Nat) : Int) ((a + (b - a) / 4 * 2 : Nat) : Int) ((a + (b - a) / 4 * 3 : Nat) : Int) 0 = _:=h;rw [y,j,g3];simp only [h,qr];exact last _
  · have v : decide (((b - a : Nat) : Int) ≥ 8) = false:=Qa q8;simp only [qw z,v,Q6];have j : w64 ((a : Int) + (w64 ((((b - a) / 4 : Nat) : Int) * 2))) = _:=f;rw [j];simp only [qr];exact last (a + (b - a) / 4 * 2,0)
end
end Go.Sh
namespace Go.Sh
open Go Go.Am
theorem q3c (n : Int) : IntKind.u64.wrap n = n % 18446744073709551616:=by simp [IntKind.wrap,IntKind.bits,IntKind.signed]
theorem q13p (n : Int) : IntKind.u8.wrap n = n % 256:=by simp [IntKind.wrap,IntKind.bits,IntKind.signed]
theorem xorU (a b : Nat) (c : a < 18446744073709551616) (hb : b < 18446744073709551616) : xorI .u64 (a : Int) (b : Int) = ((a ^^^ b : Nat) : Int):=by
  have d : a ^^^ b < 2 ^ 64:=Nat.xor_lt_two_pow q8 q8;unfold xorI;rw [q3c];show ((BitVec.ofInt 64 (a : Int) ^^^ BitVec.ofInt 64 (b : Int)).toNat : Int) % _ = _;rw [BitVec.ofInt_natCast,BitVec.ofInt_natCast,BitVec.toNat_xor,BitVec.toNat_ofNat,BitVec.toNat_ofNat,Nat.mod_eq_of_lt (a:=a) q8,Nat.mod_eq_of_lt (a:=b) q8];omega
theorem andU (a b : Nat) (c : a < 18446744073709551616) (hb : b < 18446744073709551616) : andI .u64 (a : Int) (b : Int) = ((a &&& b : Nat) : Int):=by
  have d : a &&& b≤a:=Nat.and_le_left;unfold andI;rw [q3c];show ((BitVec.ofInt 64 (a : Int) &&& BitVec.ofInt 64 (b : Int)).toNat : Int) % _ = _;rw [BitVec.ofInt_natCast,BitVec.ofInt_natCast,BitVec.toNat_and,BitVec.toNat_ofNat,BitVec.toNat_ofNat,Nat.mod_eq_of_lt (a:=a) q8,Nat.mod_eq_of_lt (a:=b) q8];omega
theorem q13t (X : Nat) (d : X < 18446744073709551616) : q2u (X : Int) = some ((Sort.xorNextN X : Nat) : Int):=by
  obtain ⟨A,b⟩ : ∃ A : Nat,A = X ^^^ (X * 8192 % 18446744073709551616):=⟨_,rfl⟩
  obtain ⟨B,a⟩ : ∃ B : Nat,B = A ^^^ (A / 128):=⟨_,rfl⟩
  have f : A < 18446744073709551616:=by rw [b];exact Nat.xor_lt_two_pow (n:=64) q8 q8
  have c : B < 18446744073709551616:=by rw [a];exact Nat.xor_lt_two_pow (n:=64) q8 q8
  have e1 : xorI .u64 (X : Int) (IntKind.u64.wrap ((X : Int) * 2 ^ 13)) = (A : Int):=by
    rw [q3c,show ((X : Int) * 2 ^ 13 % 18446744073709551616) = ((X * 8192 % 18446744073709551616 : Nat) : Int) by omega,xorU _ _ d q8,b]
  have j : xorI .u64 (A : Int) (Int.fdiv (A : Int) (2 ^ 7)) = (B : Int):=by
    rw [Int.fdiv_eq_ediv_of_nonneg _ qq,show ((A : Int) / 2 ^ 7) = ((A / 128 : Nat) : Int) by omega,xorU _ _ f q8,a]
  have g : xorI .u64 (B : Int) (IntKind.u64.wrap ((B : Int) * 2 ^ 17)) = ((B ^^^ (B * 131072 % 18446744073709551616) : Nat) : Int):=by
    rw [q3c,show ((B : Int) * 2 ^ 17 % 18446744073709551616) = ((B * 131072 % 18446744073709551616 : Nat) : Int) by omega,xorU _ _ c q8]
  have h : Sort.xorNextN X = B ^^^ (B * 131072 % 18446744073709551616):=by unfold Sort.xorNextN;simp only [];rw [← b,← a]
  unfold q2u;rw [e1,j,g,h]
theorem q133 : ∀ k : Nat,k < 256→q4y q4h (k : Int) = some ((Sort.bitsLen k : Nat) : Int):=by
  have key : ∀ k : Fin 256,(q4h[k.1]?).map (fun b=>b.toNat) = some (Sort.bitsLen k.1):=by decide +kernel
  intro k hk;have:=key ⟨k,hk⟩;unfold q4y;rw [qu q8,Int.toNat_natCast];simp only [Y0] at this ⊢;obtain ⟨b,a,c⟩:=this;exact ⟨b,a,by rw [c]⟩
theorem qi2 (n k : Nat) (h : 2 ^ k≤n) : Sort.bitsLen n = Sort.bitsLen (n / 2 ^ k) + k:=by
  have hp : 0 < 2 ^ k:=Nat.two_pow_pos k;apply Nat.le_antisymm
  · rw [Sort.bitsLen_le_iff];have:=Sort.lt_two_pow_bitsLen (n / 2 ^ k);rw [Nat.pow_add];exact (Nat.div_lt_iff_lt_mul hp).1 this
  · have b : k < Sort.bitsLen n:=by
      rcases Nat.lt_or_ge k (Sort.bitsLen n) with a | a
      · exact a
      · have:=(Sort.bitsLen_le_iff n k).1 a;omega
    have : Sort.bitsLen (n / 2 ^ k)≤Sort.bitsLen n - k:=by
      rw [Sort.bitsLen_le_iff,Nat.div_lt_iff_lt_mul hp,← Nat.pow_add,Nat.sub_add_cancel q8];exact Sort.lt_two_pow_bitsLen n
    omega
theorem qkq (n : Nat) (h : n≤1000000) : q1p (n : Int) = some ((Sort.bitsLen n : Nat) : Int):=by
  unfold q1p q3l;have d : decide ((n : Int) ≥ 4294967296) = false:=Qa q8;simp only [d,Q6,qr]
  have fin : ∀ m s : Nat,m < 256→s≤16→(q4y q4h (IntKind.u8.wrap (m : Int))).bind (fun c=>some (w64 ((s : Int) + (w64 c)))) = some ((Sort.bitsLen m + s : Nat) : Int):=by
    intro m s f hs;rw [q13p,show ((m : Int) % 256) = (m : Int) by omega,q133 m f];have : Sort.bitsLen m≤8:=(Sort.bitsLen_le_iff m 8).2 q8;rw [qr,Qh (x:=((Sort.bitsLen m : Nat) : Int)) q8,Qh q8];congr 1;omega
  by_cases j : n ≥ 65536
  · have b : decide ((n : Int) ≥ 65536) = true:=Q9 q8;have e : Int.fdiv (n : Int) (2 ^ 16) = ((n / 65536 : Nat) : Int):=by rw [Int.fdiv_eq_ediv_of_nonneg _ qq];omega
    have a : decide (((n / 65536 : Nat) : Int) ≥ 256) = false:=Qa q8;have w : w64 (0 + 16) = ((16 : Nat) : Int):=by rw [Qh q8];rfl
    simp only [b,Qb,qr,e,a,Q6,w];rw [fin (n / 65536) 16 q8 q8,qr,qi2 n 16 q8]
  · have b : decide ((n : Int) ≥ 65536) = false:=Qa q8;simp only [b,Q6,qr];by_cases g : n ≥ 256
    · have a : decide ((n : Int) ≥ 256) = true:=Q9 q8;have e : Int.fdiv (n : Int) (2 ^ 8) = ((n / 256 : Nat) : Int):=by rw [Int.fdiv_eq_ediv_of_nonneg _ qq];omega
      have w : w64 (0 + 8) = ((8 : Nat) : Int):=by rw [Qh q8];rfl
      simp only [a,Qb,qr,e,w];rw [fin (n / 256) 8 q8 q8,qr,qi2 n 8 q8]
    · have a : decide ((n : Int) ≥ 256) = false:=Qa q8;simp only [a,Q6,qr];have:=fin n 0 q8 q8;exact congrArg (fun o=>Option.bind o some) this
theorem qv4 (n : Nat) (a : n≤1000000) : q2r (n : Int) = some ((1 <<< Sort.bitsLen n : Nat) : Int):=by
  unfold q2r;rw [q3c,show ((n : Int) % 18446744073709551616) = (n : Int) by omega,qkq n a];have hk : Sort.bitsLen n≤20:=(Sort.bitsLen_le_iff n 20).2 q8;have h : (2 : Nat) ^ Sort.bitsLen n≤2 ^ 20:=Nat.pow_le_pow_right qq hk;have e : min (Sort.bitsLen n) IntKind.u64.bits = Sort.bitsLen n:=Nat.min_eq_left (by show _≤64;omega);simp only [qr,shlK];rw [qw q8,Int.toNat_natCast,e,q3c,Nat.one_shiftLeft,qr,show ((1 : Int) * (2 : Int) ^ Sort.bitsLen n) = ((2 ^ Sort.bitsLen n : Nat) : Int) by push_cast;omega];generalize (2 : Nat) ^ Sort.bitsLen n = p at h;congr 1;omega
section
variable {T : Type} [Inhabited T] {P : T→Prop} {lt : T→T→Bool} {q : T→T→Option Int}
theorem qe8 {a b n : Nat} (hb : b≤n) (h8 : 8≤b - a) {d : Array T} (hd : AllP n P d) (k : Nat) (hk : k≤2) (r : UInt64) :
    Uu (a : Int) (b : Int) ((1 <<< Sort.bitsLen (b - a) : Nat) : Int) (((a + (b - a) / 4 * 2 - 1 + k : Nat) : Int),d.toList,((r.toNat : Nat) : Int)) =
      some (.inl (((a + (b - a) / 4 * 2 - 1 + k + 1 : Nat) : Int),(Sort.breakStep a (b - a) (1 <<< Sort.bitsLen (b - a)) (r,d) (a + (b - a) / 4 * 2 - 1 + k)).2.toList,(((Sort.breakStep a (b - a) (1 <<< Sort.bitsLen (b - a)) (r,d) (a + (b - a) / 4 * 2 - 1 + k)).1.toNat : Nat) : Int)))∧
      AllP n P (Sort.breakStep a (b - a) (1 <<< Sort.bitsLen (b - a)) (r,d) (a + (b - a) / 4 * 2 - 1 + k)).2:=by
  have aa:=hd.1;have hn:=hd.2.1;have q : r.toNat < 18446744073709551616:=r.toNat_lt;have e0 : w64 ((b : Int) - (a : Int)) = ((b - a : Nat) : Int):=wsub q8 q8
  have e1 : w64 (Int.tdiv ((b - a : Nat) : Int) 4) = (((b - a) / 4 : Nat) : Int):=by
    rw [Int.tdiv_eq_ediv_of_nonneg q8,Qh q8];omega
  have z : w64 ((((b - a) / 4 : Nat) : Int) * 2) = (((b - a) / 4 * 2 : Nat) : Int):=by rw [Qh q8];omega
  have e3 : w64 ((a : Int) + (((b - a) / 4 * 2 : Nat) : Int)) = ((a + (b - a) / 4 * 2 : Nat) : Int):=by rw [Qh q8];omega
  have e4 : w64 (((a + (b - a) / 4 * 2 : Nat) : Int) + 1) = ((a + (b - a) / 4 * 2 + 1 : Nat) : Int):=w1p _ q8;have v : decide (((a + (b - a) / 4 * 2 - 1 + k : Nat) : Int)≤((a + (b - a) / 4 * 2 + 1 : Nat) : Int)) = true:=Q9 q8;have hx:=q13t r.toNat q;have w : Sort.xorNextN r.toNat < 18446744073709551616:=Sort.xorNextN_lt _ q;have g : Sort.bitsLen (b - a)≤20:=(Sort.bitsLen_le_iff _ 20).2 q8;have h : (2 : Nat) ^ Sort.bitsLen (b - a)≤2 ^ 20:=Nat.pow_le_pow_right qq g;have hp1 : 0 < (2 : Nat) ^ Sort.bitsLen (b - a):=Nat.two_pow_pos _;have u:=Sort.two_pow_bitsLen_le (n:=b - a) q8;have c : (1 : Nat) <<< Sort.bitsLen (b - a) = 2 ^ Sort.bitsLen (b - a):=Nat.one_shiftLeft _
  have em : IntKind.u64.wrap (((1 <<< Sort.bitsLen (b - a) : Nat) : Int) - 1) = ((1 <<< Sort.bitsLen (b - a) - 1 : Nat) : Int):=by
    rw [q3c,c];generalize (2 : Nat) ^ Sort.bitsLen (b - a) = p at h hp1;omega
  have f : (Sort.xorNextN r.toNat) &&& (1 <<< Sort.bitsLen (b - a) - 1) < 2 ^ Sort.bitsLen (b - a):=by
    rw [c];have : (Sort.xorNextN r.toNat) &&& (2 ^ Sort.bitsLen (b - a) - 1)≤2 ^ Sort.bitsLen (b - a) - 1:=Nat.and_le_right;omega
  have s:=andU (Sort.xorNextN r.toNat) (1 <<< Sort.bitsLen (b - a) - 1) w (by rw [c];omega);unfold Sort.breakStep;simp only [Sort.xorNext_toNat];generalize hm : (Sort.xorNextN r.toNat) &&& (1 <<< Sort.bitsLen (b - a) - 1) = m at f s;have y : m < 2 * (b - a):=by omega
  have x : w64 (m : Int) = (m : Int):=Qh q8
  have l : (cond (decide ((m : Int) ≥ ((b - a : Nat) : Int))) (some (w64 ((m : Int) - ((b - a : Nat) : Int)))) (some (m : Int))) = some (((if m ≥ b - a then m - (b - a) else m) : Nat) : Int):=by
    by_cases j : m ≥ b - a
    · have t : decide ((m : Int) ≥ ((b - a : Nat) : Int)) = true:=Q9 q8;rw [t,Qb,qu j,wsub j q8]
    · have t : decide ((m : Int) ≥ ((b - a : Nat) : Int)) = false:=Qa q8;rw [t,Q6,qw j]
  have ho : (if m ≥ b - a then m - (b - a) else m) < b - a:=by split <;> omega
  generalize (if m ≥ b - a then m - (b - a) else m) = o at l ho;have eo : w64 ((a : Int) + (o : Int)) = ((a + o : Nat) : Int):=by rw [Qh q8];omega
  refine ⟨?_,hd.swp q8 q8⟩;simp only [Uu,e0,e1,z,e3,e4,v,Qb,hx,qr,em,s,x,l,eo,gx (d:=d) (k:=a + o) q8,gx (d:=d) (k:=a + (b - a) / 4 * 2 - 1 + k) q8,gxs (d:=d) (k:=a + o) q8,Int.toNat_natCast,gswp,w1p (a + (b - a) / 4 * 2 - 1 + k) q8]
theorem qp4 {a b n : Nat} (hb : b≤n) (p : a < b) {d : Array T} (hd : AllP n P d) : q1q q d.toList (a : Int) (b : Int) = some (Sort.breakPatterns d a b).toList:=by
  have w:=hd.2.1;have e0 : w64 ((b : Int) - (a : Int)) = ((b - a : Nat) : Int):=wsub q8 q8;unfold q1q Sort.breakPatterns;simp only [e0];by_cases c : b - a ≥ 8
  · have t : decide (((b - a : Nat) : Int) ≥ 8) = true:=Q9 q8;rw [t,Qb,qu c,qv4 _ q8,qr]
    have e1 : w64 (Int.tdiv ((b - a : Nat) : Int) 4) = (((b - a) / 4 : Nat) : Int):=by
      rw [Int.tdiv_eq_ediv_of_nonneg q8,Qh q8];omega
    have m : w64 ((((b - a) / 4 : Nat) : Int) * 2) = (((b - a) / 4 * 2 : Nat) : Int):=by rw [Qh q8];omega
    have h : w64 ((a : Int) + (((b - a) / 4 * 2 : Nat) : Int)) = ((a + (b - a) / 4 * 2 : Nat) : Int):=by rw [Qh q8];omega
    have u : w64 (((a + (b - a) / 4 * 2 : Nat) : Int) - 1) = ((a + (b - a) / 4 * 2 - 1 : Nat) : Int):=by rw [Qh q8];omega
    have o : IntKind.u64.wrap ((b - a : Nat) : Int) = (((UInt64.ofNat (b - a)).toNat : Nat) : Int):=by
      rw [q3c,UInt64.toNat_ofNat'];omega
    rw [e1,m,h,u,o];obtain ⟨s1,k⟩:=qe8 hb c hd 0 q8 (UInt64.ofNat (b - a));obtain ⟨j,l⟩:=qe8 hb c k 1 q8 (Sort.breakStep a (b - a) (1 <<< Sort.bitsLen (b - a)) (UInt64.ofNat (b - a),d) (a + (b - a) / 4 * 2 - 1 + 0)).1;obtain ⟨g,v⟩:=qe8 hb c l 2 q8 (Sort.breakStep a (b - a) (1 <<< Sort.bitsLen (b - a)) ((Sort.breakStep a (b - a) (1 <<< Sort.bitsLen (b - a)) (UInt64.ofNat (b - a),d) (a + (b - a) / 4 * 2 - 1 + 0)).1,(Sort.breakStep a (b - a) (1 <<< Sort.bitsLen (b - a)) (UInt64.ofNat (b - a),d) (a + (b - a) / 4 * 2 - 1 + 0)).2) (a + (b - a) / 4 * 2 - 1 + 1)).1;simp only [Nat.add_zero,Prod.eta] at s1 j g k l v;rw [Kf s1,Kf j,Kf g]
    have f : Uu (T:=T) (a : Int) (b : Int) ((1 <<< Sort.bitsLen (b - a) : Nat) : Int) (((a + (b - a) / 4 * 2 - 1 + 2 + 1 : Nat) : Int),(Sort.breakStep a (b - a) (1 <<< Sort.bitsLen (b - a)) (Sort.breakStep a (b - a) (1 <<< Sort.bitsLen (b - a)) (Sort.breakStep a (b - a) (1 <<< Sort.bitsLen (b - a)) (UInt64.ofNat (b - a),d) (a + (b - a) / 4 * 2 - 1)) (a + (b - a) / 4 * 2 - 1 + 1)) (a + (b - a) / 4 * 2 - 1 + 2)).2.toList,(((Sort.breakStep a (b - a) (1 <<< Sort.bitsLen (b - a)) (Sort.breakStep a (b - a) (1 <<< Sort.bitsLen (b - a)) (Sort.breakStep a (b - a) (1 <<< Sort.bitsLen (b - a)) (UInt64.ofNat (b - a),d) (a + (b - a) / 4 * 2 - 1)) (a + (b - a) / 4 * 2 - 1 + 1)) (a + (b - a) / 4 * 2 - 1 + 2)).1.toNat : Nat) : Int)) = some (.inr (Sort.breakStep a (b - a) (1 <<< Sort.bitsLen (b - a)) (Sort.breakStep a (b - a) (1 <<< Sort.bitsLen (b - a)) (Sort.breakStep a (b - a) (1 <<< Sort.bitsLen (b - a)) (UInt64.ofNat (b - a),d) (a + (b - a) / 4 * 2 - 1)) (a + (b - a) / 4 * 2 - 1 + 1)) (a + (b - a) / 4 * 2 - 1 + 2)).2.toList):=by
      have s : w64 (((a + (b - a) / 4 * 2 : Nat) : Int) + 1) = ((a + (b - a) / 4 * 2 + 1 : Nat) : Int):=w1p _ q8;have r : decide (((a + (b - a) / 4 * 2 - 1 + 2 + 1 : Nat) : Int)≤((a + (b - a) / 4 * 2 + 1 : Nat) : Int)) = false:=Qa q8;simp only [Uu,e0,e1,m,h,s,r,Q6]
    rw [Kc f];rfl
  · have t : decide (((b - a : Nat) : Int) ≥ 8) = false:=Qa q8;rw [t,Q6,qw c]
end
end Go.Sh
