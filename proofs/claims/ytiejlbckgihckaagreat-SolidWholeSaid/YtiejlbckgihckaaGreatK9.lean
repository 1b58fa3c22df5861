/- Pl1 Pl2 Pl3 Pg0 Pg1 Pg2 Pg3 -/
import Derived.Test.YtiejlbckgihckaaGreatK8
import Derived.Sort.AssemblyPlain
import Derived.Sort.LotD5
namespace Go.Sh
open Go Go.Am
def has (s : List qj) (x : Int) : Prop:=∃ t∈s,t.Lo≤x∧x < t.Hi
def Can (s : List qj) : Prop:=(∀ t∈s,t.Lo < t.Hi)∧s.Pairwise (fun a b=>a.Hi < b.Lo)
def vld (t : qj) : Prop:=t.Lo < t.Hi∧-1000000≤t.Lo∧t.Hi≤1000000
instance (t : qj) : Decidable (vld t):=by unfold vld;exact inferInstance
def Good (s : List qj) : Prop:=(∀ t∈s,vld t)∧s.Pairwise (fun a b=>a.Hi < b.Lo)
theorem Good.can {s : List qj} (h : Good s) : Can s:=⟨fun t a=>(h.1 t a).1,h.2⟩
theorem q21 (x : Int) : ¬ has [] x:=by rintro ⟨t,h,_⟩;cases h
theorem Zx {a : qj} {s : List qj} {x : Int} : has (a::s) x↔(a.Lo≤x∧x < a.Hi)∨has s x:=by
  constructor
  · rintro ⟨t,b,h⟩;rcases List.mem_cons.1 b with rfl | b
    · exact .inl h
    · exact .inr ⟨t,b,h⟩
  · rintro (h | ⟨t,b,h⟩)
    · exact ⟨a,qd,h⟩
    · exact ⟨t,by simp [b],h⟩
theorem qtb {a b : List qj} {x : Int} : has (a ++ b) x↔has a x∨has b x:=by
  induction a with
  | nil=>simp [q21]
  | cons t r ih=>simp only [List.cons_append,Zx,ih,or_assoc]
theorem Can.tail {a : qj} {s : List qj} (h : Can (a::s)) : Can s:=⟨fun t b=>h.1 t (by simp [b]),(List.pairwise_cons.1 h.2).2⟩
theorem Can.lt {a : qj} {s : List qj} (h : Can (a::s)) : ∀ t∈s,a.Hi < t.Lo:=(List.pairwise_cons.1 h.2).1
theorem Can.tail_gt {a : qj} {s : List qj} (h : Can (a::s)) {x : Int} (c : has s x) : a.Hi < x:=by
  obtain ⟨t,b,f,d⟩:=c;have:=h.lt t b;omega
theorem q5m : ∀ {s t : List qj},Can s→Can t→(∀ x,has s x↔has t x)→s = t
  | [],[],_,_,_=>rfl
  | [],b::t,_,c,h=>absurd ((h b.Lo).2 (Zx.2 (.inl ⟨Int.le_refl _,c.1 b qd⟩))) (q21 _)
  | a::s,[],hs,_,h=>absurd ((h a.Lo).1 (Zx.2 (.inl ⟨Int.le_refl _,hs.1 a qd⟩))) (q21 _)
  | a::s,b::t,hs,c,h=>by
    have m:=hs.1 a qd
    have hb:=c.1 b qd
    have lo : ∀ {a b : qj} {s t : List qj},Can (a::s)→Can (b::t)→(∀ x,has (a::s) x↔has (b::t) x)→b.Lo≤a.Lo:=by
      intro a b s t hs c h;rcases Zx.1 ((h a.Lo).1 (Zx.2 (.inl ⟨Int.le_refl _,hs.1 a qd⟩))) with d | d
      · exact d.1
      · have:=c.tail_gt d;have:=c.1 b qd;omega
    have j : a.Lo = b.Lo:=Int.le_antisymm (lo c hs fun x=>(h x).symm) (lo hs c h)
    have hi : ∀ {a b : qj} {s t : List qj},Can (a::s)→Can (b::t)→(∀ x,has (a::s) x↔has (b::t) x)→a.Lo = b.Lo→b.Hi≤a.Hi:=by
      intro a b s t hs c h e;have m:=hs.1 a qd;have hb:=c.1 b qd;refine Int.not_lt.1 fun k=>?_;rcases Zx.1 ((h a.Hi).2 (Zx.2 (.inl ⟨q0,k⟩))) with d | d
      · omega
      · have:=hs.tail_gt d;omega
    have l : a.Hi = b.Hi:=Int.le_antisymm (hi c hs (fun x=>(h x).symm) j.symm) (hi hs c h j)
    have e : a = b:=by cases a;cases b;simp at j l;simp [j,l]
    subst e
    congr 1
    refine q5m hs.tail c.tail fun x=>⟨fun g=>?_,fun g=>?_⟩
    · have d:=hs.tail_gt g
      rcases Zx.1 ((h x).1 (Zx.2 (.inr g))) with f | f
      · omega
      · exact f
    · have d:=c.tail_gt g
      rcases Zx.1 ((h x).2 (Zx.2 (.inr g))) with f | f
      · omega
      · exact f
theorem qpe (t : qj) : q3q t = some (decide (vld t)):=by
  unfold q3q vld;by_cases c : t.Lo < t.Hi <;> by_cases b : -1000000≤t.Lo <;> by_cases a : t.Hi≤1000000 <;> simp [c,b,a]
open Classical in
noncomputable def Yp (s : List qj) : Int:=if 400 < s.length then 4 else if Good s then 0 else 8
def qhx (s : List qj) (k : Nat) : Prop:=(∀ i (h : i < s.length),i < k→vld s[i])∧∀ i (h : i + 1 < s.length),i + 1 < k→s[i].Hi < s[i+1].Lo
theorem qt1 {s : List qj} (h : qhx s s.length) : Good s:=by
  refine ⟨fun t d=>?_,?_⟩
  · obtain ⟨i,hi,rfl⟩:=List.mem_iff_getElem.1 d;exact h.1 i hi hi
  · have key : ∀ i j (hi : i < s.length) (a : j < s.length),i < j→s[i].Hi < s[j].Lo:=by
      intro i j hi a b
      induction j with
      | zero=>omega
      | succ j ih=>
        have c:=h.2 j a a;by_cases e : i = j
        · subst e;exact c
        · have g:=ih q0 q0;have f:=(h.1 j q0 q0).1;omega
    rw [List.pairwise_iff_getElem];exact key
theorem Good.get {s : List qj} (h : Good s) (i : Nat) (hi : i < s.length) : vld s[i]:=h.1 _ (Ki hi)
theorem Good.nxt {s : List qj} (h : Good s) (i j : Nat) (hi : i < s.length) (b : j < s.length) (a : i < j) : s[i].Hi < s[j].Lo:=List.pairwise_iff_getElem.1 h.2 i j hi b a
theorem qeu (s : List qj) : q3o s = some (Yp s):=by
  unfold q3o Yp;by_cases n : 400 < s.length
  · have : decide ((s.length : Int) > 400) = true:=by simp;omega
    simp [this,n]
  · have hd : decide ((s.length : Int) > 400) = false:=by simp;omega
    simp only [hd,n,if_false,Q3];have:=Zz (f:=q2i s) (σ:=Unit) (fun k _=>(k : Int)) s.length (fun k _=>qhx s k) (fun b=>(b = .inl ()∧Good s)∨(b = .inr 8∧¬ Good s)) ?_ ?_ (k0:=0) (c0:=()) q0 ⟨fun i _ h=>q0,fun i _ h=>q0⟩
    · obtain ⟨b,l,d⟩:=this;have l : loop (q2i s) 0 = some b:=l;rw [l];rcases d with ⟨rfl,d⟩ | ⟨rfl,d⟩ <;> simp [d]
    · intro k _ m g;have hb : decide ((k : Int) < (s.length : Int)) = true:=by simp;omega
      simp only [q2i,hb,Q2,Qx m,qk,qpe];have bad : ¬ Good s→∃ b,(some (Sum.inr (Sum.inr 8)) : Option (Int ⊕ (Unit ⊕ Int))) = some (.inr b)∧((b = .inl ()∧Good s)∨(b = .inr 8∧¬ Good s)):=fun h=>⟨_,rfl,.inr ⟨rfl,h⟩⟩
      by_cases c : vld s[k]
      · simp only [c,decide_true,Bool.not_true,Q3];by_cases o : k = 0
        · subst o;refine .inl ⟨(),by simp [Qb],⟨fun i hi h=>?_,fun i hi h=>q0⟩⟩
          (obtain rfl : i = 0:=by omega)
          exact c
        · obtain ⟨j,rfl⟩ : ∃ j,k = j + 1:=⟨k - 1,q0⟩
          have hp : decide (((j + 1 : Nat) : Int) > 0) = true:=Qf q0
          have p : idx s (w64 (((j + 1 : Nat) : Int) - 1)) = some (s[j]'(q0)):=by
            rw [Qb q0];exact Jh q0 q0
          simp only [hp,Q2,p,qk];by_cases a : s[j].Hi < s[j+1].Lo
          · have : decide (s[j].Hi ≥ s[j+1].Lo) = false:=by simp;omega
            simp only [this,Q3];rw [Qb q0];refine .inl ⟨(),rfl,⟨fun i hi h=>?_,fun i hi h=>?_⟩⟩
            · by_cases e : i = j + 1
              · subst e;exact c
              · exact g.1 i hi q0
            · by_cases e : i = j
              · subst e;exact a
              · exact g.2 i hi q0
          · have : decide (s[j].Hi ≥ s[j+1].Lo) = true:=by simp;omega
            simp only [this,Q2];exact .inr (bad fun h=>a (h.nxt j (j + 1) q0 m q0))
      · simp only [c,decide_false,Bool.not_false,Q2,qk];exact .inr (bad fun h=>c (h.get k m))
    · intro _ g;have hb : decide ((s.length : Int) < (s.length : Int)) = false:=by simp
      simp only [q2i,hb,Q3];exact ⟨_,rfl,.inl ⟨rfl,qt1 g⟩⟩
theorem qwl : qmq = q3q:=rfl
theorem qwh (s : List qj) : qgq s = q2i s:=by
  funext a;unfold qgq q2i;cases h : idx s a <;> simp [h,qwl]
theorem qwk (s : List qj) : qcp s = some (Yp s):=by
  rw [← qeu];unfold qcp q3o;rw [qwh]
open Classical in
theorem qmo (s : List qj) (x : Int) (l : s.length≤1000000) : qcq s x = some (decide (has s x)):=by
  have:=Zz (f:=q9n s x) (σ:=Unit) (fun k _=>(k : Int)) s.length (fun k _=>∀ i (h : i < s.length),i < k→¬ (s[i].Lo≤x∧x < s[i].Hi)) (fun b=>(b = .inl ()∧¬ has s x)∨(b = .inr true∧has s x)) ?_ ?_ (k0:=0) (c0:=()) q0 (fun i _ h=>q0)
  · obtain ⟨b,c,a⟩:=this;have c : loop (q9n s x) 0 = some b:=c;unfold qcq;rw [c];rcases a with ⟨rfl,a⟩ | ⟨rfl,a⟩ <;> simp [a]
  · intro k _ g d;have hb : decide ((k : Int) < (s.length : Int)) = true:=Qf q0;simp only [q9n,hb,Q2,Qx g,qk];by_cases c : s[k].Lo≤x <;> by_cases a : x < s[k].Hi
    · exact .inr ⟨.inr true,by simp [c,a],.inr ⟨rfl,s[k],Ki g,c,a⟩⟩
    all_goals
      refine .inl ⟨(),by simp [c,a];exact Qb q0,fun i hi h=>?_⟩
      by_cases e : i = k
      · subst e;omega
      · exact d i hi q0
  · intro _ d;have hb : decide ((s.length : Int) < (s.length : Int)) = false:=Qj q0;simp only [q9n,hb,Q3];refine ⟨_,rfl,.inl ⟨rfl,?_⟩⟩;rintro ⟨t,j,h⟩;obtain ⟨i,hi,rfl⟩:=List.mem_iff_getElem.1 j;exact d i hi hi h
end Go.Sh
namespace Go.Sh
open Go Go.Am
theorem qti (out : List Int) (v : Int) (b : Nat) (hb : b≤out.length) :
    (cpyw (out ++ [0]) (b + 1,(out ++ [0]).length - (b + 1)) ((((out ++ [0]).drop b).take ((out ++ [0]).length - b)))).set b v = out.take b ++ v::out.drop b:=by
  have j : ((out ++ [0]).drop b).take ((out ++ [0]).length - b) = (out ++ [0]).drop b:=List.take_of_length_le qd;rw [j];unfold cpyw splice;have c : (min ((out ++ [0]).drop b).length ((out ++ [0]).length - (b + 1))) = out.length - b:=by simp;omega
  simp only [c]
  have d : ((out ++ [0]).drop b).take (out.length - b) = out.drop b:=by
    rw [List.drop_append_of_le_length hb,List.take_append_of_le_length qd];exact List.take_of_length_le qd
  rw [d]
  have a : (out ++ [0]).drop (b + 1 + (out.drop b).length) = []:=by
    apply List.drop_of_length_le;simp;omega
  rw [a,List.append_nil]
  have g : ∃ y,(out ++ [0]).take (b + 1) = out.take b ++ [y]:=by
    refine ⟨(out ++ [0])[b]'(by simp;omega),?_⟩;rw [List.take_succ_eq_append_getElem (by simp;omega),List.take_append_of_le_length hb]
  obtain ⟨y,f⟩:=g
  have key : ∀ (xs ys : List Int) (y v : Int),(xs ++ (y::ys)).set xs.length v = xs ++ v::ys:=by
    intro xs ys y v
    induction xs with
    | nil=>rfl
    | cons x xs ih=>simp [ih]
  have h : (out.take b).length = b:=by simp;omega
  rw [f,List.append_assoc];have:=key (out.take b) (out.drop b) y v;rw [h] at this;exact this
def Z4 (l out : List Int) : Prop:=out.Pairwise (· < ·)∧∀ x,x∈out↔x∈l
theorem q12h (a : Int × List Int) (l : List Int) (i : Nat) (hi : i < l.length) (q : a.1 = i) (p : a.2.length≤1000000) (hs : a.2.Pairwise (· < ·)) :
    ∃ b : Int,loop (q49 a l) (a.2.length : Int) = some b∧∃ k : Nat,b = k∧k≤a.2.length∧(∀ j (h : j < a.2.length),k≤j→l[i] < a.2[j])∧(∀ j (h : j < a.2.length),j < k→a.2[j]≤l[i]):=by
  refine qu1 (fun b : Int=>∃ k : Nat,b = k∧k≤a.2.length∧(∀ j (h : j < a.2.length),k≤j→l[i] < a.2[j])) (fun b=>b.toNat) _ ?_ ⟨a.2.length,rfl,q0,fun j h d=>q0⟩;rintro b ⟨k,rfl,r,c⟩
  cases k with
  | zero=>
    refine .inr ⟨0,?_,0,rfl,q0,c,fun j h d=>q0⟩;simp [q49]
  | succ k=>
    have o : decide (((k + 1 : Nat) : Int) > 0) = true:=Qf q0;have n : idx a.2 (w64 (((k + 1 : Nat) : Int) - 1)) = some (a.2[k]'(q0)):=by rw [Qb q0];exact Jh q0 q0
    have m : idx l a.1 = some l[i]:=by rw [q];exact Qx hi
    have f : k < a.2.length:=by omega
    by_cases g : a.2[k] > l[i]
    · refine .inl ⟨(k : Int),?_,⟨k,rfl,q0,fun j h d=>?_⟩,qd⟩
      · simp only [q49,o,n,m,Q2,qk,g,decide_true];rw [Qb q0];congr 2;omega
      · by_cases e : j = k
        · subst e;exact g
        · exact c j h q0
    · refine .inr ⟨((k + 1 : Nat) : Int),?_,k + 1,rfl,r,c,fun j h d=>?_⟩
      · simp only [q49,o,n,m,Q2,qk,g,decide_false,Q3]
      · by_cases e : j = k
        · subst e;omega
        · have : a.2[j] < a.2[k]:=List.pairwise_iff_getElem.1 hs j k h f q0;omega
theorem qp6 {l out : List Int} {v : Int} {i : Nat} (hi : i < l.length) (c : l[i] = v) (h : Z4 (l.take i) out) (a : List Int) (hs : a.Pairwise (· < ·)) (b : ∀ x,x∈a↔x∈out∨x = v) : Z4 (l.take (i + 1)) a:=by
  refine ⟨hs,fun x=>?_⟩;rw [b,h.2,List.take_succ_eq_append_getElem hi];simp [c]
theorem qok (l : List Int) (hl : l.length≤1000000) : ∃ t,Ub l = some t∧Z4 l t∧t.length≤l.length:=by
  have:=Zz (f:=q48 l) (σ:=List Int) (fun k c=>((k : Int),c)) l.length (fun k c=>Z4 (l.take k) c∧c.length≤k) (fun t=>Z4 l t∧t.length≤l.length) ?_ ?_ (k0:=0) (c0:=[]) q0 ⟨⟨.nil,qd⟩,qd⟩
  · obtain ⟨b,g,o⟩:=this;have g : loop (q48 l) (0,[]) = some b:=g;exact ⟨b,by unfold Ub;rw [g];rfl,o⟩
  · intro k c hk a;obtain ⟨a,ak⟩:=a;have hb : decide ((k : Int) < (l.length : Int)) = true:=Qf q0;obtain ⟨b,u,j,rfl,hj,n,q⟩:=q12h ((k : Int),c) l k hk rfl (by simp;omega) a.1;simp only at hj n q u;refine .inl ?_;simp only [q48,hb,Q2,u,qk,Qx hk];have hw : w64 ((k : Int) + 1) = ((k + 1 : Nat) : Int):=by rw [Qb q0];omega
    by_cases p : 0 < j∧∃ h : j - 1 < c.length,c[j-1] = l[k]
    · obtain ⟨w,d,he⟩:=p;have r : decide ((j : Int) > 0) = true:=Qf q0;have g : idx c (w64 ((j : Int) - 1)) = some (c[j-1]):=by rw [Qb q0];exact Jh q0 d
      refine ⟨c,by simp only [r,g,Q2,qk,he,beq_self_eq_true,hw],?_,q0⟩;refine qp6 hk rfl a c a.1 fun x=>⟨.inl,?_⟩
      rintro (h | rfl)
      · exact h
      · rw [← he];exact Ki d
    · have hc : (cond (decide ((j : Int) > 0)) ((idx c (w64 ((j : Int) - 1))).bind fun s=>some (s == l[k])) (some false)) = some false:=by
        by_cases w : 0 < j
        · have d : j - 1 < c.length:=by omega
          have r : decide ((j : Int) > 0) = true:=Qf q0;have g : idx c (w64 ((j : Int) - 1)) = some (c[j-1]):=by rw [Qb q0];exact Jh q0 d
          simp only [r,g,Q2,qk];have : c[j-1]≠l[k]:=fun e=>p ⟨w,d,e⟩;simp [this]
        · have r : decide ((j : Int) > 0) = false:=Qj q0;simp only [r,Q3]
      have ab : app 8 c [0] = some (c ++ [0]):=Y4 (by simp;omega)
      have ae : sub2 (c ++ [0]).length (w64 ((j : Int) + 1)) ((c ++ [0]).length : Int) = some (j + 1,(c ++ [0]).length - (j + 1)):=by
        rw [Qb q0];unfold sub2;rw [qr ⟨q0,by simp;omega,q0⟩];congr 2
      have af : sub2 (c ++ [0]).length (j : Int) ((c ++ [0]).length : Int) = some (j,(c ++ [0]).length - j):=by
        unfold sub2;rw [qr ⟨q0,by simp;omega,q0⟩];congr 2
      simp only [hc,qk,Q3,ab,ae,af]
      have v : j < (cpyw (c ++ [0]) (j + 1,(c ++ [0]).length - (j + 1)) (((c ++ [0]).drop j).take ((c ++ [0]).length - j))).length:=by
        rw [qjj (by simp;omega)];simp;omega
      rw [Qx v];simp only [qk,Int.toNat_natCast,qti c l[k] j hj,hw];refine ⟨_,rfl,?_,by simp;omega⟩;refine qp6 hk rfl a _ ?_ fun x=>?_
      · rw [List.pairwise_append];refine ⟨a.1.sublist (List.take_sublist _ _),?_,?_⟩
        · rw [List.pairwise_cons];refine ⟨fun y hy=>?_,a.1.sublist (List.drop_sublist _ _)⟩;obtain ⟨i,hi,rfl⟩:=List.mem_iff_getElem.1 hy;rw [List.getElem_drop];exact n _ _ q0
        · intro y hy z hz;obtain ⟨i,hi,rfl⟩:=List.mem_iff_getElem.1 hy;rw [List.getElem_take];simp at hi;have g:=q i q0 q0;have o : c[i]≠l[k]∧c[i] < l[k]∨c[i] = l[k]:=by omega
          have h3 : c[i] < l[k]:=by
            rcases o with o | o
            · exact o.2
            · exfalso;by_cases e : i = j - 1
              · subst e;exact p ⟨q0,q0,o⟩
              · have : c[i] < c[j-1]'(q0):=List.pairwise_iff_getElem.1 a.1 i (j-1) q0 q0 q0;have:=q (j-1) q0 q0;omega
          rcases List.mem_cons.1 hz with rfl | hz
          · exact h3
          · obtain ⟨m,hm,rfl⟩:=List.mem_iff_getElem.1 hz;rw [List.getElem_drop];simp at hm;have:=n (j + m) q0 q0;omega
      · constructor
        · intro h;rcases List.mem_append.1 h with h | h
          · exact .inl (List.mem_of_mem_take h)
          · rcases List.mem_cons.1 h with h | h
            · exact .inr h
            · exact .inl (List.mem_of_mem_drop h)
        · rintro (h | rfl)
          · rw [← List.take_append_drop j c] at h;rcases List.mem_append.1 h with h | h
            · exact List.mem_append_left _ h
            · exact List.mem_append_right _ (List.mem_cons_of_mem _ h)
          · simp
  · intro c a;have hb : decide ((l.length : Int) < (l.length : Int)) = false:=Qj q0;simp only [q48,hb,Q3];refine ⟨_,rfl,by simpa using a.1,a.2⟩
def ends (s : List qj) : List Int:=s.flatMap fun t=>[t.Lo,t.Hi]
theorem q9g {s : List qj} {x : Int} : x∈ends s↔∃ t∈s,x = t.Lo∨x = t.Hi:=by simp [ends]
theorem qs5 {s : List qj} {k : Nat} (h : k < s.length) : ends (s.take (k + 1)) = ends (s.take k) ++ [s[k].Lo,s[k].Hi]:=by
  unfold ends;rw [List.take_succ_eq_append_getElem h,List.flatMap_append];simp
theorem qby (s : List qj) : (ends s).length = 2 * s.length:=by
  induction s with
  | nil=>rfl
  | cons t r ih=>simp only [ends,List.flatMap_cons,List.length_append,List.length_cons,List.length_nil] at ih ⊢;omega
theorem qjp (s : List qj) (c0 : List Int) (hs : s.length≤100000) (g : c0.length≤200000) : loop (q9m s) (0,c0) = some (c0 ++ ends s):=by
  have:=Zz (f:=q9m s) (σ:=List Int) (fun k c=>((k : Int),c)) s.length (fun k c=>c = c0 ++ ends (s.take k)) (fun t=>t = c0 ++ ends s) ?_ ?_ (k0:=0) (c0:=c0) q0 (by simp [ends])
  · obtain ⟨b,d,rfl⟩:=this;exact d
  · rintro k c a rfl;have hb : decide ((k : Int) < (s.length : Int)) = true:=Qf q0;refine .inl ⟨c0 ++ ends (s.take (k + 1)),?_,rfl⟩;simp only [q9m,hb,Q2,Qx a,qk];rw [Y4 (by simp [qby];omega),Qb q0,qs5 a];simp
  · rintro c rfl;have hb : decide ((s.length : Int) < (s.length : Int)) = false:=Qj q0;simp [q9m,hb]
theorem qs4 (p q : List qj) (hp : p.length≤100000) (f : q.length≤100000) : ∃ t,qgr p q = some t∧Z4 (ends p ++ ends q) t∧t.length≤2 * (p.length + q.length):=by
  have b : loop (qmn q) (0,ends p) = some (ends p ++ ends q):=qjp q (ends p) f (by rw [qby];omega);obtain ⟨t,a,c,d⟩:=qok (ends p ++ ends q) (by simp [qby];omega);refine ⟨t,?_,c,by simp [qby] at d;omega⟩;unfold qgr;rw [qjp p [] hp qd];simp only [List.nil_append,qk,b,a]
end Go.Sh
namespace Go.Sh
open Go Go.Am
def addS (c : List qj) (a b : Int) : List qj:=match c.getLast? with
  | some t=>if t.Hi = a then c.dropLast ++ [{Lo:=t.Lo,Hi:=b}] else c ++ [{Lo:=a,Hi:=b}]
  | none=>[{Lo:=a,Hi:=b}]
theorem qi0 (a b : Int) : addS [] a b = [{Lo:=a,Hi:=b}]:=rfl
theorem qbi {c : List qj} {t : qj} {b : Int} : addS (c ++ [t]) t.Hi b = c ++ [{Lo:=t.Lo,Hi:=b}]:=by simp [addS]
theorem qbj {c : List qj} {t : qj} {a b : Int} (h : t.Hi≠a) : addS (c ++ [t]) a b = (c ++ [t]) ++ [{Lo:=a,Hi:=b}]:=by simp [addS,h]
theorem qdf {α : Type} (c : List α) : c = []∨∃ d t,c = d ++ [t]:=by
  rcases List.eq_nil_or_concat c with h | ⟨d,t,h⟩
  · exact .inl h
  · exact .inr ⟨d,t,by simpa using h⟩
theorem qeo {d : List qj} {t : qj} : Can (d ++ [t])↔Can d∧t.Lo < t.Hi∧∀ s∈d,s.Hi < t.Lo:=by
  unfold Can;constructor
  · rintro ⟨b,a⟩;rw [List.pairwise_append] at a;exact ⟨⟨fun s hs=>b s (by simp [hs]),a.1⟩,b t qd,fun s hs=>a.2.2 s hs t qd⟩
  · rintro ⟨⟨b,a⟩,f,g⟩;refine ⟨fun s hs=>?_,?_⟩
    · rcases List.mem_append.1 hs with hs | hs
      · exact b s hs
      · simp at hs;subst hs;exact f
    · rw [List.pairwise_append];exact ⟨a,qd,fun s hs u c=>by simp at c;subst c;exact g s hs⟩
theorem qfo {d : List qj} {t : qj} {x : Int} : has (d ++ [t]) x↔has d x∨(t.Lo≤x∧x < t.Hi):=by
  rw [qtb,Zx];simp [q21]
theorem qi1 {c : List qj} {a b : Int} (j : Can c) (h : ∀ t∈c,t.Hi≤a) (f : a < b) :
    Can (addS c a b)∧(∀ x,has (addS c a b) x↔has c x∨(a≤x∧x < b))∧(∀ t∈addS c a b,t.Hi≤b)∧(addS c a b).length≤c.length + 1∧
    (∀ t∈addS c a b,(t.Lo = a∨∃ u∈c,t.Lo = u.Lo)∧(t.Hi = b∨∃ u∈c,t.Hi = u.Hi)):=by
  rcases qdf c with rfl | ⟨d,t,rfl⟩
  · rw [qi0];refine ⟨⟨by simpa using f,qd⟩,fun x=>?_,qd,qd,qd⟩;rw [Zx];simp [q21]
  · have g:=qeo.1 j;have k : t.Hi≤a:=h t qd;by_cases e : t.Hi = a
    · subst e;rw [qbi];refine ⟨qeo.2 ⟨g.1,by simp;omega,g.2.2⟩,fun x=>?_,fun s hs=>?_,qd,fun s hs=>?_⟩
      · rw [qfo,qfo];by_cases hd : has d x <;> simp only [hd,true_or,false_or] <;> omega
      · rcases List.mem_append.1 hs with hs | hs
        · have:=h s (by simp [hs]);omega
        · simp at hs;subst hs;simp
      · rcases List.mem_append.1 hs with hs | hs
        · exact ⟨.inr ⟨s,by simp [hs],rfl⟩,.inr ⟨s,by simp [hs],rfl⟩⟩
        · simp at hs;subst hs;exact ⟨.inr ⟨t,qd,rfl⟩,.inl rfl⟩
    · rw [qbj e];refine ⟨qeo.2 ⟨j,f,fun s hs=>?_⟩,fun x=>?_,fun s hs=>?_,qd,fun s hs=>?_⟩
      · rcases List.mem_append.1 hs with hs | hs
        · have:=g.2.2 s hs;simp only;omega
        · simp at hs;subst hs;simp only;omega
      · rw [qfo]
      · rcases List.mem_append.1 hs with hs | hs
        · have:=h s hs;omega
        · simp at hs;subst hs;simp
      · rcases List.mem_append.1 hs with hs | hs
        · exact ⟨.inr ⟨s,hs,rfl⟩,.inr ⟨s,hs,rfl⟩⟩
        · simp at hs;subst hs;exact ⟨.inl rfl,.inl rfl⟩
theorem qnk {d : List qj} {t u : qj} : (d ++ [t]).set d.length u = d ++ [u]:=by
  induction d with
  | nil=>rfl
  | cons x d ih=>simp [ih]
structure qe5 (cuts : List Int) (ins : List Bool) (k : Nat) (c : List qj) : Prop where
  can : Can c
  pts : ∀ x,has c x↔∃ i,∃ (h : i + 1 < cuts.length) (h' : i < ins.length),i < k∧ins[i] = true∧cuts[i]≤x∧x < cuts[i + 1]
  hi : ∀ t∈c,∃ (h : k < cuts.length),t.Hi≤cuts[k]
  len : c.length≤k
  ends : ∀ t∈c,t.Lo∈cuts∧t.Hi∈cuts
theorem qin (a : List Int) (g : List Bool) (hs : a.Pairwise (· < ·)) (hl : a.length≤1000000) (hi : a.length≤g.length + 1) :
    ∃ c,q46 a g = some c∧qe5 a g (a.length - 1) c:=by
  have:=Zz (f:=q47 a g) (σ:=List qj) (fun k c=>((k : Int),c)) (a.length - 1) (fun k c=>qe5 a g k c) (fun c=>qe5 a g (a.length - 1) c) ?_ ?_ (k0:=0) (c0:=[]) q0
    ⟨⟨qd,qd⟩,fun x=>⟨fun h=>absurd h (q21 x),fun ⟨i,_,_,h,_⟩=>q0⟩,qd,qd,qd⟩
  · obtain ⟨b,m,n⟩:=this;have m : loop (q47 a g) (0,[]) = some b:=m;exact ⟨b,by unfold q46;rw [m];rfl,n⟩
  · intro k c hk j;have hw : w64 ((k : Int) + 1) = ((k + 1 : Nat) : Int):=by rw [Qb q0];omega
    have l : k + 1 < a.length:=by omega
    have r : k < a.length:=by omega
    have ac : k < g.length:=by omega
    have hb : decide (((k + 1 : Nat) : Int) < (a.length : Int)) = true:=Qf q0;refine .inl ?_;simp only [q47,hw,hb,Q2,Qx ac,Qx l,Qx r,qk];have ai : a[k] < a[k+1]:=List.pairwise_iff_getElem.1 hs k (k+1) r l q0;have af : ∀ t∈c,t.Hi≤a[k]:=fun t q=>(j.hi t q).2
    cases s : g[k] with
    | false=>
      refine ⟨c,qd,j.can,fun x=>?_,fun t q=>⟨l,by have:=af t q;omega⟩,by have:=j.len;omega,j.ends⟩;rw [j.pts];constructor
      · rintro ⟨i,m,n,h3,o⟩;exact ⟨i,m,n,q0,o⟩
      · rintro ⟨i,m,n,h3,o⟩;by_cases e : i = k
        · subst e;rw [s] at o;simp at o
        · exact ⟨i,m,n,q0,o⟩
    | true=>
      have p : (cond (!true) (some c) ((cond (decide ((c.length : Int) > 0)) ((idx c (w64 ((c.length : Int) - 1))).bind fun ab=>some (ab.Hi == a[k])) (some false)).bind fun z=>cond z ((idx c (w64 ((c.length : Int) - 1))).bind fun aa=>some (c.set (w64 ((c.length : Int) - 1)).toNat ({Lo:=aa.Lo,Hi:=a[k+1]} : qj))) ((app 16 c [({Lo:=a[k],Hi:=a[k+1]} : qj)]).bind fun w=>some w))) = some (addS c a[k] a[k+1]):=by
        have v : ∀ y,app 16 c [y] = some (c ++ [y]):=fun y=>Y4 (by have:=j.len;simp;omega);rcases qdf c with rfl | ⟨d,t,rfl⟩
        · simp [v,addS]
        · have h0 : decide ((((d ++ [t]).length : Nat) : Int) > 0) = true:=Qf (by rw [List.length_append,List.length_singleton];omega);have ah:=j.len;have ad : (((d ++ [t]).length : Nat) : Int) = d.length + 1:=by simp
          have an : d.length + 1≤k:=by simpa using ah
          have m : w64 (((d ++ [t]).length : Int) - 1) = (d.length : Int):=by rw [ad,Qb q0];omega
          have n : idx (d ++ [t]) (d.length : Int) = some t:=by rw [Qx qd];simp
          simp only [Bool.not_true,Q3,h0,Q2,m,n,qk,Int.toNat_natCast,qnk,v];by_cases e : t.Hi = a[k]
          · simp [e,← qbi]
          · have e' : (t.Hi == a[k]) = false:=by simpa using e
            simp only [e',Q3,qbj e]
      rw [p];obtain ⟨a1,a2,a3,a4,a5⟩:=qi1 j.can af ai;refine ⟨_,rfl,a1,fun x=>?_,fun t q=>⟨l,a3 t q⟩,by have:=j.len;omega,fun t q=>?_⟩
      · rw [a2,j.pts];constructor
        · rintro (⟨i,m,n,h3,o⟩ | h)
          · exact ⟨i,m,n,q0,o⟩
          · exact ⟨k,l,ac,q0,s,h⟩
        · rintro ⟨i,m,n,h3,o⟩;by_cases e : i = k
          · subst e;exact .inr o.2
          · exact .inl ⟨i,m,n,q0,o⟩
      · obtain ⟨b1,b2⟩:=a5 t q;constructor
        · rcases b1 with b1 | ⟨u,hu,b1⟩
          · rw [b1];exact Ki r
          · rw [b1];exact (j.ends u hu).1
        · rcases b2 with b2 | ⟨u,hu,b2⟩
          · rw [b2];exact Ki l
          · rw [b2];exact (j.ends u hu).2
  · intro c j;refine ⟨c,?_,j⟩
    have hw : decide (w64 (((a.length - 1 : Nat) : Int) + 1) < (a.length : Int)) = false:=by
      rw [Qb q0];exact Qj q0
    simp only [q47,hw,Q3]
def Ks (kind : Int) (a b : Prop) : Prop:=(kind = 1∧a∧b)∨(kind = 2∧(a∨b))∨(kind≠1∧kind≠2∧a∧¬ b)
open Classical in
theorem qkw (kind : Int) (a b : Prop) : q6j kind (decide a) (decide b) = some (decide (Ks kind a b)):=by
  unfold q6j Ks;by_cases f : kind = 1
  · subst f;by_cases c : a <;> by_cases hb : b <;> simp [c,hb]
  · by_cases d : kind = 2
    · subst d;by_cases c : a <;> by_cases hb : b <;> simp [c,hb]
    · have h : (kind == 1) = false:=by simpa using f
      have g : (kind == 2) = false:=by simpa using d
      by_cases c : a <;> by_cases hb : b <;> simp [c,hb,f,d,h,g]
theorem q3f {c : List Int} (hs : c.Pairwise (· < ·)) {p : List qj} (m : ∀ x∈ends p,x∈c) {i : Nat} (h : i + 1 < c.length) {x : Int} (s : c[i]≤x) (r : x < c[i + 1]) : has p x↔has p c[i]:=by
  have mono : ∀ a b (f : a < c.length) (hb : b < c.length),c[a] < c[b]→a < b:=by
    intro a b f hb o;refine Nat.not_le.1 fun l=>?_;by_cases e : a = b
    · subst e;omega
    · have:=List.pairwise_iff_getElem.1 hs b a hb f q0;omega
  have d : ∀ a b (f : a < c.length) (hb : b < c.length),a≤b→c[a]≤c[b]:=by
    intro a b f hb l;by_cases e : a = b
    · subst e;omega
    · have:=List.pairwise_iff_getElem.1 hs a b f hb q0;omega
  constructor
  · rintro ⟨t,k,q,n⟩;refine ⟨t,k,?_,q0⟩;obtain ⟨j,g,e⟩:=List.mem_iff_getElem.1 (m t.Lo (q9g.2 ⟨t,k,.inl rfl⟩));have:=mono j (i + 1) g h q0;have:=d j i g q0 q0;omega
  · rintro ⟨t,k,q,n⟩;refine ⟨t,k,q0,?_⟩;obtain ⟨j,g,e⟩:=List.mem_iff_getElem.1 (m t.Hi (q9g.2 ⟨t,k,.inr rfl⟩));have:=mono i j q0 g q0;have:=d (i + 1) j h g q0;omega
theorem qc8 {c : List Int} (hs : c.Pairwise (· < ·)) {p : List qj} (f : ∀ x∈ends p,x∈c) {x : Int} (h : has p x) : ∃ i,∃ (h : i + 1 < c.length),c[i]≤x∧x < c[i + 1]:=by
  obtain ⟨t,m,v,r⟩:=h;obtain ⟨a,k,s⟩:=List.mem_iff_getElem.1 (f t.Lo (q9g.2 ⟨t,m,.inl rfl⟩));obtain ⟨b,hb,u⟩:=List.mem_iff_getElem.1 (f t.Hi (q9g.2 ⟨t,m,.inr rfl⟩))
  have key : ∀ n j (l : j < c.length),j + n = b→c[j]≤x→∃ i,∃ (h : i + 1 < c.length),c[i]≤x∧x < c[i + 1]:=by
    intro n
    induction n with
    | zero=>intro j l e g;simp at e;subst e;omega
    | succ n ih=>
      intro j l e g;by_cases o : x < c[j+1]'(q0)
      · exact ⟨j,q0,g,o⟩
      · exact ih (j + 1) q0 q0 q0
  have q : a≤b:=by
    refine Nat.not_lt.1 fun d=>?_;have:=List.pairwise_iff_getElem.1 hs b a hb k d;omega
  exact key (b - a) a k q0 q0
structure qe7 (kind : Int) (p q out : List qj) : Prop where
  can : Can out
  pts : ∀ x,has out x↔Ks kind (has p x) (has q x)
  ends : ∀ t∈out,(t.Lo∈ends p∨t.Lo∈ends q)∧(t.Hi∈ends p∨t.Hi∈ends q)
  len : out.length≤2 * (p.length + q.length)
open Classical in
theorem qts (a : List Int) (p q : List qj) (kind : Int) (j : a.length≤1000000) (hp : p.length≤100000) (h : q.length≤100000) :
    loop (q9o a p q kind) (0,[]) = some (a.map fun x=>decide (Ks kind (has p x) (has q x))):=by
  have:=Zz (f:=q9o a p q kind) (σ:=List Bool) (fun k c=>((k : Int),c)) a.length (fun k c=>c = (a.take k).map fun x=>decide (Ks kind (has p x) (has q x))) (fun t=>t = a.map fun x=>decide (Ks kind (has p x) (has q x))) ?_ ?_ (k0:=0) (c0:=[]) q0 qd
  · obtain ⟨b,g,rfl⟩:=this;exact g
  · rintro k c d rfl;have hb : decide ((k : Int) < (a.length : Int)) = true:=Qf q0;refine .inl ⟨_,?_,rfl⟩;simp only [q9o,hb,Q2,Qx d,qk,qmo p _ (by omega : p.length≤1000000),qmo q _ (by omega : q.length≤1000000),qkw];rw [Y4 (by simp;omega),Qb q0,List.take_succ_eq_append_getElem d,List.map_append];rfl
  · rintro c rfl;have hb : decide ((a.length : Int) < (a.length : Int)) = false:=Qj q0;simp [q9o,hb]
open Classical in
theorem qtt (kind : Int) (p q : List qj) (hp : p.length≤100000) (r : q.length≤100000) : ∃ out,qcr kind p q = some out∧qe7 kind p q out:=by
  obtain ⟨d,v,⟨hs,k⟩,o⟩:=qs4 p q hp r;obtain ⟨c,u,l⟩:=qin d (d.map fun x=>decide (Ks kind (has p x) (has q x))) hs q0 (by rw [List.length_map];omega);refine ⟨c,?_,l.can,fun x=>?_,fun t w=>?_,by have:=l.len;omega⟩
  · unfold qcr;rw [v];simp only [qk,qts d p q kind q0 hp r,u]
  · have mp : ∀ x∈ends p,x∈d:=fun x n=>(k x).2 (List.mem_append_left _ n);have mq : ∀ x∈ends q,x∈d:=fun x n=>(k x).2 (List.mem_append_right _ n);rw [l.pts];constructor
    · rintro ⟨i,g,y,_,s,f,j⟩;simp only [List.getElem_map,decide_eq_true_eq] at s;rw [q3f hs mp g f j,q3f hs mq g f j];exact s
    · intro h
      have m : has p x∨has q x:=by
        rcases h with ⟨_,h,_⟩ | ⟨_,h⟩ | ⟨_,_,h,_⟩
        · exact .inl h
        · exact h
        · exact .inl h
      obtain ⟨i,g,f,j⟩ : ∃ i,∃ (h : i + 1 < d.length),d[i]≤x∧x < d[i + 1]:=m.elim (qc8 hs mp) (qc8 hs mq);refine ⟨i,g,by rw [List.length_map];omega,q0,?_,f,j⟩;simp only [List.getElem_map,decide_eq_true_eq];rw [← q3f hs mp g f j,← q3f hs mq g f j];exact h
  · obtain ⟨a,b⟩:=l.ends t w;exact ⟨List.mem_append.1 ((k _).1 a),List.mem_append.1 ((k _).1 b)⟩
end Go.Sh
namespace Go.Sh
open Go Go.Am
def q5y : ByteArray:=⟨#[0,1,2,2,3,3,3,3,4,4,4,4,4,4,4,4,5,5,5,5,5,5,5,5,5,5,5,5,5,5,5,5,6,6,6,6,6,6,6,6,6,6,6,6,6,6,6,6,6,6,6,6,6,6,6,6,6,6,6,6,6,6,6,6,7,7,7,7,7,7,7,7,7,7,7,7,7,7,7,7,7,7,7,7,7,7,7,7,7,7,7,7,7,7,7,7,7,7,7,7,7,7,7,7,7,7,7,7,7,7,7,7,7,7,7,7,7,7,7,7,7,7,7,7,7,7,7,7,8,8,8,8,8,8,8,8,8,8,8,8,8,8,8,8,8,8,8,8,8,8,8,8,8,8,8,8,8,8,8,8,8,8,8,8,8,8,8,8,8,8,8,8,8,8,8,8,8,8,8,8,8,8,8,8,8,8,8,8,8,8,8,8,8,8,8,8,8,8,8,8,8,8,8,8,8,8,8,8,8,8,8,8,8,8,8,8,8,8,8,8,8,8,8,8,8,8,8,8,8,8,8,8,8,8,8,8,8,8,8,8,8,8,8,8,8,8,8,8,8,8,8,8,8,8,8,8]⟩
noncomputable def q40 (p0 : Int) : Option Int:=
  (cond (decide (p0 ≥ 4294967296)) (some (Int.fdiv p0 (2 ^ 32),32)) (some (p0,0))).bind fun b3=>(cond (decide (b3.1 ≥ 65536)) (some (Int.fdiv b3.1 (2 ^ 16),w64 (b3.2 + 16))) (some (b3.1,b3.2))).bind fun b6=>(cond (decide (b6.1 ≥ 256)) (some (Int.fdiv b6.1 (2 ^ 8),w64 (b6.2 + 8))) (some (b6.1,b6.2))).bind fun b9=>(q5e q5y (IntKind.wrap .u8 b9.1)).bind fun v10=>some (w64 (b9.2 + (w64 v10)))
noncomputable def q1q (p0 : Int) : Option Int:=
  (q40 p0).bind fun r1=>some r1
noncomputable def Uk {T : Type} (p1 : Int) (q1 : T→T→Option Int) (a459 : Int × List T) : Option ((Int × List T) ⊕ (List T)):=
  (cond (decide (a459.1 > p1)) ((idx a459.2 a459.1).bind fun v484=>(idx a459.2 (w64 (a459.1 - 1))).bind fun v486=>(q1 v484 v486).bind fun r488=>some (decide (r488 < 0))) (some false)).bind fun c469=>cond c469 ((idx a459.2 (w64 (a459.1 - 1))).bind fun v498=>(idx a459.2 a459.1).bind fun v500=>(idx a459.2 a459.1).bind fun v502=>(idx (a459.2.set a459.1.toNat v498) (w64 (a459.1 - 1))).bind fun v504=>some (.inl (w64 (a459.1 - 1),(a459.2.set a459.1.toNat v498).set (w64 (a459.1 - 1)).toNat v500))) (some (.inr a459.2))
noncomputable def q1u {T : Type} (p2 : Int) (p1 : Int) (q1 : T→T→Option Int) (a278 : Int × List T) : Option ((Int × List T) ⊕ (List T)):=
  cond (decide (a278.1 < p2)) (((loop (Uk p1 q1) (a278.1,a278.2)).bind fun x0=>some x0).bind fun b370=>some (.inl (w64 (a278.1 + 1),b370))) (some (.inr a278.2))
noncomputable def q2y {T : Type} (q1 : T→T→Option Int) (p0 : List T) (p1 : Int) (p2 : Int) : Option (List T):=
  (loop (q1u p2 p1 q1) (w64 (p1 + 1),p0)).bind fun x0=>some x0
noncomputable def Un {T : Type} (p2 : Int) (p3 : Int) (q1 : T→T→Option Int) (a197 : Int × List T) : Option ((Int × List T) ⊕ (List T)):=
  cond (decide ((w64 ((w64 (2 * a197.1)) + 1)) ≥ p2)) (some (.inr a197.2)) ((cond (decide ((w64 ((w64 ((w64 (2 * a197.1)) + 1)) + 1)) < p2)) ((idx a197.2 (w64 (p3 + (w64 ((w64 (2 * a197.1)) + 1))))).bind fun v226=>(idx a197.2 (w64 ((w64 (p3 + (w64 ((w64 (2 * a197.1)) + 1)))) + 1))).bind fun v228=>(q1 v226 v228).bind fun r230=>some (decide (r230 < 0))) (some false)).bind fun c207=>(cond c207 (some (w64 ((w64 ((w64 (2 * a197.1)) + 1)) + 1))) (some (w64 ((w64 (2 * a197.1)) + 1)))).bind fun b234=>(idx a197.2 (w64 (p3 + a197.1))).bind fun v235=>(idx a197.2 (w64 (p3 + b234))).bind fun v237=>(q1 v235 v237).bind fun r239=>cond (!(decide (r239 < 0))) (some (.inr a197.2)) ((idx a197.2 (w64 (p3 + b234))).bind fun v241=>(idx a197.2 (w64 (p3 + a197.1))).bind fun v243=>(idx a197.2 (w64 (p3 + a197.1))).bind fun v245=>(idx (a197.2.set (w64 (p3 + a197.1)).toNat v241) (w64 (p3 + b234))).bind fun v247=>some (.inl (b234,(a197.2.set (w64 (p3 + a197.1)).toNat v241).set (w64 (p3 + b234)).toNat v243))))
noncomputable def q1b {T : Type} (q1 : T→T→Option Int) (p0 : List T) (p1 : Int) (p2 : Int) (p3 : Int) : Option (List T):=
  (loop (Un p2 p3 q1) (p1,p0)).bind fun x0=>some x0
noncomputable def q1s {T : Type} (q1 : T→T→Option Int) (p2 : Int) (p1 : Int) (a123 : Int × List T) : Option ((Int × List T) ⊕ (List T)):=
  cond (decide (a123.1 ≥ 0)) ((q1b q1 a123.2 a123.1 (w64 (p2 - p1)) p1).bind fun e132=>(K1 e132.length a123.2.length).bind fun u134=>some (.inl (w64 (a123.1 - 1),e132))) (some (.inr a123.2))
noncomputable def q1t {T : Type} (p1 : Int) (q1 : T→T→Option Int) (a191 : Int × List T) : Option ((Int × List T) ⊕ (List T)):=
  cond (decide (a191.1 ≥ 0)) ((idx a191.2 (w64 (p1 + a191.1))).bind fun v208=>(idx a191.2 p1).bind fun v210=>(idx a191.2 p1).bind fun v212=>(idx (a191.2.set p1.toNat v208) (w64 (p1 + a191.1))).bind fun v214=>(q1b q1 ((a191.2.set p1.toNat v208).set (w64 (p1 + a191.1)).toNat v210) 0 a191.1 p1).bind fun e216=>(K1 e216.length ((a191.2.set p1.toNat v208).set (w64 (p1 + a191.1)).toNat v210).length).bind fun u218=>some (.inl (w64 (a191.1 - 1),e216))) (some (.inr a191.2))
noncomputable def q2x {T : Type} (q1 : T→T→Option Int) (p0 : List T) (p1 : Int) (p2 : Int) : Option (List T):=
  (loop (q1s q1 p2 p1) (w64 (Int.tdiv (w64 ((w64 (p2 - p1)) - 1)) 2),p0)).bind fun b126=>(loop (q1t p1 q1) (w64 ((w64 (p2 - p1)) - 1),b126)).bind fun x0=>some x0
noncomputable def q2z (p0 : Int) : Option Int:=
  (q1q (IntKind.wrap .u64 p0)).bind fun r1=>(shlK .u64 1 r1).bind fun q3=>some q3
noncomputable def q33 (p0 : Int) : Option Int:=
  some (xorI .u64 (xorI .u64 (xorI .u64 p0 (IntKind.wrap .u64 (p0 * (2 ^ 13)))) (Int.fdiv (xorI .u64 p0 (IntKind.wrap .u64 (p0 * (2 ^ 13)))) (2 ^ 7))) (IntKind.wrap .u64 ((xorI .u64 (xorI .u64 p0 (IntKind.wrap .u64 (p0 * (2 ^ 13)))) (Int.fdiv (xorI .u64 p0 (IntKind.wrap .u64 (p0 * (2 ^ 13)))) (2 ^ 7))) * (2 ^ 17))))
noncomputable def q12 {T : Type} (p1 : Int) (p2 : Int) (r101 : Int) (a153 : Int × List T × Int) : Option ((Int × List T × Int) ⊕ (List T)):=
  cond (decide (a153.1≤(w64 ((w64 (p1 + (w64 ((w64 (Int.tdiv (w64 (p2 - p1)) 4)) * 2)))) + 1)))) ((q33 a153.2.2).bind fun e168=>(cond (decide ((w64 (andI .u64 e168 (IntKind.wrap .u64 (r101 - 1)))) ≥ (w64 (p2 - p1)))) (some (w64 ((w64 (andI .u64 e168 (IntKind.wrap .u64 (r101 - 1)))) - (w64 (p2 - p1))))) (some (w64 (andI .u64 e168 (IntKind.wrap .u64 (r101 - 1)))))).bind fun b172=>(idx a153.2.1 (w64 (p1 + b172))).bind fun v173=>(idx a153.2.1 a153.1).bind fun v175=>(idx a153.2.1 a153.1).bind fun v177=>(idx (a153.2.1.set a153.1.toNat v173) (w64 (p1 + b172))).bind fun v179=>some (.inl (w64 (a153.1 + 1),(a153.2.1.set a153.1.toNat v173).set (w64 (p1 + b172)).toNat v175,e168))) (some (.inr a153.2.1))
noncomputable def q1r {T : Type} (q1 : T→T→Option Int) (p0 : List T) (p1 : Int) (p2 : Int) : Option (List T):=
  cond (decide ((w64 (p2 - p1)) ≥ 8)) ((q2z (w64 (p2 - p1))).bind fun r101=>(loop (q12 p1 p2 r101) (w64 ((w64 (p1 + (w64 ((w64 (Int.tdiv (w64 (p2 - p1)) 4)) * 2)))) - 1),p0,IntKind.wrap .u64 (w64 (p2 - p1)))).bind fun x0=>some x0) (some p0)
noncomputable def q14 {T : Type} (q1 : T→T→Option Int) (p0 : List T) (p1 : Int) (p2 : Int) (p3 : Int) : Option (Int × Int × Int):=
  (idx p0 p2).bind fun v101=>(idx p0 p1).bind fun v103=>(q1 v101 v103).bind fun r105=>cond (decide (r105 < 0)) (some (p2,p1,w64 (p3 + 1))) (some (p1,p2,p3))
noncomputable def q13 {T : Type} (q1 : T→T→Option Int) (p0 : List T) (p1 : Int) (p2 : Int) (p3 : Int) (p4 : Int) : Option (Int × Int):=
  (q14 q1 p0 p1 p2 p4).bind fun e101=>(q14 q1 p0 e101.2.1 p3 e101.2.2).bind fun e103=>(q14 q1 p0 e101.1 e103.1 e103.2.2).bind fun e105=>some (e105.2.1,e105.2.2)
noncomputable def Ul {T : Type} (q1 : T→T→Option Int) (p0 : List T) (p1 : Int) (p2 : Int) : Option (Int × Int):=
  (q13 q1 p0 (w64 (p1 - 1)) p1 (w64 (p1 + 1)) p2).bind fun e101=>some (e101.1,e101.2)
noncomputable def q2w {T : Type} (p0 : List T) (p1 : Int) (p2 : Int) (p3 : T→T→Option Int) : Option (Int × Int):=
  (cond (decide ((w64 (p2 - p1)) ≥ 8)) ((cond (decide ((w64 (p2 - p1)) ≥ 50)) ((Ul p3 p0 (w64 (p1 + (w64 ((w64 (Int.tdiv (w64 (p2 - p1)) 4)) * 1)))) 0).bind fun e25=>(Ul p3 p0 (w64 (p1 + (w64 ((w64 (Int.tdiv (w64 (p2 - p1)) 4)) * 2)))) e25.2).bind fun e27=>(Ul p3 p0 (w64 (p1 + (w64 ((w64 (Int.tdiv (w64 (p2 - p1)) 4)) * 3)))) e27.2).bind fun e29=>some (e25.1,e27.1,e29.1,e29.2)) (some (w64 (p1 + (w64 ((w64 (Int.tdiv (w64 (p2 - p1)) 4)) * 1))),w64 (p1 + (w64 ((w64 (Int.tdiv (w64 (p2 - p1)) 4)) * 2))),w64 (p1 + (w64 ((w64 (Int.tdiv (w64 (p2 - p1)) 4)) * 3))),0))).bind fun b24=>(q13 p3 p0 b24.1 b24.2.1 b24.2.2.1 b24.2.2.2).bind fun e31=>some (e31.1,e31.2)) (some (w64 (p1 + (w64 ((w64 (Int.tdiv (w64 (p2 - p1)) 4)) * 2))),0))).bind fun b15=>cond (b15.2 == 0) (some (b15.1,1)) (cond (b15.2 == 12) (some (b15.1,2)) (some (b15.1,0)))
noncomputable def q32 {T : Type} (a119 : Int × Int × List T) : Option ((Int × Int × List T) ⊕ (List T)):=
  cond (decide (a119.1 < a119.2.1)) ((idx a119.2.2 a119.2.1).bind fun v123=>(idx a119.2.2 a119.1).bind fun v125=>(idx a119.2.2 a119.1).bind fun v127=>(idx (a119.2.2.set a119.1.toNat v123) a119.2.1).bind fun v129=>some (.inl (w64 (a119.1 + 1),w64 (a119.2.1 - 1),(a119.2.2.set a119.1.toNat v123).set a119.2.1.toNat v125))) (some (.inr a119.2.2))
noncomputable def q1z {T : Type} (q1 : T→T→Option Int) (p0 : List T) (p1 : Int) (p2 : Int) : Option (List T):=
  (loop q32 (p1,w64 (p2 - 1),p0)).bind fun x0=>some x0
noncomputable def q15 {T : Type} (p2 : Int) (a438 : Int × Int × List T) (q1 : T→T→Option Int) (a681 : Int) : Option ((Int) ⊕ (Int)):=
  (cond (decide (a681 < p2)) ((idx a438.2.2 a681).bind fun v707=>(idx a438.2.2 (w64 (a681 - 1))).bind fun v709=>(q1 v707 v709).bind fun r711=>some (!(decide (r711 < 0)))) (some false)).bind fun c691=>cond c691 (some (.inl (w64 (a681 + 1)))) (some (.inr a681))
noncomputable def q16 {T : Type} (q1 : T→T→Option Int) (a838 : Int × List T) : Option ((Int × List T) ⊕ (List T)):=
  cond (decide (a838.1 ≥ 1)) ((idx a838.2 a838.1).bind fun v856=>(idx a838.2 (w64 (a838.1 - 1))).bind fun v858=>(q1 v856 v858).bind fun r860=>cond (!(decide (r860 < 0))) (some (.inr a838.2)) ((idx a838.2 (w64 (a838.1 - 1))).bind fun v862=>(idx a838.2 a838.1).bind fun v864=>(idx a838.2 a838.1).bind fun v866=>(idx (a838.2.set a838.1.toNat v862) (w64 (a838.1 - 1))).bind fun v868=>some (.inl (w64 (a838.1 - 1),(a838.2.set a838.1.toNat v862).set (w64 (a838.1 - 1)).toNat v864)))) (some (.inr a838.2))
noncomputable def q17 {T : Type} (p2 : Int) (q1 : T→T→Option Int) (b684 : Int) (a928 : Int × List T) : Option ((Int × List T) ⊕ (Int × List T)):=
  cond (decide (a928.1 < p2)) ((idx a928.2 a928.1).bind fun v946=>(idx a928.2 (w64 (a928.1 - 1))).bind fun v948=>(q1 v946 v948).bind fun r950=>cond (!(decide (r950 < 0))) (some (.inr (b684,a928.2))) ((idx a928.2 (w64 (a928.1 - 1))).bind fun v952=>(idx a928.2 a928.1).bind fun v954=>(idx a928.2 a928.1).bind fun v956=>(idx (a928.2.set a928.1.toNat v952) (w64 (a928.1 - 1))).bind fun v958=>some (.inl (w64 (a928.1 + 1),(a928.2.set a928.1.toNat v952).set (w64 (a928.1 - 1)).toNat v954)))) (some (.inr (b684,a928.2)))
noncomputable def J7 {T : Type} (p2 : Int) (q1 : T→T→Option Int) (p1 : Int) (a438 : Int × Int × List T) : Option ((Int × Int × List T) ⊕ ((List T) ⊕ (Bool × List T))):=
  cond (decide (a438.2.1 < 5)) (((loop (q15 p2 a438 q1) a438.1).bind fun b684=>cond (b684 == p2) (some (.inr (true,a438.2.2))) (cond (decide ((w64 (p2 - p1)) < 50)) (some (.inr (false,a438.2.2))) ((idx a438.2.2 (w64 (b684 - 1))).bind fun v713=>(idx a438.2.2 b684).bind fun v715=>(idx a438.2.2 b684).bind fun v717=>(idx (a438.2.2.set b684.toNat v713) (w64 (b684 - 1))).bind fun v719=>(cond (decide ((w64 (b684 - p1)) ≥ 2)) ((loop (q16 q1) (w64 (b684 - 1),(a438.2.2.set b684.toNat v713).set (w64 (b684 - 1)).toNat v715)).bind fun x0=>some x0) (some ((a438.2.2.set b684.toNat v713).set (w64 (b684 - 1)).toNat v715))).bind fun b779=>cond (decide ((w64 (p2 - b684)) ≥ 2)) ((loop (q17 p2 q1 b684) (w64 (b684 + 1),b779)).bind fun x0=>some (.inl x0)) (some (.inl (b684,b779))))) : Option ((Int × List T) ⊕ (Bool × List T))).bind fun m621=>(match m621 with | .inl b622=>some (.inl (b622.1,w64 (a438.2.1 + 1),b622.2)) | .inr x1=>some (.inr (.inr x1)))) (some (.inr (.inl a438.2.2)))
noncomputable def Um {T : Type} (q1 : T→T→Option Int) (p0 : List T) (p1 : Int) (p2 : Int) : Option (Bool × List T):=
  (loop (J7 p2 q1 p1) (w64 (p1 + 1),0,p0) : Option ((List T) ⊕ (Bool × List T))).bind fun m439=>(match m439 with | .inl b441=>some (false,b441) | .inr x1=>some x1)
noncomputable def q18 {T : Type} (a318 : Int × Int × List T) (p1 : Int) (q1 : T→T→Option Int) (a378 : Int) : Option ((Int) ⊕ (Int)):=
  (cond (decide (a378≤a318.2.1)) ((idx a318.2.2 p1).bind fun v403=>(idx a318.2.2 a378).bind fun v405=>(q1 v403 v405).bind fun r407=>some (!(decide (r407 < 0)))) (some false)).bind fun c388=>cond c388 (some (.inl (w64 (a378 + 1)))) (some (.inr a378))
noncomputable def q19 {T : Type} (b381 : Int) (a318 : Int × Int × List T) (p1 : Int) (q1 : T→T→Option Int) (a463 : Int) : Option ((Int) ⊕ (Int)):=
  (cond (decide (b381≤a463)) ((idx a318.2.2 p1).bind fun v487=>(idx a318.2.2 a463).bind fun v489=>(q1 v487 v489).bind fun r491=>some (decide (r491 < 0))) (some false)).bind fun c473=>cond c473 (some (.inl (w64 (a463 - 1)))) (some (.inr a463))
noncomputable def q1x {T : Type} (p1 : Int) (q1 : T→T→Option Int) (a318 : Int × Int × List T) : Option ((Int × Int × List T) ⊕ (Int × List T)):=
  (loop (q18 a318 p1 q1) a318.1).bind fun b381=>(loop (q19 b381 a318 p1 q1) a318.2.1).bind fun b466=>cond (decide (b381 > b466)) (some (.inr (b381,a318.2.2))) ((idx a318.2.2 b466).bind fun v493=>(idx a318.2.2 b381).bind fun v495=>(idx a318.2.2 b381).bind fun v497=>(idx (a318.2.2.set b381.toNat v493) b466).bind fun v499=>some (.inl (w64 (b381 + 1),w64 (b466 - 1),(a318.2.2.set b381.toNat v493).set b466.toNat v495)))
noncomputable def q1w {T : Type} (q1 : T→T→Option Int) (p0 : List T) (p1 : Int) (p2 : Int) (p3 : Int) : Option (Int × List T):=
  (idx p0 p3).bind fun v101=>(idx p0 p1).bind fun v103=>(idx p0 p1).bind fun v105=>(idx (p0.set p1.toNat v101) p3).bind fun v107=>(loop (q1x p1 q1) (w64 (p1 + 1),w64 (p2 - 1),(p0.set p1.toNat v101).set p3.toNat v103)).bind fun b321=>some (b321.1,b321.2)
noncomputable def q30 {T : Type} (p2 : Int) (p0 : List T) (p1 : Int) (v101 : T) (p3 : Int) (v103 : T) (q1 : T→T→Option Int) (a163 : Int) : Option ((Int) ⊕ (Int)):=
  (cond (decide (a163≤(w64 (p2 - 1)))) ((idx ((p0.set p1.toNat v101).set p3.toNat v103) a163).bind fun v187=>(idx ((p0.set p1.toNat v101).set p3.toNat v103) p1).bind fun v189=>(q1 v187 v189).bind fun r191=>some (decide (r191 < 0))) (some false)).bind fun c173=>cond c173 (some (.inl (w64 (a163 + 1)))) (some (.inr a163))
noncomputable def q31 {T : Type} (b166 : Int) (p0 : List T) (p1 : Int) (v101 : T) (p3 : Int) (v103 : T) (q1 : T→T→Option Int) (a249 : Int) : Option ((Int) ⊕ (Int)):=
  (cond (decide (b166≤a249)) ((idx ((p0.set p1.toNat v101).set p3.toNat v103) a249).bind fun v274=>(idx ((p0.set p1.toNat v101).set p3.toNat v103) p1).bind fun v276=>(q1 v274 v276).bind fun r278=>some (!(decide (r278 < 0)))) (some false)).bind fun c259=>cond c259 (some (.inl (w64 (a249 - 1)))) (some (.inr a249))
noncomputable def Jf {T : Type} (a514 : Int × Int × List T) (p1 : Int) (q1 : T→T→Option Int) (a572 : Int) : Option ((Int) ⊕ (Int)):=
  (cond (decide (a572≤a514.2.1)) ((idx a514.2.2 a572).bind fun v596=>(idx a514.2.2 p1).bind fun v598=>(q1 v596 v598).bind fun r600=>some (decide (r600 < 0))) (some false)).bind fun c582=>cond c582 (some (.inl (w64 (a572 + 1)))) (some (.inr a572))
noncomputable def Jg {T : Type} (b575 : Int) (a514 : Int × Int × List T) (p1 : Int) (q1 : T→T→Option Int) (a658 : Int) : Option ((Int) ⊕ (Int)):=
  (cond (decide (b575≤a658)) ((idx a514.2.2 a658).bind fun v683=>(idx a514.2.2 p1).bind fun v685=>(q1 v683 v685).bind fun r687=>some (!(decide (r687 < 0)))) (some false)).bind fun c668=>cond c668 (some (.inl (w64 (a658 - 1)))) (some (.inr a658))
noncomputable def q1y {T : Type} (p1 : Int) (q1 : T→T→Option Int) (a514 : Int × Int × List T) : Option ((Int × Int × List T) ⊕ (Int × List T)):=
  (loop (Jf a514 p1 q1) a514.1).bind fun b575=>(loop (Jg b575 a514 p1 q1) a514.2.1).bind fun b661=>cond (decide (b575 > b661)) (some (.inr (b661,a514.2.2))) ((idx a514.2.2 b661).bind fun v689=>(idx a514.2.2 b575).bind fun v691=>(idx a514.2.2 b575).bind fun v693=>(idx (a514.2.2.set b575.toNat v689) b661).bind fun v695=>some (.inl (w64 (b575 + 1),w64 (b661 - 1),(a514.2.2.set b575.toNat v689).set b661.toNat v691)))
noncomputable def q1v {T : Type} (q1 : T→T→Option Int) (p0 : List T) (p1 : Int) (p2 : Int) (p3 : Int) : Option (Int × Bool × List T):=
  (idx p0 p3).bind fun v101=>(idx p0 p1).bind fun v103=>(idx p0 p1).bind fun v105=>(idx (p0.set p1.toNat v101) p3).bind fun v107=>(loop (q30 p2 p0 p1 v101 p3 v103 q1) (w64 (p1 + 1))).bind fun b166=>(loop (q31 b166 p0 p1 v101 p3 v103 q1) (w64 (p2 - 1))).bind fun b252=>cond (decide (b166 > b252)) ((idx ((p0.set p1.toNat v101).set p3.toNat v103) p1).bind fun v288=>(idx ((p0.set p1.toNat v101).set p3.toNat v103) b252).bind fun v290=>(idx ((p0.set p1.toNat v101).set p3.toNat v103) b252).bind fun v292=>(idx (((p0.set p1.toNat v101).set p3.toNat v103).set b252.toNat v288) p1).bind fun v294=>some (b252,true,(((p0.set p1.toNat v101).set p3.toNat v103).set b252.toNat v288).set p1.toNat v290)) ((idx ((p0.set p1.toNat v101).set p3.toNat v103) b252).bind fun v296=>(idx ((p0.set p1.toNat v101).set p3.toNat v103) b166).bind fun v298=>(idx ((p0.set p1.toNat v101).set p3.toNat v103) b166).bind fun v300=>(idx (((p0.set p1.toNat v101).set p3.toNat v103).set b166.toNat v296) b252).bind fun v302=>(loop (q1y p1 q1) (w64 (b166 + 1),w64 (b252 - 1),(((p0.set p1.toNat v101).set p3.toNat v103).set b166.toNat v296).set b252.toNat v298)).bind fun b517=>(idx b517.2 p1).bind fun v697=>(idx b517.2 b517.1).bind fun v699=>(idx b517.2 b517.1).bind fun v701=>(idx (b517.2.set b517.1.toNat v697) p1).bind fun v703=>some (b517.1,false,(b517.2.set b517.1.toNat v697).set p1.toNat v699))
noncomputable def Zt {T : Type} (q1 : T→T→Option Int) (rec : List T→Int→Int→Int→Option (List T)) (a309 : Int × Int × Int × Bool × Bool × List T) : Option ((Int × Int × Int × Bool × Bool × List T) ⊕ (List T)):=
  cond (decide ((w64 (a309.2.1 - a309.1))≤12)) ((q2y q1 a309.2.2.2.2.2 a309.1 a309.2.1).bind fun e318=>(K1 e318.length a309.2.2.2.2.2.length).bind fun u320=>some (.inr e318)) (cond (a309.2.2.1 == 0) ((q2x q1 a309.2.2.2.2.2 a309.1 a309.2.1).bind fun e328=>(K1 e328.length a309.2.2.2.2.2.length).bind fun u330=>some (.inr e328)) ((cond (!a309.2.2.2.1) ((q1r q1 a309.2.2.2.2.2 a309.1 a309.2.1).bind fun e341=>(K1 e341.length a309.2.2.2.2.2.length).bind fun u343=>some (w64 (a309.2.2.1 - 1),e341)) (some (a309.2.2.1,a309.2.2.2.2.2))).bind fun b340=>(q2w b340.2 a309.1 a309.2.1 q1).bind fun r346=>(cond (r346.2 == 2) ((q1z q1 b340.2 a309.1 a309.2.1).bind fun e356=>(K1 e356.length b340.2.length).bind fun u358=>some (w64 ((w64 (a309.2.1 - 1)) - (w64 (r346.1 - a309.1))),1,e356)) (some (r346.1,r346.2,b340.2))).bind fun b355=>(cond a309.2.2.2.1 (some a309.2.2.2.2.1) (some false)).bind fun c361=>(cond c361 (some (b355.2.1 == 1)) (some false)).bind fun c365=>(cond c365 ((Um q1 b355.2.2 a309.1 a309.2.1).bind fun e378=>(K1 e378.2.length b355.2.2.length).bind fun u380=>cond e378.1 (some (.inr e378.2)) (some (.inl e378.2))) (some (.inl b355.2.2)) : Option ((List T) ⊕ (List T))).bind fun m376=>(match m376 with | .inl b377=>(cond (decide (a309.1 > 0)) ((idx b377 (w64 (a309.1 - 1))).bind fun v405=>(idx b377 b355.1).bind fun v407=>(q1 v405 v407).bind fun r409=>some (!(decide (r409 < 0)))) (some false)).bind fun c389=>cond c389 ((q1w q1 b377 a309.1 a309.2.1 b355.1).bind fun e416=>(K1 e416.2.length b377.length).bind fun u418=>some (.inl (e416.1,a309.2.1,b340.1,a309.2.2.2.1,a309.2.2.2.2.1,e416.2))) ((q1v q1 b377 a309.1 a309.2.1 b355.1).bind fun e421=>(K1 e421.2.2.length b377.length).bind fun u423=>cond (decide ((w64 (e421.1 - a309.1)) < (w64 (a309.2.1 - e421.1)))) ((rec e421.2.2 a309.1 e421.1 b340.1).bind fun e426=>(K1 e426.length e421.2.2.length).bind fun u428=>some (.inl (w64 (e421.1 + 1),a309.2.1,b340.1,decide ((w64 (e421.1 - a309.1)) ≥ (w64 (Int.tdiv (w64 (a309.2.1 - a309.1)) 8))),e421.2.1,e426))) ((rec e421.2.2 (w64 (e421.1 + 1)) a309.2.1 b340.1).bind fun e431=>(K1 e431.length e421.2.2.length).bind fun u433=>some (.inl (a309.1,e421.1,b340.1,decide ((w64 (a309.2.1 - e421.1)) ≥ (w64 (Int.tdiv (w64 (a309.2.1 - a309.1)) 8))),e421.2.1,e431)))) | .inr x1=>some (.inr x1))))
noncomputable def q1a {T : Type} (rec : List T→Int→Int→Int→Option (List T)) (q1 : T→T→Option Int) (p0 : List T) (p1 : Int) (p2 : Int) (p3 : Int) : Option (List T):=
  (loop (Zt q1 rec) (p1,p2,p3,true,true,p0)).bind fun x0=>some x0
noncomputable def Zg {T : Type} : Nat→(T→T→Option Int)→List T→Int→Int→Int→Option (List T)
  | 0,_,_,_,_,_=>none
  | n + 1,q1,p0,p1,p2,p3=>q1a (Zg n q1) q1 p0 p1 p2 p3
noncomputable def q2v {T : Type} (q1 : T→T→Option Int) (p0 : List T) : Option (List T):=
  (q1q (IntKind.wrap .u64 (p0.length : Int))).bind fun r101=>(lim (fun n=>Zg n q1 p0 0 (p0.length : Int) r101)).bind fun e103=>(K1 e103.length p0.length).bind fun u105=>some e103
end Go.Sh
namespace Go.Sh
open Go Go.Am
section
variable {T : Type} [Inhabited T] {P : T→Prop} {lt : T→T→Bool} {q : T→T→Option Int}
def Kw (q : T→T→Option Int) (lt : T→T→Bool) (P : T→Prop) : Prop:=∀ x y,P x→P y→∃ r,q x y = some r∧decide (r < 0) = lt x y
def AllP (n : Nat) (P : T→Prop) (d : Array T) : Prop:=d.size = n∧n≤1000000∧∀ i,i < n→P d[i]!
theorem gx {d : Array T} {k : Nat} (h : k < d.size) : idx d.toList (k : Int) = some d[k]!:=by
  simp [idx,h]
theorem gxs {d : Array T} {k : Nat} {i : Nat} {v : T} (h : k < d.size) : idx (d.toList.set i v) (k : Int) = some (d.setIfInBounds i v)[k]!:=by
  have : d.toList.set i v = (d.setIfInBounds i v).toList:=by simp
  rw [this];exact gx (by simpa using h)
theorem gswp {d : Array T} {i j : Nat} : (d.toList.set i d[j]!).set j d[i]! = (Sort.swp d i j).toList:=by simp [Sort.swp]
theorem AllP.swp {n : Nat} {d : Array T} (h : AllP n P d) {a b : Nat} (l : a < n) (hb : b < n) : AllP n P (Sort.swp d a b):=by
  obtain ⟨j,f,c⟩:=h;refine ⟨by rw [Sort.swp_size];exact j,f,fun k g=>?_⟩;rw [Sort.swp_get d q0 q0]
  repeat' split
  all_goals first | exact c _ l | exact c _ hb | exact c _ g
theorem AllP.perm {n : Nat} {d c : Array T} (h : AllP n P d) {a b : Nat} (o : a≤b) (hb : b≤n) (hp : Sort.PermIn a b d c) : AllP n P c:=by
  obtain ⟨l,j,g⟩:=h;refine ⟨by rw [hp.1];exact l,j,fun k p=>?_⟩;by_cases f : k < a∨b≤k
  · rw [hp.2.1 k f];exact g k p
  · exact Sort.permIn_all d c a b P q0 hp (fun i hi m=>g i q0) k q0 q0
theorem w1m (j : Nat) (h : j < 2000000) : w64 (((j + 1 : Nat) : Int) - 1) = (j : Int):=by rw [Qb q0];omega
theorem w1p (j : Nat) (h : j < 2000000) : w64 ((j : Int) + 1) = ((j + 1 : Nat) : Int):=by rw [Qb q0];omega
theorem wsub {a b : Nat} (h : a≤b) (c : b < 2000000) : w64 ((b : Int) - (a : Int)) = ((b - a : Nat) : Int):=by rw [Qb q0];omega
theorem ql0 (o : Kw q lt P) (a n : Nat) : ∀ (j : Nat) (d : Array T),AllP n P d→j < n→loop (Uk (a : Int) q) ((j : Int),d.toList) = some (Sort.insInner lt a j d).toList∧AllP n P (Sort.insInner lt a j d)
  | 0,d,hd,hj=>by
    have c : decide (((0 : Nat) : Int) > (a : Int)) = false:=Qj q0
    refine ⟨Kn ?_,hd⟩
    simp only [Uk,c,Q3,qk];rfl
  | j + 1,d,hd,hj=>by
    have p:=hd.1
    have s:=hd.2.1
    unfold Sort.insInner
    by_cases m : j + 1 > a
    · have c : decide (((j + 1 : Nat) : Int) > (a : Int)) = true:=Qf q0
      obtain ⟨r,h,g⟩:=o d[j + 1]! d[j]! (hd.2.2 _ hj) (hd.2.2 _ q0)
      by_cases f : lt d[j + 1]! d[j]! = true
      · rw [qr (by simp [m,f])]
        have l:=ql0 o a n j _ (hd.swp (a:=j + 1) (b:=j) hj q0) q0
        refine ⟨?_,l.2⟩
        rw [Y9 (a':=((j : Int),(Sort.swp d (j + 1) j).toList)) ?_]
        · exact l.1
        · simp only [Uk,c,Q2,gx (d:=d) (k:=j + 1) q0,w1m j q0,gx (d:=d) (k:=j) q0,gxs (d:=d) (k:=j) q0,qk,h,g,f,Int.toNat_natCast,gswp]
      · rw [qq (by simp [f])]
        refine ⟨Kn ?_,hd⟩
        simp only [Uk,c,Q2,gx (d:=d) (k:=j + 1) q0,w1m j q0,gx (d:=d) (k:=j) q0,qk,h,g,f,Q3]
    · rw [qq (by simp [m])]
      have c : decide (((j + 1 : Nat) : Int) > (a : Int)) = false:=Qj q0
      refine ⟨Kn ?_,hd⟩
      simp only [Uk,c,Q3,qk]
theorem qth (j : Kw q lt P) (a b n : Nat) (hb : b≤n) : ∀ (m i : Nat) (d : Array T),b - i = m→AllP n P d→i≤1000001→loop (q1u (b : Int) (a : Int) q) ((i : Int),d.toList) = some (Sort.insOuter lt a b i d).toList:=by
  intro m
  induction m with
  | zero=>
    intro i d f hd hi;unfold Sort.insOuter;rw [qq q0];have c : decide ((i : Int) < (b : Int)) = false:=Qj q0;exact Kn (by simp only [q1u,c,Q3])
  | succ m ih=>
    intro i d f hd hi;unfold Sort.insOuter;rw [qr q0];have c : decide ((i : Int) < (b : Int)) = true:=Qf q0;obtain ⟨h,g⟩:=ql0 j a n i d hd q0;have:=hd.2.1;rw [Y9 (a':=(((i + 1 : Nat) : Int),(Sort.insInner lt a i d).toList)) ?_]
    · exact ih (i + 1) _ q0 g q0
    · simp only [q1u,c,Q2,h,qk,w1p i q0]
theorem qtj (c : Kw q lt P) {a b n : Nat} (hb : b≤n) (f : a≤b) {d : Array T} (hd : AllP n P d) : q2y q d.toList (a : Int) (b : Int) = some (Sort.insertionSort lt d a b).toList:=by
  have:=hd.2.1;unfold q2y Sort.insertionSort;rw [w1p a q0,qth c a b n hb _ (a + 1) d rfl hd q0];rfl
theorem qz6 (hq : Kw q lt P) (hi first n : Nat) (hb : first + hi≤n) : ∀ (m root : Nat) (d : Array T),hi - root = m→AllP n P d→root≤1000000→(root < hi∨hi≤1)→loop (Un (hi : Int) (first : Int) q) ((root : Int),d.toList) = some (Sort.siftDown lt hi first root d).toList∧AllP n P (Sort.siftDown lt hi first root d):=by
  intro m
  induction m using Nat.strongRecOn with
  | _ m ih=>
    intro root d hm hd hr an;have am:=hd.1;have hn:=hd.2.1;unfold Sort.siftDown;have z : w64 ((w64 (2 * (root : Int))) + 1) = ((2 * root + 1 : Nat) : Int):=by rw [Qb (x:=2 * (root : Int)) q0,Qb q0];omega
    by_cases hc : 2 * root + 1 ≥ hi
    · rw [dif_pos hc];have u : decide (((2 * root + 1 : Nat) : Int) ≥ (hi : Int)) = true:=Qf q0;refine ⟨Kn ?_,hd⟩;simp only [Un,z,u,Q2]
    · rw [dif_neg hc];have u : decide (((2 * root + 1 : Nat) : Int) ≥ (hi : Int)) = false:=Qj q0;have e2 : w64 (((2 * root + 1 : Nat) : Int) + 1) = ((2 * root + 2 : Nat) : Int):=w1p _ q0;have e3 : w64 ((first : Int) + ((2 * root + 1 : Nat) : Int)) = ((first + (2 * root + 1) : Nat) : Int):=by rw [Qb q0];omega
      have e4 : w64 ((first : Int) + ((2 * root + 2 : Nat) : Int)) = ((first + (2 * root + 2) : Nat) : Int):=by rw [Qb q0];omega
      have e5 : w64 ((first : Int) + (root : Int)) = ((first + root : Nat) : Int):=by rw [Qb q0];omega
      have e6 : w64 (((first + (2 * root + 1) : Nat) : Int) + 1) = ((first + (2 * root + 2) : Nat) : Int):=w1p _ q0;have x1:=gx (d:=d) (k:=first + (2 * root + 1)) q0;have x0:=gx (d:=d) (k:=first + root) q0
      have child : ∀ c,(c = 2 * root + 1∨c = 2 * root + 2)→c < hi→
          (∀ (h : (cond (decide (((2 * root + 2 : Nat) : Int) < (hi : Int))) ((idx d.toList ((first + (2 * root + 1) : Nat) : Int)).bind fun s=>(idx d.toList ((first + (2 * root + 2) : Nat) : Int)).bind fun o=>(q s o).bind fun t=>some (decide (t < 0))) (some false)) = some (decide (c = 2 * root + 2))),
          (loop (Un (hi : Int) (first : Int) q) ((root : Int),d.toList) = some (if (!lt d[first + root]! d[first + c]!) = true then d else Sort.siftDown lt hi first c (Sort.swp d (first + root) (first + c))).toList)∧AllP n P (if (!lt d[first + root]! d[first + c]!) = true then d else Sort.siftDown lt hi first c (Sort.swp d (first + root) (first + c)))):=by
        intro c y aa h
        have xc:=gx (d:=d) (k:=first + c) q0
        have xs:=fun v=>gxs (d:=d) (k:=first + c) (i:=first + root) (v:=v) q0
        obtain ⟨r,p,l⟩:=hq d[first + root]! d[first + c]! (hd.2.2 _ q0) (hd.2.2 _ q0)
        have hb : (cond (decide (c = 2 * root + 2)) (some ((2 * root + 2 : Nat) : Int)) (some ((2 * root + 1 : Nat) : Int))) = some (c : Int):=by
          rcases y with rfl | rfl
          · simp
          · simp
        have ec : w64 ((first : Int) + (c : Int)) = ((first + c : Nat) : Int):=by rw [Qb q0];omega
        by_cases f : lt d[first + root]! d[first + c]! = true
        · have j:=ih (hi - c) q0 c _ rfl (hd.swp (a:=first + root) (b:=first + c) q0 q0) q0 (.inl aa)
          rw [qq (by simp [f])]
          refine ⟨?_,j.2⟩
          rw [Y9 (a':=((c : Int),(Sort.swp d (first + root) (first + c)).toList)) ?_]
          · exact j.1
          · simp only [Un,z,u,Q3,e2,e3,e6,h,qk,hb,e5,ec,x0,xc,xs,p,l,f,Bool.not_true,Int.toNat_natCast,gswp]
        · rw [qr (by simp [f])]
          refine ⟨Kn ?_,hd⟩
          simp only [Un,z,u,Q3,e2,e3,e6,h,qk,hb,e5,ec,x0,xc,p,l,f,Bool.not_false,Q2]
      by_cases g : 2 * root + 2 < hi
      · have x2:=gx (d:=d) (k:=first + (2 * root + 2)) q0;have w : decide (((2 * root + 2 : Nat) : Int) < (hi : Int)) = true:=Qf q0;obtain ⟨r,p,l⟩:=hq d[first + (2 * root + 1)]! d[first + (2 * root + 2)]! (hd.2.2 _ q0) (hd.2.2 _ q0);by_cases f : lt d[first + (2 * root + 1)]! d[first + (2 * root + 2)]! = true
        · rw [qr (by simp only [Bool.and_eq_true,decide_eq_true_eq];exact ⟨q0,f⟩)];have:=child (2 * root + 2) (.inr rfl) g (by simp only [w,Q2,x1,x2,qk,p,l,f,decide_true]);rw [dif_pos g];exact this
        · rw [qq (by simp only [Bool.and_eq_true,decide_eq_true_eq];rintro ⟨_,h⟩;exact f h)];have:=child (2 * root + 1) (.inl rfl) q0 (by simp only [w,Q2,x1,x2,qk,p,l,f];simp);exact this
      · have w : decide (((2 * root + 2 : Nat) : Int) < (hi : Int)) = false:=Qj q0;rw [qq (by simp only [Bool.and_eq_true,decide_eq_true_eq];rintro ⟨h,_⟩;omega)];have:=child (2 * root + 1) (.inl rfl) q0 (by simp only [w,Q3];simp);exact this
end
end Go.Sh
namespace Go.Sh
open Go Go.Am
section
variable {T : Type} [Inhabited T] {P : T→Prop} {lt : T→T→Bool} {q : T→T→Option Int}
theorem Up {n : Nat} {d a : Array T} (h : AllP n P d) (b : AllP n P a) : K1 a.toList.length d.toList.length = some ():=by
  unfold K1;rw [qr (by simp [h.1,b.1])]
theorem qkk (a : Kw q lt P) (hi first n root : Nat) (hb : first + hi≤n) (d : Array T) (hd : AllP n P d) (c : root≤1000000) (f : root < hi∨hi≤1) : q1b q d.toList (root : Int) (hi : Int) (first : Int) = some (Sort.siftDown lt hi first root d).toList∧AllP n P (Sort.siftDown lt hi first root d):=by
  obtain ⟨b,g⟩:=qz6 a hi first n hb _ root d rfl hd c f;exact ⟨by unfold q1b;rw [b];rfl,g⟩
theorem qks (j : Kw q lt P) (a b n : Nat) (hb : b≤n) (c : a≤b) : ∀ (k : Nat) (d : Array T),AllP n P d→(k≤b - a∨b - a = 0∧k≤1)→loop (q1s q (b : Int) (a : Int)) ((k : Int) - 1,d.toList) = some (Sort.heapBuild lt (b - a) a k d).toList∧AllP n P (Sort.heapBuild lt (b - a) a k d)
  | 0,d,hd,hk=>by
    have f : decide (((0 : Nat) : Int) - 1 ≥ 0) = false:=Qj q0
    refine ⟨Kn ?_,hd⟩
    simp only [q1s,f,Q3];rfl
  | k + 1,d,hd,hk=>by
    have o:=hd.2.1
    have e : (((k + 1 : Nat) : Int) - 1) = (k : Int):=by omega
    rw [e]
    have f : decide ((k : Int) ≥ 0) = true:=Qf q0
    obtain ⟨l,g⟩:=qkk j (b - a) a n k q0 d hd q0 q0
    have h:=qks j a b n hb c k _ g q0
    refine ⟨?_,h.2⟩
    rw [Y9 (a':=((k : Int) - 1,(Sort.siftDown lt (b - a) a k d).toList)) ?_]
    · exact h.1
    · have m : w64 ((k : Int) - 1) = (k : Int) - 1:=Qb q0
      simp only [q1s,f,Q2,wsub c (by omega : b < 2000000),l,qk,Up hd g,m]
theorem qkt (j : Kw q lt P) (a n : Nat) : ∀ (k : Nat) (d : Array T),AllP n P d→a + k≤n→loop (q1t (a : Int) q) ((k : Int) - 1,d.toList) = some (Sort.heapPop lt a k d).toList
  | 0,d,hd,hk=>by
    have g : decide (((0 : Nat) : Int) - 1 ≥ 0) = false:=Qj q0
    refine Kn ?_
    simp only [q1t,g,Q3];rfl
  | k + 1,d,hd,hk=>by
    have p:=hd.1
    have r:=hd.2.1
    have e : (((k + 1 : Nat) : Int) - 1) = (k : Int):=by omega
    rw [e]
    have g : decide ((k : Int) ≥ 0) = true:=Qf q0
    have c:=hd.swp (a:=a) (b:=a + k) q0 q0
    obtain ⟨f,h⟩:=qkk j k a n 0 q0 _ c q0 q0
    have l:=qkt j a n k _ h q0
    rw [Y9 (a':=((k : Int) - 1,(Sort.siftDown lt k a 0 (Sort.swp d a (a + k))).toList)) ?_]
    · exact l
    · have m : w64 ((k : Int) - 1) = (k : Int) - 1:=Qb q0
      have o : w64 ((a : Int) + (k : Int)) = ((a + k : Nat) : Int):=by rw [Qb q0];omega
      have f : q1b q (Sort.swp d a (a + k)).toList 0 (k : Int) (a : Int) = _:=f
      simp only [q1t,g,Q2,o,gx (d:=d) (k:=a) q0,gx (d:=d) (k:=a + k) q0,gxs (d:=d) (k:=a + k) q0,qk,Int.toNat_natCast,gswp,f,Up c h,m]
theorem qtc (c : Kw q lt P) {a b n : Nat} (hb : b≤n) (l : a < b) {d : Array T} (hd : AllP n P d) : q2x q d.toList (a : Int) (b : Int) = some (Sort.heapSort lt d a b).toList:=by
  have m:=hd.2.1;have k : w64 ((b : Int) - (a : Int)) = ((b - a : Nat) : Int):=wsub q0 q0;have g : w64 (((b - a : Nat) : Int) - 1) = ((b - a : Nat) : Int) - 1:=Qb q0
  have h : w64 (Int.tdiv (((b - a : Nat) : Int) - 1) 2) = (((b - a - 1) / 2 + 1 : Nat) : Int) - 1:=by
    rw [Int.tdiv_eq_ediv_of_nonneg q0,Qb q0];omega
  obtain ⟨j,f⟩:=qks c a b n hb q0 ((b - a - 1) / 2 + 1) d hd q0;unfold q2x Sort.heapSort;rw [k,g,h,j,qk,qkt c a n (b - a) _ f q0];rfl
theorem qxv (n : Nat) : ∀ (m i j : Nat) (d : Array T),j - i = m→AllP n P d→j < n→i≤1000001→loop (q32 (T:=T)) ((i : Int),(j : Int),d.toList) = some (Sort.reverseLoop i j d).toList:=by
  intro m
  induction m using Nat.strongRecOn with
  | _ m ih=>
    intro i j d h hd f hi;have c:=hd.1;have l:=hd.2.1;unfold Sort.reverseLoop;by_cases b : i < j
    · rw [qr b];have a : decide ((i : Int) < (j : Int)) = true:=Qf q0;have g : w64 ((j : Int) - 1) = ((j - 1 : Nat) : Int):=by rw [Qb q0];omega
      rw [Y9 (a':=(((i + 1 : Nat) : Int),((j - 1 : Nat) : Int),(Sort.swp d i j).toList)) ?_]
      · exact ih _ q0 _ _ _ rfl (hd.swp q0 f) q0 q0
      · simp only [q32,a,Q2,gx (d:=d) (k:=i) q0,gx (d:=d) (k:=j) q0,gxs (d:=d) (k:=j) q0,qk,Int.toNat_natCast,gswp,g,w1p i q0]
    · rw [qq b];have a : decide ((i : Int) < (j : Int)) = false:=Qj q0;exact Kn (by simp only [q32,a,Q3])
theorem qxw {a b n : Nat} (hb : b≤n) (f : a < b) {d : Array T} (hd : AllP n P d) : q1z q d.toList (a : Int) (b : Int) = some (Sort.reverseRange d a b).toList:=by
  have g:=hd.2.1;have c : w64 ((b : Int) - 1) = ((b - 1 : Nat) : Int):=by rw [Qb q0];omega
  unfold q1z Sort.reverseRange;rw [c,qxv n _ a (b - 1) d rfl hd q0 q0];rfl
theorem qgl (l : Kw q lt P) {n : Nat} {d : Array T} (hd : AllP n P d) {a b s : Nat} (f : a < n) (hb : b < n) (hs : s≤1000) : q14 q d.toList (a : Int) (b : Int) (s : Int) = some (((Sort.order2 lt d a b s).1 : Int),((Sort.order2 lt d a b s).2.1 : Int),((Sort.order2 lt d a b s).2.2 : Int))∧(Sort.order2 lt d a b s).1 < n∧(Sort.order2 lt d a b s).2.1 < n∧(Sort.order2 lt d a b s).2.2≤s + 1:=by
  have j:=hd.1;obtain ⟨r,h,g⟩:=l d[b]! d[a]! (hd.2.2 _ hb) (hd.2.2 _ f);unfold q14 Sort.order2;rw [gx (d:=d) (k:=b) q0,gx (d:=d) (k:=a) q0];simp only [qk,h,g];by_cases c : lt d[b]! d[a]! = true
  · rw [qr c];simp only [c,Q2,w1p s q0];exact ⟨trivial,hb,f,q0⟩
  · rw [qq c];have : lt d[b]! d[a]! = false:=by simpa using c
    simp only [this,Q3];exact ⟨trivial,f,hb,q0⟩
theorem qg4 (f : Kw q lt P) {n : Nat} {d : Array T} (hd : AllP n P d) {a b c s : Nat} (m : a < n) (hb : b < n) (p : c < n) (hs : s≤900) : q13 q d.toList (a : Int) (b : Int) (c : Int) (s : Int) = some (((Sort.median lt d a b c s).1 : Int),((Sort.median lt d a b c s).2 : Int))∧(Sort.median lt d a b c s).1 < n∧(Sort.median lt d a b c s).2≤s + 3:=by
  obtain ⟨k,h,b1,c1⟩:=qgl f hd m hb (s:=s) q0;obtain ⟨j,o,r,c2⟩:=qgl f hd b1 p (s:=(Sort.order2 lt d a b s).2.2) q0;obtain ⟨g,t,l,c3⟩:=qgl f hd h o (s:=(Sort.order2 lt d (Sort.order2 lt d a b s).2.1 c (Sort.order2 lt d a b s).2.2).2.2) q0;unfold q13 Sort.median;simp only [k,j,g,qk];exact ⟨trivial,l,q0⟩
theorem qg3 (k : Kw q lt P) {n : Nat} {d : Array T} (hd : AllP n P d) {a s : Nat} (l : 1≤a) (f : a + 1 < n) (hs : s≤900) : Ul q d.toList (a : Int) (s : Int) = some (((Sort.medianAdjacent lt d a s).1 : Int),((Sort.medianAdjacent lt d a s).2 : Int))∧(Sort.medianAdjacent lt d a s).1 < n∧(Sort.medianAdjacent lt d a s).2≤s + 3:=by
  have m:=hd.2.1;obtain ⟨j,h,g⟩:=qg4 k hd (a:=a - 1) (b:=a) (c:=a + 1) (s:=s) q0 q0 f hs;have e : w64 ((a : Int) - 1) = ((a - 1 : Nat) : Int):=by rw [Qb q0];omega
  unfold Ul Sort.medianAdjacent;rw [e,w1p a q0,j];exact ⟨rfl,h,g⟩
def qfp : Sort.Hint→Int
  | .unknown=>0
  | .increasing=>1
  | .decreasing=>2
theorem qrc (t : Kw q lt P) {n : Nat} {d : Array T} (hd : AllP n P d) {a b : Nat} (ae : a < b) (hb : b≤n) : q2w d.toList (a : Int) (b : Int) q = some (((Sort.choosePivot lt d a b).1 : Int),qfp (Sort.choosePivot lt d a b).2):=by
  have hn:=hd.2.1;have e0 : w64 ((b : Int) - (a : Int)) = ((b - a : Nat) : Int):=wsub q0 q0
  have e1 : w64 (Int.tdiv ((b - a : Nat) : Int) 4) = (((b - a) / 4 : Nat) : Int):=by
    rw [Int.tdiv_eq_ediv_of_nonneg q0,Qb q0];omega
  have em : ∀ k : Nat,k≤3→w64 ((a : Int) + (w64 ((((b - a) / 4 : Nat) : Int) * (k : Int)))) = ((a + (b - a) / 4 * k : Nat) : Int):=by
    intro k hk;have : (b - a) / 4 * k≤(b - a) / 4 * 3:=Nat.mul_le_mul_left _ hk;have e : ((((b - a) / 4 : Nat) : Int) * (k : Int)) = (((b - a) / 4 * k : Nat) : Int):=by push_cast;rfl
    rw [e,Qb (x:=(((b - a) / 4 * k : Nat) : Int)) q0,Qb q0];omega
  have m:=em 1 q0;have h:=em 2 q0;have l:=em 3 q0
  have f : ∀ r : Nat × Nat,(cond (((r.2 : Int)) == 0) (some ((r.1 : Int),(1 : Int))) (cond (((r.2 : Int)) == 12) (some ((r.1 : Int),(2 : Int))) (some ((r.1 : Int),(0 : Int))))) = some ((r.1 : Int),qfp (if r.2 = 0 then Sort.Hint.increasing else if r.2 = 12 then Sort.Hint.decreasing else Sort.Hint.unknown)):=by
    intro r;by_cases v : r.2 = 0
    · have : ((r.2 : Int) == 0) = true:=by simp [v]
      simp only [this,Q2,qr v];rfl
    · have t0 : ((r.2 : Int) == 0) = false:=by simp;omega
      by_cases j : r.2 = 12
      · have : ((r.2 : Int) == 12) = true:=by simp;omega
        simp only [t0,this,Q2,Q3,qq v,qr j];rfl
      · have : ((r.2 : Int) == 12) = false:=by simp;omega
        simp only [t0,this,Q3,qq v,qq j];rfl
  unfold q2w Sort.choosePivot;simp only [e0,e1];by_cases y : b - a ≥ 8
  · have w : decide (((b - a : Nat) : Int) ≥ 8) = true:=Qf q0;by_cases p : b - a ≥ 50
    · have g : decide (((b - a : Nat) : Int) ≥ 50) = true:=Qf q0;obtain ⟨z,y1,z1⟩:=qg3 t hd (a:=a + (b - a) / 4 * 1) (s:=0) q0 q0 q0;obtain ⟨x2,y2,z2⟩:=qg3 t hd (a:=a + (b - a) / 4 * 2) (s:=(Sort.medianAdjacent lt d (a + (b - a) / 4 * 1) 0).2) q0 q0 q0;obtain ⟨x3,y3,z3⟩:=qg3 t hd (a:=a + (b - a) / 4 * 3) (s:=(Sort.medianAdjacent lt d (a + (b - a) / 4 * 2) (Sort.medianAdjacent lt d (a + (b - a) / 4 * 1) 0).2).2) q0 q0 q0;obtain ⟨o,y4,z4⟩:=qg4 t hd y1 y2 y3 (s:=(Sort.medianAdjacent lt d (a + (b - a) / 4 * 3) (Sort.medianAdjacent lt d (a + (b - a) / 4 * 2) (Sort.medianAdjacent lt d (a + (b - a) / 4 * 1) 0).2).2).2) q0;simp only [qr y,qr p,w,g,Q2];have g1 : w64 ((a : Int) + (w64 ((((b - a) / 4 : Nat) : Int) * 1))) = _:=m;have u : w64 ((a : Int) + (w64 ((((b - a) / 4 : Nat) : Int) * 2))) = _:=h;have g3 : w64 ((a : Int) + (w64 ((((b - a) / 4 : Nat) : Int) * 3))) = _:=l;have z : Ul q d.toList ((a + (b - a) / 4 * 1 : Nat) : Int) 0 = _:=z;rw [g1,u,g3];simp only [z,x2,x3,o,qk];exact f _
    · have g : decide (((b - a : Nat) : Int) ≥ 50) = false:=Qj q0;obtain ⟨o,y4,z4⟩:=qg4 t hd (a:=a + (b - a) / 4 * 1) (b:=a + (b - a) / 4 * 2) (c:=a + (b - a) / 4 * 3) (s:=0) q0 q0 q0 q0;simp only [qr y,qq p,w,g,Q2,Q3];have g1 : w64 ((a : Int) + (w64 ((((b - a) / 4 : Nat) : Int) * 1))) = _:=m;have u : w64 ((a : Int) + (w64 ((((b - a) / 4 : Nat) : Int) * 2))) = _:=h;have g3 : w64 ((a : Int) + (w64 ((((b - a) / 4 : Nat) : Int) * 3))) = _:=l;have o : q13 q d.toList ((a + (b - a) / 4 * 1 : Nat) : Int) ((a + (b - a) / 4 * 2 : Nat) : Int) ((a + (b - a) / 4 * 3 : Nat) : Int) 0 = _:=o;rw [g1,u,g3];simp only [o,qk];exact f _
  · have w : decide (((b - a : Nat) : Int) ≥ 8) = false:=Qj q0;simp only [qq y,w,Q3];have u : w64 ((a : Int) + (w64 ((((b - a) / 4 : Nat) : Int) * 2))) = _:=h;rw [u];simp only [qk];exact f (a + (b - a) / 4 * 2,0)
end
end Go.Sh
namespace Go.Sh
open Go Go.Am
theorem q2o (n : Int) : IntKind.u64.wrap n = n % 18446744073709551616:=by simp [IntKind.wrap,IntKind.bits,IntKind.signed]
theorem q144 (n : Int) : IntKind.u8.wrap n = n % 256:=by simp [IntKind.wrap,IntKind.bits,IntKind.signed]
theorem xorU (a b : Nat) (c : a < 18446744073709551616) (hb : b < 18446744073709551616) : xorI .u64 (a : Int) (b : Int) = ((a ^^^ b : Nat) : Int):=by
  have d : a ^^^ b < 2 ^ 64:=Nat.xor_lt_two_pow q0 q0;unfold xorI;rw [q2o];show ((BitVec.ofInt 64 (a : Int) ^^^ BitVec.ofInt 64 (b : Int)).toNat : Int) % _ = _;rw [BitVec.ofInt_natCast,BitVec.ofInt_natCast,BitVec.toNat_xor,BitVec.toNat_ofNat,BitVec.toNat_ofNat,Nat.mod_eq_of_lt (a:=a) q0,Nat.mod_eq_of_lt (a:=b) q0];omega
theorem andU (a b : Nat) (c : a < 18446744073709551616) (hb : b < 18446744073709551616) : andI .u64 (a : Int) (b : Int) = ((a &&& b : Nat) : Int):=by
  have d : a &&& b≤a:=Nat.and_le_left;unfold andI;rw [q2o];show ((BitVec.ofInt 64 (a : Int) &&& BitVec.ofInt 64 (b : Int)).toNat : Int) % _ = _;rw [BitVec.ofInt_natCast,BitVec.ofInt_natCast,BitVec.toNat_and,BitVec.toNat_ofNat,BitVec.toNat_ofNat,Nat.mod_eq_of_lt (a:=a) q0,Nat.mod_eq_of_lt (a:=b) q0];omega
theorem q147 (X : Nat) (d : X < 18446744073709551616) : q33 (X : Int) = some ((Sort.xorNextN X : Nat) : Int):=by
  obtain ⟨A,a⟩ : ∃ A : Nat,A = X ^^^ (X * 8192 % 18446744073709551616):=⟨_,rfl⟩
  obtain ⟨B,b⟩ : ∃ B : Nat,B = A ^^^ (A / 128):=⟨_,rfl⟩
  have f : A < 18446744073709551616:=by rw [a];exact Nat.xor_lt_two_pow (n:=64) q0 q0
  have h : B < 18446744073709551616:=by rw [b];exact Nat.xor_lt_two_pow (n:=64) q0 q0
  have k : xorI .u64 (X : Int) (IntKind.u64.wrap ((X : Int) * 2 ^ 13)) = (A : Int):=by
    rw [q2o,show ((X : Int) * 2 ^ 13 % 18446744073709551616) = ((X * 8192 % 18446744073709551616 : Nat) : Int) by omega,xorU _ _ d q0,a]
  have j : xorI .u64 (A : Int) (Int.fdiv (A : Int) (2 ^ 7)) = (B : Int):=by
    rw [Int.fdiv_eq_ediv_of_nonneg _ Q1,show ((A : Int) / 2 ^ 7) = ((A / 128 : Nat) : Int) by omega,xorU _ _ f q0,b]
  have c : xorI .u64 (B : Int) (IntKind.u64.wrap ((B : Int) * 2 ^ 17)) = ((B ^^^ (B * 131072 % 18446744073709551616) : Nat) : Int):=by
    rw [q2o,show ((B : Int) * 2 ^ 17 % 18446744073709551616) = ((B * 131072 % 18446744073709551616 : Nat) : Int) by omega,xorU _ _ h q0]
  have g : Sort.xorNextN X = B ^^^ (B * 131072 % 18446744073709551616):=by unfold Sort.xorNextN;simp only [];rw [← a,← b]
  unfold q33;rw [k,j,c,g]
theorem q13d : ∀ k : Nat,k < 256→q5e q5y (k : Int) = some ((Sort.bitsLen k : Nat) : Int):=by
  have key : ∀ k : Fin 256,(q5y[k.1]?).map (fun b=>b.toNat) = some (Sort.bitsLen k.1):=by decide +kernel
  intro k c;have:=key ⟨k,c⟩;unfold q5e;rw [qr q0,Int.toNat_natCast];simp only [Y6] at this ⊢;obtain ⟨b,d,a⟩:=this;exact ⟨b,d,by rw [a]⟩
theorem qik (n k : Nat) (h : 2 ^ k≤n) : Sort.bitsLen n = Sort.bitsLen (n / 2 ^ k) + k:=by
  have hp : 0 < 2 ^ k:=Nat.two_pow_pos k;apply Nat.le_antisymm
  · rw [Sort.bitsLen_le_iff];have:=Sort.lt_two_pow_bitsLen (n / 2 ^ k);rw [Nat.pow_add];exact (Nat.div_lt_iff_lt_mul hp).1 this
  · have b : k < Sort.bitsLen n:=by
      rcases Nat.lt_or_ge k (Sort.bitsLen n) with a | a
      · exact a
      · have:=(Sort.bitsLen_le_iff n k).1 a;omega
    have : Sort.bitsLen (n / 2 ^ k)≤Sort.bitsLen n - k:=by
      rw [Sort.bitsLen_le_iff,Nat.div_lt_iff_lt_mul hp,← Nat.pow_add,Nat.sub_add_cancel q0];exact Sort.lt_two_pow_bitsLen n
    omega
theorem qld (n : Nat) (j : n≤1000000) : q1q (n : Int) = some ((Sort.bitsLen n : Nat) : Int):=by
  unfold q1q q40;have f : decide ((n : Int) ≥ 4294967296) = false:=Qj q0;simp only [f,Q3,qk]
  have fin : ∀ m s : Nat,m < 256→s≤16→(q5e q5y (IntKind.u8.wrap (m : Int))).bind (fun b=>some (w64 ((s : Int) + (w64 b)))) = some ((Sort.bitsLen m + s : Nat) : Int):=by
    intro m s d hs;rw [q144,show ((m : Int) % 256) = (m : Int) by omega,q13d m d];have : Sort.bitsLen m≤8:=(Sort.bitsLen_le_iff m 8).2 q0;rw [qk,Qb (x:=((Sort.bitsLen m : Nat) : Int)) q0,Qb q0];congr 1;omega
  by_cases h : n ≥ 65536
  · have c : decide ((n : Int) ≥ 65536) = true:=Qf q0;have e : Int.fdiv (n : Int) (2 ^ 16) = ((n / 65536 : Nat) : Int):=by rw [Int.fdiv_eq_ediv_of_nonneg _ Q1];omega
    have a : decide (((n / 65536 : Nat) : Int) ≥ 256) = false:=Qj q0;have w : w64 (0 + 16) = ((16 : Nat) : Int):=by rw [Qb q0];rfl
    simp only [c,Q2,qk,e,a,Q3,w];rw [fin (n / 65536) 16 q0 q0,qk,qik n 16 q0]
  · have c : decide ((n : Int) ≥ 65536) = false:=Qj q0;simp only [c,Q3,qk];by_cases g : n ≥ 256
    · have a : decide ((n : Int) ≥ 256) = true:=Qf q0;have e : Int.fdiv (n : Int) (2 ^ 8) = ((n / 256 : Nat) : Int):=by rw [Int.fdiv_eq_ediv_of_nonneg _ Q1];omega
      have w : w64 (0 + 8) = ((8 : Nat) : Int):=by rw [Qb q0];rfl
      simp only [a,Q2,qk,e,w];rw [fin (n / 256) 8 q0 q0,qk,qik n 8 q0]
    · have a : decide ((n : Int) ≥ 256) = false:=Qj q0;simp only [a,Q3,qk];have:=fin n 0 q0 q0;exact congrArg (fun o=>Option.bind o some) this
theorem quj (n : Nat) (a : n≤1000000) : q2z (n : Int) = some ((1 <<< Sort.bitsLen n : Nat) : Int):=by
  unfold q2z;rw [q2o,show ((n : Int) % 18446744073709551616) = (n : Int) by omega,qld n a];have b : Sort.bitsLen n≤20:=(Sort.bitsLen_le_iff n 20).2 q0;have h : (2 : Nat) ^ Sort.bitsLen n≤2 ^ 20:=Nat.pow_le_pow_right Q1 b;have e : min (Sort.bitsLen n) IntKind.u64.bits = Sort.bitsLen n:=Nat.min_eq_left (by show _≤64;omega);simp only [qk,shlK];rw [qq q0,Int.toNat_natCast,e,q2o,Nat.one_shiftLeft,qk,show ((1 : Int) * (2 : Int) ^ Sort.bitsLen n) = ((2 ^ Sort.bitsLen n : Nat) : Int) by push_cast;omega];generalize (2 : Nat) ^ Sort.bitsLen n = p at h;congr 1;omega
section
variable {T : Type} [Inhabited T] {P : T→Prop} {lt : T→T→Bool} {q : T→T→Option Int}
theorem qek {a b n : Nat} (hb : b≤n) (h8 : 8≤b - a) {d : Array T} (hd : AllP n P d) (k : Nat) (hk : k≤2) (r : UInt64) :
    q12 (a : Int) (b : Int) ((1 <<< Sort.bitsLen (b - a) : Nat) : Int) (((a + (b - a) / 4 * 2 - 1 + k : Nat) : Int),d.toList,((r.toNat : Nat) : Int)) =
      some (.inl (((a + (b - a) / 4 * 2 - 1 + k + 1 : Nat) : Int),(Sort.breakStep a (b - a) (1 <<< Sort.bitsLen (b - a)) (r,d) (a + (b - a) / 4 * 2 - 1 + k)).2.toList,(((Sort.breakStep a (b - a) (1 <<< Sort.bitsLen (b - a)) (r,d) (a + (b - a) / 4 * 2 - 1 + k)).1.toNat : Nat) : Int)))∧
      AllP n P (Sort.breakStep a (b - a) (1 <<< Sort.bitsLen (b - a)) (r,d) (a + (b - a) / 4 * 2 - 1 + k)).2:=by
  have z:=hd.1;have hn:=hd.2.1;have s : r.toNat < 18446744073709551616:=r.toNat_lt;have x : w64 ((b : Int) - (a : Int)) = ((b - a : Nat) : Int):=wsub q0 q0
  have e1 : w64 (Int.tdiv ((b - a : Nat) : Int) 4) = (((b - a) / 4 : Nat) : Int):=by
    rw [Int.tdiv_eq_ediv_of_nonneg q0,Qb q0];omega
  have e2 : w64 ((((b - a) / 4 : Nat) : Int) * 2) = (((b - a) / 4 * 2 : Nat) : Int):=by rw [Qb q0];omega
  have e3 : w64 ((a : Int) + (((b - a) / 4 * 2 : Nat) : Int)) = ((a + (b - a) / 4 * 2 : Nat) : Int):=by rw [Qb q0];omega
  have w : w64 (((a + (b - a) / 4 * 2 : Nat) : Int) + 1) = ((a + (b - a) / 4 * 2 + 1 : Nat) : Int):=w1p _ q0;have u : decide (((a + (b - a) / 4 * 2 - 1 + k : Nat) : Int)≤((a + (b - a) / 4 * 2 + 1 : Nat) : Int)) = true:=Qf q0;have hx:=q147 r.toNat s;have hX : Sort.xorNextN r.toNat < 18446744073709551616:=Sort.xorNextN_lt _ s;have h : Sort.bitsLen (b - a)≤20:=(Sort.bitsLen_le_iff _ 20).2 q0;have f : (2 : Nat) ^ Sort.bitsLen (b - a)≤2 ^ 20:=Nat.pow_le_pow_right Q1 h;have hp1 : 0 < (2 : Nat) ^ Sort.bitsLen (b - a):=Nat.two_pow_pos _;have ab:=Sort.two_pow_bitsLen_le (n:=b - a) q0;have c : (1 : Nat) <<< Sort.bitsLen (b - a) = 2 ^ Sort.bitsLen (b - a):=Nat.one_shiftLeft _
  have em : IntKind.u64.wrap (((1 <<< Sort.bitsLen (b - a) : Nat) : Int) - 1) = ((1 <<< Sort.bitsLen (b - a) - 1 : Nat) : Int):=by
    rw [q2o,c];generalize (2 : Nat) ^ Sort.bitsLen (b - a) = p at f hp1;omega
  have g : (Sort.xorNextN r.toNat) &&& (1 <<< Sort.bitsLen (b - a) - 1) < 2 ^ Sort.bitsLen (b - a):=by
    rw [c];have : (Sort.xorNextN r.toNat) &&& (2 ^ Sort.bitsLen (b - a) - 1)≤2 ^ Sort.bitsLen (b - a) - 1:=Nat.and_le_right;omega
  have l:=andU (Sort.xorNextN r.toNat) (1 <<< Sort.bitsLen (b - a) - 1) hX (by rw [c];omega);unfold Sort.breakStep;simp only [Sort.xorNext_toNat];generalize hm : (Sort.xorNextN r.toNat) &&& (1 <<< Sort.bitsLen (b - a) - 1) = m at g l;have aa : m < 2 * (b - a):=by omega
  have y : w64 (m : Int) = (m : Int):=Qb q0
  have q : (cond (decide ((m : Int) ≥ ((b - a : Nat) : Int))) (some (w64 ((m : Int) - ((b - a : Nat) : Int)))) (some (m : Int))) = some (((if m ≥ b - a then m - (b - a) else m) : Nat) : Int):=by
    by_cases j : m ≥ b - a
    · have t : decide ((m : Int) ≥ ((b - a : Nat) : Int)) = true:=Qf q0;rw [t,Q2,qr j,wsub j q0]
    · have t : decide ((m : Int) ≥ ((b - a : Nat) : Int)) = false:=Qj q0;rw [t,Q3,qq j]
  have v : (if m ≥ b - a then m - (b - a) else m) < b - a:=by split <;> omega
  generalize (if m ≥ b - a then m - (b - a) else m) = o at q v;have eo : w64 ((a : Int) + (o : Int)) = ((a + o : Nat) : Int):=by rw [Qb q0];omega
  refine ⟨?_,hd.swp q0 q0⟩;simp only [q12,x,e1,e2,e3,w,u,Q2,hx,qk,em,l,y,q,eo,gx (d:=d) (k:=a + o) q0,gx (d:=d) (k:=a + (b - a) / 4 * 2 - 1 + k) q0,gxs (d:=d) (k:=a + o) q0,Int.toNat_natCast,gswp,w1p (a + (b - a) / 4 * 2 - 1 + k) q0]
theorem qq8 {a b n : Nat} (hb : b≤n) (u : a < b) {d : Array T} (hd : AllP n P d) : q1r q d.toList (a : Int) (b : Int) = some (Sort.breakPatterns d a b).toList:=by
  have z:=hd.2.1;have l : w64 ((b : Int) - (a : Int)) = ((b - a : Nat) : Int):=wsub q0 q0;unfold q1r Sort.breakPatterns;simp only [l];by_cases c : b - a ≥ 8
  · have t : decide (((b - a : Nat) : Int) ≥ 8) = true:=Qf q0;rw [t,Q2,qr c,quj _ q0,qk]
    have r : w64 (Int.tdiv ((b - a : Nat) : Int) 4) = (((b - a) / 4 : Nat) : Int):=by
      rw [Int.tdiv_eq_ediv_of_nonneg q0,Qb q0];omega
    have p : w64 ((((b - a) / 4 : Nat) : Int) * 2) = (((b - a) / 4 * 2 : Nat) : Int):=by rw [Qb q0];omega
    have k : w64 ((a : Int) + (((b - a) / 4 * 2 : Nat) : Int)) = ((a + (b - a) / 4 * 2 : Nat) : Int):=by rw [Qb q0];omega
    have v : w64 (((a + (b - a) / 4 * 2 : Nat) : Int) - 1) = ((a + (b - a) / 4 * 2 - 1 : Nat) : Int):=by rw [Qb q0];omega
    have w : IntKind.u64.wrap ((b - a : Nat) : Int) = (((UInt64.ofNat (b - a)).toNat : Nat) : Int):=by
      rw [q2o,UInt64.toNat_ofNat'];omega
    rw [r,p,k,v,w];obtain ⟨j,g⟩:=qek hb c hd 0 q0 (UInt64.ofNat (b - a));obtain ⟨h,m⟩:=qek hb c g 1 q0 (Sort.breakStep a (b - a) (1 <<< Sort.bitsLen (b - a)) (UInt64.ofNat (b - a),d) (a + (b - a) / 4 * 2 - 1 + 0)).1;obtain ⟨o,x⟩:=qek hb c m 2 q0 (Sort.breakStep a (b - a) (1 <<< Sort.bitsLen (b - a)) ((Sort.breakStep a (b - a) (1 <<< Sort.bitsLen (b - a)) (UInt64.ofNat (b - a),d) (a + (b - a) / 4 * 2 - 1 + 0)).1,(Sort.breakStep a (b - a) (1 <<< Sort.bitsLen (b - a)) (UInt64.ofNat (b - a),d) (a + (b - a) / 4 * 2 - 1 + 0)).2) (a + (b - a) / 4 * 2 - 1 + 1)).1;simp only [Nat.add_zero,Prod.eta] at j h o g m x;rw [Y9 j,Y9 h,Y9 o]
    have f : q12 (T:=T) (a : Int) (b : Int) ((1 <<< Sort.bitsLen (b - a) : Nat) : Int) (((a + (b - a) / 4 * 2 - 1 + 2 + 1 : Nat) : Int),(Sort.breakStep a (b - a) (1 <<< Sort.bitsLen (b - a)) (Sort.breakStep a (b - a) (1 <<< Sort.bitsLen (b - a)) (Sort.breakStep a (b - a) (1 <<< Sort.bitsLen (b - a)) (UInt64.ofNat (b - a),d) (a + (b - a) / 4 * 2 - 1)) (a + (b - a) / 4 * 2 - 1 + 1)) (a + (b - a) / 4 * 2 - 1 + 2)).2.toList,(((Sort.breakStep a (b - a) (1 <<< Sort.bitsLen (b - a)) (Sort.breakStep a (b - a) (1 <<< Sort.bitsLen (b - a)) (Sort.breakStep a (b - a) (1 <<< Sort.bitsLen (b - a)) (UInt64.ofNat (b - a),d) (a + (b - a) / 4 * 2 - 1)) (a + (b - a) / 4 * 2 - 1 + 1)) (a + (b - a) / 4 * 2 - 1 + 2)).1.toNat : Nat) : Int)) = some (.inr (Sort.breakStep a (b - a) (1 <<< Sort.bitsLen (b - a)) (Sort.breakStep a (b - a) (1 <<< Sort.bitsLen (b - a)) (Sort.breakStep a (b - a) (1 <<< Sort.bitsLen (b - a)) (UInt64.ofNat (b - a),d) (a + (b - a) / 4 * 2 - 1)) (a + (b - a) / 4 * 2 - 1 + 1)) (a + (b - a) / 4 * 2 - 1 + 2)).2.toList):=by
      have y : w64 (((a + (b - a) / 4 * 2 : Nat) : Int) + 1) = ((a + (b - a) / 4 * 2 + 1 : Nat) : Int):=w1p _ q0;have s : decide (((a + (b - a) / 4 * 2 - 1 + 2 + 1 : Nat) : Int)≤((a + (b - a) / 4 * 2 + 1 : Nat) : Int)) = false:=Qj q0;simp only [q12,l,r,p,k,y,s,Q3]
    rw [Kn f];rfl
  · have t : decide (((b - a : Nat) : Int) ≥ 8) = false:=Qj q0;rw [t,Q3,qq c]
end
end Go.Sh
