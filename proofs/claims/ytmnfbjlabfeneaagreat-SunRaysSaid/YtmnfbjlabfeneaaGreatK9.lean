/- Pl1 Pl2 Pl3 Pg0 Pg1 Pg2 Pg3 -/
import Derived.Test.YtmnfbjlabfeneaaGreatK8
import Derived.Sort.AssemblyPlain
import Derived.Sort.LotD5
namespace Go.Sh
open Go Go.Am
def has (s : List qo) (x : Int) : Prop:=∃ t∈s,t.Lo≤x∧x < t.Hi
def Can (s : List qo) : Prop:=(∀ t∈s,t.Lo < t.Hi)∧s.Pairwise (fun a b=>a.Hi < b.Lo)
def vld (t : qo) : Prop:=t.Lo < t.Hi∧-1000000≤t.Lo∧t.Hi≤1000000
instance (t : qo) : Decidable (vld t):=by unfold vld;exact inferInstance
def Good (s : List qo) : Prop:=(∀ t∈s,vld t)∧s.Pairwise (fun a b=>a.Hi < b.Lo)
theorem Good.can {s : List qo} (h : Good s) : Can s:=⟨fun t a=>(h.1 t a).1,h.2⟩
theorem q16 (x : Int) : ¬ has [] x:=by rintro ⟨t,h,_⟩;cases h
theorem Zd {a : qo} {s : List qo} {x : Int} : has (a::s) x↔(a.Lo≤x∧x < a.Hi)∨has s x:=by
  constructor
  · rintro ⟨t,b,h⟩;rcases List.mem_cons.1 b with rfl | b
    · exact .inl h
    · exact .inr ⟨t,b,h⟩
  · rintro (h | ⟨t,b,h⟩)
    · exact ⟨a,qd,h⟩
    · exact ⟨t,by simp [b],h⟩
theorem qos {a b : List qo} {x : Int} : has (a ++ b) x↔has a x∨has b x:=by
  induction a with
  | nil=>simp [q16]
  | cons t r ih=>simp only [List.cons_append,Zd,ih,or_assoc]
theorem Can.tail {a : qo} {s : List qo} (h : Can (a::s)) : Can s:=⟨fun t b=>h.1 t (by simp [b]),(List.pairwise_cons.1 h.2).2⟩
theorem Can.lt {a : qo} {s : List qo} (h : Can (a::s)) : ∀ t∈s,a.Hi < t.Lo:=(List.pairwise_cons.1 h.2).1
theorem Can.tail_gt {a : qo} {s : List qo} (h : Can (a::s)) {x : Int} (b : has s x) : a.Hi < x:=by
  obtain ⟨t,c,d,f⟩:=b;have:=h.lt t c;omega
theorem q70 : ∀ {s t : List qo},Can s→Can t→(∀ x,has s x↔has t x)→s = t
  | [],[],_,_,_=>rfl
  | [],b::t,_,c,h=>absurd ((h b.Lo).2 (Zd.2 (.inl ⟨Int.le_refl _,c.1 b qd⟩))) (q16 _)
  | a::s,[],hs,_,h=>absurd ((h a.Lo).1 (Zd.2 (.inl ⟨Int.le_refl _,hs.1 a qd⟩))) (q16 _)
  | a::s,b::t,hs,c,h=>by
    have m:=hs.1 a qd
    have hb:=c.1 b qd
    have lo : ∀ {a b : qo} {s t : List qo},Can (a::s)→Can (b::t)→(∀ x,has (a::s) x↔has (b::t) x)→b.Lo≤a.Lo:=by
      intro a b s t hs c h;rcases Zd.1 ((h a.Lo).1 (Zd.2 (.inl ⟨Int.le_refl _,hs.1 a qd⟩))) with d | d
      · exact d.1
      · have:=c.tail_gt d;have:=c.1 b qd;omega
    have j : a.Lo = b.Lo:=Int.le_antisymm (lo c hs fun x=>(h x).symm) (lo hs c h)
    have hi : ∀ {a b : qo} {s t : List qo},Can (a::s)→Can (b::t)→(∀ x,has (a::s) x↔has (b::t) x)→a.Lo = b.Lo→b.Hi≤a.Hi:=by
      intro a b s t hs c h e;have m:=hs.1 a qd;have hb:=c.1 b qd;refine Int.not_lt.1 fun k=>?_;rcases Zd.1 ((h a.Hi).2 (Zd.2 (.inl ⟨q6,k⟩))) with d | d
      · omega
      · have:=hs.tail_gt d;omega
    have l : a.Hi = b.Hi:=Int.le_antisymm (hi c hs (fun x=>(h x).symm) j.symm) (hi hs c h j)
    have e : a = b:=by cases a;cases b;simp at j l;simp [j,l]
    subst e
    congr 1
    refine q70 hs.tail c.tail fun x=>⟨fun f=>?_,fun f=>?_⟩
    · have d:=hs.tail_gt f
      rcases Zd.1 ((h x).1 (Zd.2 (.inr f))) with g | g
      · omega
      · exact g
    · have d:=c.tail_gt f
      rcases Zd.1 ((h x).2 (Zd.2 (.inr f))) with g | g
      · omega
      · exact g
theorem qlc (t : qo) : q2p t = some (decide (vld t)):=by
  unfold q2p vld;by_cases c : t.Lo < t.Hi <;> by_cases b : -1000000≤t.Lo <;> by_cases a : t.Hi≤1000000 <;> simp [c,b,a]
open Classical in
noncomputable def Jy (s : List qo) : Int:=if 400 < s.length then 4 else if Good s then 0 else 8
def qet (s : List qo) (k : Nat) : Prop:=(∀ i (h : i < s.length),i < k→vld s[i])∧∀ i (h : i + 1 < s.length),i + 1 < k→s[i].Hi < s[i+1].Lo
theorem qok {s : List qo} (h : qet s s.length) : Good s:=by
  refine ⟨fun t c=>?_,?_⟩
  · obtain ⟨i,hi,rfl⟩:=List.mem_iff_getElem.1 c;exact h.1 i hi hi
  · have key : ∀ i j (hi : i < s.length) (a : j < s.length),i < j→s[i].Hi < s[j].Lo:=by
      intro i j hi a b
      induction j with
      | zero=>omega
      | succ j ih=>
        have d:=h.2 j a a;by_cases e : i = j
        · subst e;exact d
        · have g:=ih q6 q6;have f:=(h.1 j q6 q6).1;omega
    rw [List.pairwise_iff_getElem];exact key
theorem Good.get {s : List qo} (h : Good s) (i : Nat) (hi : i < s.length) : vld s[i]:=h.1 _ (Y6 hi)
theorem Good.nxt {s : List qo} (h : Good s) (i j : Nat) (hi : i < s.length) (b : j < s.length) (a : i < j) : s[i].Hi < s[j].Lo:=List.pairwise_iff_getElem.1 h.2 i j hi b a
theorem qfi (s : List qo) : qbk s = some (Jy s):=by
  unfold qbk Jy;by_cases n : 400 < s.length
  · have : decide ((s.length : Int) > 400) = true:=by simp;omega
    simp [this,n]
  · have hd : decide ((s.length : Int) > 400) = false:=by simp;omega
    simp only [hd,n,if_false,Q0];have:=Jf (f:=q44 s) (σ:=Unit) (fun k _=>(k : Int)) s.length (fun k _=>qet s k) (fun b=>(b = .inl ()∧Good s)∨(b = .inr 8∧¬ Good s)) ?_ ?_ (k0:=0) (c0:=()) q6 ⟨fun i _ h=>q6,fun i _ h=>q6⟩
    · obtain ⟨b,l,d⟩:=this;have l : loop (q44 s) 0 = some b:=l;rw [l];rcases d with ⟨rfl,d⟩ | ⟨rfl,d⟩ <;> simp [d]
    · intro k _ m g;have hb : decide ((k : Int) < (s.length : Int)) = true:=by simp;omega
      simp only [q44,hb,qy,Qx m,qh,qlc];have bad : ¬ Good s→∃ b,(some (Sum.inr (Sum.inr 8)) : Option (Int ⊕ (Unit ⊕ Int))) = some (.inr b)∧((b = .inl ()∧Good s)∨(b = .inr 8∧¬ Good s)):=fun h=>⟨_,rfl,.inr ⟨rfl,h⟩⟩
      by_cases a : vld s[k]
      · simp only [a,decide_true,Bool.not_true,Q0];by_cases p : k = 0
        · subst p;refine .inl ⟨(),by simp [Q8],⟨fun i hi h=>?_,fun i hi h=>q6⟩⟩
          (obtain rfl : i = 0:=by omega)
          exact a
        · obtain ⟨j,rfl⟩ : ∃ j,k = j + 1:=⟨k - 1,q6⟩
          have hp : decide (((j + 1 : Nat) : Int) > 0) = true:=Qb q6
          have o : idx s (w64 (((j + 1 : Nat) : Int) - 1)) = some (s[j]'(q6)):=by
            rw [Q8 q6];exact q17 q6 q6
          simp only [hp,qy,o,qh];by_cases c : s[j].Hi < s[j+1].Lo
          · have : decide (s[j].Hi ≥ s[j+1].Lo) = false:=by simp;omega
            simp only [this,Q0];rw [Q8 q6];refine .inl ⟨(),rfl,⟨fun i hi h=>?_,fun i hi h=>?_⟩⟩
            · by_cases e : i = j + 1
              · subst e;exact a
              · exact g.1 i hi q6
            · by_cases e : i = j
              · subst e;exact c
              · exact g.2 i hi q6
          · have : decide (s[j].Hi ≥ s[j+1].Lo) = true:=by simp;omega
            simp only [this,qy];exact .inr (bad fun h=>c (h.nxt j (j + 1) q6 m q6))
      · simp only [a,decide_false,Bool.not_false,qy,qh];exact .inr (bad fun h=>a (h.get k m))
    · intro _ g;have hb : decide ((s.length : Int) < (s.length : Int)) = false:=by simp
      simp only [q44,hb,Q0];exact ⟨_,rfl,.inl ⟨rfl,qok g⟩⟩
theorem qrw : qjj = q2p:=rfl
theorem qrs (s : List qo) : qdz s = q44 s:=by
  funext a;unfold qdz q44;cases h : idx s a <;> simp [qrw]
theorem qrv (s : List qo) : qav s = some (Jy s):=by
  rw [← qfi];unfold qav qbk;rw [qrs]
open Classical in
theorem qjh (s : List qo) (x : Int) (l : s.length≤1000000) : qaw s x = some (decide (has s x)):=by
  have:=Jf (f:=q7l s x) (σ:=Unit) (fun k _=>(k : Int)) s.length (fun k _=>∀ i (h : i < s.length),i < k→¬ (s[i].Lo≤x∧x < s[i].Hi)) (fun b=>(b = .inl ()∧¬ has s x)∨(b = .inr true∧has s x)) ?_ ?_ (k0:=0) (c0:=()) q6 (fun i _ h=>q6)
  · obtain ⟨b,c,a⟩:=this;have c : loop (q7l s x) 0 = some b:=c;unfold qaw;rw [c];rcases a with ⟨rfl,a⟩ | ⟨rfl,a⟩ <;> simp [a]
  · intro k _ g d;have hb : decide ((k : Int) < (s.length : Int)) = true:=Qb q6;simp only [q7l,hb,qy,Qx g,qh];by_cases c : s[k].Lo≤x <;> by_cases a : x < s[k].Hi
    · exact .inr ⟨.inr true,by simp [c,a],.inr ⟨rfl,s[k],Y6 g,c,a⟩⟩
    all_goals
      refine .inl ⟨(),by simp [c,a];exact Q8 q6,fun i hi h=>?_⟩
      by_cases e : i = k
      · subst e;omega
      · exact d i hi q6
  · intro _ d;have hb : decide ((s.length : Int) < (s.length : Int)) = false:=Q6 q6;simp only [q7l,hb,Q0];refine ⟨_,rfl,.inl ⟨rfl,?_⟩⟩;rintro ⟨t,j,h⟩;obtain ⟨i,hi,rfl⟩:=List.mem_iff_getElem.1 j;exact d i hi hi h
end Go.Sh
namespace Go.Sh
open Go Go.Am
theorem qp0 (out : List Int) (v : Int) (b : Nat) (hb : b≤out.length) :
    (cpyw (out ++ [0]) (b + 1,(out ++ [0]).length - (b + 1)) ((((out ++ [0]).drop b).take ((out ++ [0]).length - b)))).set b v = out.take b ++ v::out.drop b:=by
  have c : ((out ++ [0]).drop b).take ((out ++ [0]).length - b) = (out ++ [0]).drop b:=List.take_of_length_le qd;rw [c];unfold cpyw splice;have f : (min ((out ++ [0]).drop b).length ((out ++ [0]).length - (b + 1))) = out.length - b:=by simp;omega
  simp only [f]
  have j : ((out ++ [0]).drop b).take (out.length - b) = out.drop b:=by
    rw [List.drop_append_of_le_length hb,List.take_append_of_le_length qd];exact List.take_of_length_le qd
  rw [j]
  have d : (out ++ [0]).drop (b + 1 + (out.drop b).length) = []:=by
    apply List.drop_of_length_le;simp;omega
  rw [d,List.append_nil]
  have g : ∃ y,(out ++ [0]).take (b + 1) = out.take b ++ [y]:=by
    refine ⟨(out ++ [0])[b]'(by simp;omega),?_⟩;rw [List.take_succ_eq_append_getElem (by simp;omega),List.take_append_of_le_length hb]
  obtain ⟨y,a⟩:=g
  have key : ∀ (xs ys : List Int) (y v : Int),(xs ++ (y::ys)).set xs.length v = xs ++ v::ys:=by
    intro xs ys y v
    induction xs with
    | nil=>rfl
    | cons x xs ih=>simp [ih]
  have h : (out.take b).length = b:=by simp;omega
  rw [a,List.append_assoc];have:=key (out.take b) (out.drop b) y v;rw [h] at this;exact this
def Yo (l out : List Int) : Prop:=out.Pairwise (· < ·)∧∀ x,x∈out↔x∈l
theorem qxw (a : Int × List Int) (l : List Int) (i : Nat) (hi : i < l.length) (q : a.1 = i) (o : a.2.length≤1000000) (hs : a.2.Pairwise (· < ·)) :
    ∃ b : Int,loop (q3f a l) (a.2.length : Int) = some b∧∃ k : Nat,b = k∧k≤a.2.length∧(∀ j (h : j < a.2.length),k≤j→l[i] < a.2[j])∧(∀ j (h : j < a.2.length),j < k→a.2[j]≤l[i]):=by
  refine qpg (fun b : Int=>∃ k : Nat,b = k∧k≤a.2.length∧(∀ j (h : j < a.2.length),k≤j→l[i] < a.2[j])) (fun b=>b.toNat) _ ?_ ⟨a.2.length,rfl,q6,fun j h d=>q6⟩;rintro b ⟨k,rfl,r,c⟩
  cases k with
  | zero=>
    refine .inr ⟨0,?_,0,rfl,q6,c,fun j h d=>q6⟩;simp [q3f]
  | succ k=>
    have n : decide (((k + 1 : Nat) : Int) > 0) = true:=Qb q6;have p : idx a.2 (w64 (((k + 1 : Nat) : Int) - 1)) = some (a.2[k]'(q6)):=by rw [Q8 q6];exact q17 q6 q6
    have m : idx l a.1 = some l[i]:=by rw [q];exact Qx hi
    have g : k < a.2.length:=by omega
    by_cases f : a.2[k] > l[i]
    · refine .inl ⟨(k : Int),?_,⟨k,rfl,q6,fun j h d=>?_⟩,qd⟩
      · simp only [q3f,n,p,m,qy,qh,f,decide_true];rw [Q8 q6];congr 2;omega
      · by_cases e : j = k
        · subst e;exact f
        · exact c j h q6
    · refine .inr ⟨((k + 1 : Nat) : Int),?_,k + 1,rfl,r,c,fun j h d=>?_⟩
      · simp only [q3f,n,p,m,qy,qh,f,decide_false,Q0]
      · by_cases e : j = k
        · subst e;omega
        · have : a.2[j] < a.2[k]:=List.pairwise_iff_getElem.1 hs j k h g q6;omega
theorem ql8 {l out : List Int} {v : Int} {i : Nat} (hi : i < l.length) (b : l[i] = v) (h : Yo (l.take i) out) (a : List Int) (hs : a.Pairwise (· < ·)) (c : ∀ x,x∈a↔x∈out∨x = v) : Yo (l.take (i + 1)) a:=by
  refine ⟨hs,fun x=>?_⟩;rw [c,h.2,List.take_succ_eq_append_getElem hi];simp [b]
theorem qkw (l : List Int) (hl : l.length≤1000000) : ∃ t,Jh l = some t∧Yo l t∧t.length≤l.length:=by
  have:=Jf (f:=q3e l) (σ:=List Int) (fun k c=>((k : Int),c)) l.length (fun k c=>Yo (l.take k) c∧c.length≤k) (fun t=>Yo l t∧t.length≤l.length) ?_ ?_ (k0:=0) (c0:=[]) q6 ⟨⟨.nil,qd⟩,qd⟩
  · obtain ⟨b,g,n⟩:=this;have g : loop (q3e l) (0,[]) = some b:=g;exact ⟨b,by unfold Jh;rw [g];rfl,n⟩
  · intro k c hk a;obtain ⟨a,ak⟩:=a;have hb : decide ((k : Int) < (l.length : Int)) = true:=Qb q6;obtain ⟨b,s,j,rfl,hj,q,p⟩:=qxw ((k : Int),c) l k hk rfl (by simp;omega) a.1;simp only at hj q p s;refine .inl ?_;simp only [q3e,hb,qy,s,qh,Qx hk];have hw : w64 ((k : Int) + 1) = ((k + 1 : Nat) : Int):=by rw [Q8 q6];omega
    by_cases o : 0 < j∧∃ h : j - 1 < c.length,c[j-1] = l[k]
    · obtain ⟨r,d,he⟩:=o;have h0 : decide ((j : Int) > 0) = true:=Qb q6;have g : idx c (w64 ((j : Int) - 1)) = some (c[j-1]):=by rw [Q8 q6];exact q17 q6 d
      refine ⟨c,by simp only [h0,g,qy,qh,he,beq_self_eq_true,hw],?_,q6⟩;refine ql8 hk rfl a c a.1 fun x=>⟨.inl,?_⟩
      rintro (h | rfl)
      · exact h
      · rw [← he];exact Y6 d
    · have hc : (cond (decide ((j : Int) > 0)) ((idx c (w64 ((j : Int) - 1))).bind fun v=>some (v == l[k])) (some false)) = some false:=by
        by_cases r : 0 < j
        · have d : j - 1 < c.length:=by omega
          have h0 : decide ((j : Int) > 0) = true:=Qb q6;have g : idx c (w64 ((j : Int) - 1)) = some (c[j-1]):=by rw [Q8 q6];exact q17 q6 d
          simp only [h0,g,qy,qh];have : c[j-1]≠l[k]:=fun e=>o ⟨r,d,e⟩;simp [this]
        · have h0 : decide ((j : Int) > 0) = false:=Q6 q6;simp only [h0,Q0]
      have ad : app 8 c [0] = some (c ++ [0]):=Y8 (by simp;omega)
      have ag : sub2 (c ++ [0]).length (w64 ((j : Int) + 1)) ((c ++ [0]).length : Int) = some (j + 1,(c ++ [0]).length - (j + 1)):=by
        rw [Q8 q6];unfold sub2;rw [qp ⟨q6,by simp;omega,q6⟩];congr 2
      have af : sub2 (c ++ [0]).length (j : Int) ((c ++ [0]).length : Int) = some (j,(c ++ [0]).length - j):=by
        unfold sub2;rw [qp ⟨q6,by simp;omega,q6⟩];congr 2
      simp only [hc,qh,Q0,ad,ag,af]
      have u : j < (cpyw (c ++ [0]) (j + 1,(c ++ [0]).length - (j + 1)) (((c ++ [0]).drop j).take ((c ++ [0]).length - j))).length:=by
        rw [qfy (by simp;omega)];simp;omega
      rw [Qx u];simp only [qh,Int.toNat_natCast,qp0 c l[k] j hj,hw];refine ⟨_,rfl,?_,by simp;omega⟩;refine ql8 hk rfl a _ ?_ fun x=>?_
      · rw [List.pairwise_append];refine ⟨a.1.sublist (List.take_sublist _ _),?_,?_⟩
        · rw [List.pairwise_cons];refine ⟨fun y hy=>?_,a.1.sublist (List.drop_sublist _ _)⟩;obtain ⟨i,hi,rfl⟩:=List.mem_iff_getElem.1 hy;rw [List.getElem_drop];exact q _ _ q6
        · intro y hy z hz;obtain ⟨i,hi,rfl⟩:=List.mem_iff_getElem.1 hy;rw [List.getElem_take];simp at hi;have g:=p i q6 q6;have n : c[i]≠l[k]∧c[i] < l[k]∨c[i] = l[k]:=by omega
          have h3 : c[i] < l[k]:=by
            rcases n with n | n
            · exact n.2
            · exfalso;by_cases e : i = j - 1
              · subst e;exact o ⟨q6,q6,n⟩
              · have : c[i] < c[j-1]'(q6):=List.pairwise_iff_getElem.1 a.1 i (j-1) q6 q6 q6;have:=p (j-1) q6 q6;omega
          rcases List.mem_cons.1 hz with rfl | hz
          · exact h3
          · obtain ⟨m,hm,rfl⟩:=List.mem_iff_getElem.1 hz;rw [List.getElem_drop];simp at hm;have:=q (j + m) q6 q6;omega
      · constructor
        · intro h;rcases List.mem_append.1 h with h | h
          · exact .inl (List.mem_of_mem_take h)
          · rcases List.mem_cons.1 h with h | h
            · exact .inr h
            · exact .inl (List.mem_of_mem_drop h)
        · rintro (h | rfl)
          · rw [← List.take_append_drop j c] at h;rcases List.mem_append.1 h with h | h
            · exact List.mem_append_left _ h
            · exact List.mem_append_right _ (List.mem_cons_of_mem _ h)
          · simp
  · intro c a;have hb : decide ((l.length : Int) < (l.length : Int)) = false:=Q6 q6;simp only [q3e,hb,Q0];refine ⟨_,rfl,by simpa using a.1,a.2⟩
def ends (s : List qo) : List Int:=s.flatMap fun t=>[t.Lo,t.Hi]
theorem q7h {s : List qo} {x : Int} : x∈ends s↔∃ t∈s,x = t.Lo∨x = t.Hi:=by simp [ends]
theorem qnt {s : List qo} {k : Nat} (h : k < s.length) : ends (s.take (k + 1)) = ends (s.take k) ++ [s[k].Lo,s[k].Hi]:=by
  unfold ends;rw [List.take_succ_eq_append_getElem h,List.flatMap_append];simp
theorem qa6 (s : List qo) : (ends s).length = 2 * s.length:=by
  induction s with
  | nil=>rfl
  | cons t r ih=>simp only [ends,List.flatMap_cons,List.length_append,List.length_cons,List.length_nil] at ih ⊢;omega
theorem qg4 (s : List qo) (c0 : List Int) (hs : s.length≤100000) (g : c0.length≤200000) : loop (q7k s) (0,c0) = some (c0 ++ ends s):=by
  have:=Jf (f:=q7k s) (σ:=List Int) (fun k c=>((k : Int),c)) s.length (fun k c=>c = c0 ++ ends (s.take k)) (fun t=>t = c0 ++ ends s) ?_ ?_ (k0:=0) (c0:=c0) q6 (by simp [ends])
  · obtain ⟨b,d,rfl⟩:=this;exact d
  · rintro k c a rfl;have hb : decide ((k : Int) < (s.length : Int)) = true:=Qb q6;refine .inl ⟨c0 ++ ends (s.take (k + 1)),?_,rfl⟩;simp only [q7k,hb,qy,Qx a,qh];rw [Y8 (by simp [qa6];omega),Q8 q6,qnt a];simp
  · rintro c rfl;have hb : decide ((s.length : Int) < (s.length : Int)) = false:=Q6 q6;simp [q7k]
theorem qns (p q : List qo) (hp : p.length≤100000) (c : q.length≤100000) : ∃ t,qe0 p q = some t∧Yo (ends p ++ ends q) t∧t.length≤2 * (p.length + q.length):=by
  have f : loop (qjg q) (0,ends p) = some (ends p ++ ends q):=qg4 q (ends p) c (by rw [qa6];omega);obtain ⟨t,a,b,d⟩:=qkw (ends p ++ ends q) (by simp [qa6];omega);refine ⟨t,?_,b,by simp [qa6] at d;omega⟩;unfold qe0;rw [qg4 p [] hp qd];simp only [List.nil_append,qh,f,a]
end Go.Sh
namespace Go.Sh
open Go Go.Am
def addS (c : List qo) (a b : Int) : List qo:=match c.getLast? with
  | some t=>if t.Hi = a then c.dropLast ++ [{Lo:=t.Lo,Hi:=b}] else c ++ [{Lo:=a,Hi:=b}]
  | none=>[{Lo:=a,Hi:=b}]
theorem qew (a b : Int) : addS [] a b = [{Lo:=a,Hi:=b}]:=rfl
theorem q9r {c : List qo} {t : qo} {b : Int} : addS (c ++ [t]) t.Hi b = c ++ [{Lo:=t.Lo,Hi:=b}]:=by simp [addS]
theorem q9s {c : List qo} {t : qo} {a b : Int} (h : t.Hi≠a) : addS (c ++ [t]) a b = (c ++ [t]) ++ [{Lo:=a,Hi:=b}]:=by simp [addS,h]
theorem qbj {α : Type} (c : List α) : c = []∨∃ d t,c = d ++ [t]:=by
  rcases List.eq_nil_or_concat c with h | ⟨d,t,h⟩
  · exact .inl h
  · exact .inr ⟨d,t,by simpa using h⟩
theorem qcb {d : List qo} {t : qo} : Can (d ++ [t])↔Can d∧t.Lo < t.Hi∧∀ s∈d,s.Hi < t.Lo:=by
  unfold Can;constructor
  · rintro ⟨b,a⟩;rw [List.pairwise_append] at a;exact ⟨⟨fun s hs=>b s (by simp [hs]),a.1⟩,b t qd,fun s hs=>a.2.2 s hs t qd⟩
  · rintro ⟨⟨b,a⟩,f,g⟩;refine ⟨fun s hs=>?_,?_⟩
    · rcases List.mem_append.1 hs with hs | hs
      · exact b s hs
      · simp at hs;subst hs;exact f
    · rw [List.pairwise_append];exact ⟨a,qd,fun s hs u c=>by simp at c;subst c;exact g s hs⟩
theorem qcw {d : List qo} {t : qo} {x : Int} : has (d ++ [t]) x↔has d x∨(t.Lo≤x∧x < t.Hi):=by
  rw [qos,Zd];simp [q16]
theorem qex {c : List qo} {a b : Int} (j : Can c) (h : ∀ t∈c,t.Hi≤a) (f : a < b) :
    Can (addS c a b)∧(∀ x,has (addS c a b) x↔has c x∨(a≤x∧x < b))∧(∀ t∈addS c a b,t.Hi≤b)∧(addS c a b).length≤c.length + 1∧
    (∀ t∈addS c a b,(t.Lo = a∨∃ u∈c,t.Lo = u.Lo)∧(t.Hi = b∨∃ u∈c,t.Hi = u.Hi)):=by
  rcases qbj c with rfl | ⟨d,t,rfl⟩
  · rw [qew];refine ⟨⟨by simpa using f,qd⟩,fun x=>?_,qd,qd,qd⟩;rw [Zd];simp [q16]
  · have g:=qcb.1 j;have k : t.Hi≤a:=h t qd;by_cases e : t.Hi = a
    · subst e;rw [q9r];refine ⟨qcb.2 ⟨g.1,by simp;omega,g.2.2⟩,fun x=>?_,fun s hs=>?_,qd,fun s hs=>?_⟩
      · rw [qcw,qcw];by_cases hd : has d x <;> simp only [hd,true_or,false_or] <;> omega
      · rcases List.mem_append.1 hs with hs | hs
        · have:=h s (by simp [hs]);omega
        · simp at hs;subst hs;simp
      · rcases List.mem_append.1 hs with hs | hs
        · exact ⟨.inr ⟨s,by simp [hs],rfl⟩,.inr ⟨s,by simp [hs],rfl⟩⟩
        · simp at hs;subst hs;exact ⟨.inr ⟨t,qd,rfl⟩,.inl rfl⟩
    · rw [q9s e];refine ⟨qcb.2 ⟨j,f,fun s hs=>?_⟩,fun x=>?_,fun s hs=>?_,qd,fun s hs=>?_⟩
      · rcases List.mem_append.1 hs with hs | hs
        · have:=g.2.2 s hs;simp only;omega
        · simp at hs;subst hs;simp only;omega
      · rw [qcw]
      · rcases List.mem_append.1 hs with hs | hs
        · have:=h s hs;omega
        · simp at hs;subst hs;simp
      · rcases List.mem_append.1 hs with hs | hs
        · exact ⟨.inr ⟨s,hs,rfl⟩,.inr ⟨s,hs,rfl⟩⟩
        · simp at hs;subst hs;exact ⟨.inl rfl,.inl rfl⟩
theorem qkc {d : List qo} {t u : qo} : (d ++ [t]).set d.length u = d ++ [u]:=by
  induction d with
  | nil=>rfl
  | cons x d ih=>simp [ih]
structure qbv (cuts : List Int) (ins : List Bool) (k : Nat) (c : List qo) : Prop where
  can : Can c
  pts : ∀ x,has c x↔∃ i,∃ (h : i + 1 < cuts.length) (h' : i < ins.length),i < k∧ins[i] = true∧cuts[i]≤x∧x < cuts[i + 1]
  hi : ∀ t∈c,∃ (h : k < cuts.length),t.Hi≤cuts[k]
  len : c.length≤k
  ends : ∀ t∈c,t.Lo∈cuts∧t.Hi∈cuts
theorem qfe (a : List Int) (g : List Bool) (hs : a.Pairwise (· < ·)) (hl : a.length≤1000000) (hi : a.length≤g.length + 1) :
    ∃ c,q3c a g = some c∧qbv a g (a.length - 1) c:=by
  have:=Jf (f:=q3d a g) (σ:=List qo) (fun k c=>((k : Int),c)) (a.length - 1) (fun k c=>qbv a g k c) (fun c=>qbv a g (a.length - 1) c) ?_ ?_ (k0:=0) (c0:=[]) q6
    ⟨⟨qd,qd⟩,fun x=>⟨fun h=>absurd h (q16 x),fun ⟨i,_,_,h,_⟩=>q6⟩,qd,qd,qd⟩
  · obtain ⟨b,l,n⟩:=this;have l : loop (q3d a g) (0,[]) = some b:=l;exact ⟨b,by unfold q3c;rw [l];rfl,n⟩
  · intro k c hk j;have hw : w64 ((k : Int) + 1) = ((k + 1 : Nat) : Int):=by rw [Q8 q6];omega
    have m : k + 1 < a.length:=by omega
    have p : k < a.length:=by omega
    have ag : k < g.length:=by omega
    have hb : decide (((k + 1 : Nat) : Int) < (a.length : Int)) = true:=Qb q6;refine .inl ?_;simp only [q3d,hw,hb,qy,Qx ag,Qx m,Qx p,qh];have ah : a[k] < a[k+1]:=List.pairwise_iff_getElem.1 hs k (k+1) p m q6;have ad : ∀ t∈c,t.Hi≤a[k]:=fun t r=>(j.hi t r).2
    cases v : g[k] with
    | false=>
      refine ⟨c,qd,j.can,fun x=>?_,fun t r=>⟨m,by have:=ad t r;omega⟩,by have:=j.len;omega,j.ends⟩;rw [j.pts];constructor
      · rintro ⟨i,l,n,h3,o⟩;exact ⟨i,l,n,q6,o⟩
      · rintro ⟨i,l,n,h3,o⟩;by_cases e : i = k
        · subst e;rw [v] at o;simp at o
        · exact ⟨i,l,n,q6,o⟩
    | true=>
      have q : (cond (!true) (some c) ((cond (decide ((c.length : Int) > 0)) ((idx c (w64 ((c.length : Int) - 1))).bind fun ab=>some (ab.Hi == a[k])) (some false)).bind fun aa=>cond aa ((idx c (w64 ((c.length : Int) - 1))).bind fun af=>some (c.set (w64 ((c.length : Int) - 1)).toNat ({Lo:=af.Lo,Hi:=a[k+1]} : qo))) ((app 16 c [({Lo:=a[k],Hi:=a[k+1]} : qo)]).bind fun s=>some s))) = some (addS c a[k] a[k+1]):=by
        have ae : ∀ y,app 16 c [y] = some (c ++ [y]):=fun y=>Y8 (by have:=j.len;simp;omega);rcases qbj c with rfl | ⟨d,t,rfl⟩
        · simp [ae,addS]
        · have h0 : decide ((((d ++ [t]).length : Nat) : Int) > 0) = true:=Qb (by rw [List.length_append,List.length_singleton];omega);have al:=j.len;have ac : (((d ++ [t]).length : Nat) : Int) = d.length + 1:=by simp
          have ao : d.length + 1≤k:=by simpa using al
          have l : w64 (((d ++ [t]).length : Int) - 1) = (d.length : Int):=by rw [ac,Q8 q6];omega
          have n : idx (d ++ [t]) (d.length : Int) = some t:=by rw [Qx qd];simp
          simp only [Bool.not_true,Q0,h0,qy,l,n,qh,Int.toNat_natCast,qkc,ae];by_cases e : t.Hi = a[k]
          · simp [e,← q9r]
          · have e' : (t.Hi == a[k]) = false:=by simpa using e
            simp only [e',Q0,q9s e]
      rw [q];obtain ⟨a1,a2,a3,a4,a5⟩:=qex j.can ad ah;refine ⟨_,rfl,a1,fun x=>?_,fun t r=>⟨m,a3 t r⟩,by have:=j.len;omega,fun t r=>?_⟩
      · rw [a2,j.pts];constructor
        · rintro (⟨i,l,n,h3,o⟩ | h)
          · exact ⟨i,l,n,q6,o⟩
          · exact ⟨k,m,ag,q6,v,h⟩
        · rintro ⟨i,l,n,h3,o⟩;by_cases e : i = k
          · subst e;exact .inr o.2
          · exact .inl ⟨i,l,n,q6,o⟩
      · obtain ⟨b1,z⟩:=a5 t r;constructor
        · rcases b1 with b1 | ⟨u,hu,b1⟩
          · rw [b1];exact Y6 p
          · rw [b1];exact (j.ends u hu).1
        · rcases z with z | ⟨u,hu,z⟩
          · rw [z];exact Y6 m
          · rw [z];exact (j.ends u hu).2
  · intro c j;refine ⟨c,?_,j⟩
    have hw : decide (w64 (((a.length - 1 : Nat) : Int) + 1) < (a.length : Int)) = false:=by
      rw [Q8 q6];exact Q6 q6
    simp only [q3d,hw,Q0]
def Yd (kind : Int) (a b : Prop) : Prop:=(kind = 1∧a∧b)∨(kind = 2∧(a∨b))∨(kind≠1∧kind≠2∧a∧¬ b)
open Classical in
theorem qhi (kind : Int) (a b : Prop) : q4s kind (decide a) (decide b) = some (decide (Yd kind a b)):=by
  unfold q4s Yd;by_cases f : kind = 1
  · subst f;by_cases c : a <;> by_cases hb : b <;> simp [c,hb]
  · by_cases d : kind = 2
    · subst d;by_cases c : a <;> by_cases hb : b <;> simp [c,hb]
    · have g : (kind == 1) = false:=by simpa using f
      have h : (kind == 2) = false:=by simpa using d
      by_cases c : a <;> by_cases hb : b <;> simp [c,hb,f,d,g,h]
theorem q2j {c : List Int} (hs : c.Pairwise (· < ·)) {p : List qo} (m : ∀ x∈ends p,x∈c) {i : Nat} (h : i + 1 < c.length) {x : Int} (s : c[i]≤x) (r : x < c[i + 1]) : has p x↔has p c[i]:=by
  have mono : ∀ a b (g : a < c.length) (hb : b < c.length),c[a] < c[b]→a < b:=by
    intro a b g hb o;refine Nat.not_le.1 fun l=>?_;by_cases e : a = b
    · subst e;omega
    · have:=List.pairwise_iff_getElem.1 hs b a hb g q6;omega
  have d : ∀ a b (g : a < c.length) (hb : b < c.length),a≤b→c[a]≤c[b]:=by
    intro a b g hb l;by_cases e : a = b
    · subst e;omega
    · have:=List.pairwise_iff_getElem.1 hs a b g hb q6;omega
  constructor
  · rintro ⟨t,k,q,n⟩;refine ⟨t,k,?_,q6⟩;obtain ⟨j,f,e⟩:=List.mem_iff_getElem.1 (m t.Lo (q7h.2 ⟨t,k,.inl rfl⟩));have:=mono j (i + 1) f h q6;have:=d j i f q6 q6;omega
  · rintro ⟨t,k,q,n⟩;refine ⟨t,k,q6,?_⟩;obtain ⟨j,f,e⟩:=List.mem_iff_getElem.1 (m t.Hi (q7h.2 ⟨t,k,.inr rfl⟩));have:=mono i j q6 f q6;have:=d (i + 1) j h f q6;omega
theorem qae {c : List Int} (hs : c.Pairwise (· < ·)) {p : List qo} (g : ∀ x∈ends p,x∈c) {x : Int} (h : has p x) : ∃ i,∃ (h : i + 1 < c.length),c[i]≤x∧x < c[i + 1]:=by
  obtain ⟨t,m,u,r⟩:=h;obtain ⟨a,l,v⟩:=List.mem_iff_getElem.1 (g t.Lo (q7h.2 ⟨t,m,.inl rfl⟩));obtain ⟨b,hb,s⟩:=List.mem_iff_getElem.1 (g t.Hi (q7h.2 ⟨t,m,.inr rfl⟩))
  have key : ∀ n j (f : j < c.length),j + n = b→c[j]≤x→∃ i,∃ (h : i + 1 < c.length),c[i]≤x∧x < c[i + 1]:=by
    intro n
    induction n with
    | zero=>intro j f e k;simp at e;subst e;omega
    | succ n ih=>
      intro j f e k;by_cases q : x < c[j+1]'(q6)
      · exact ⟨j,q6,k,q⟩
      · exact ih (j + 1) q6 q6 q6
  have o : a≤b:=by
    refine Nat.not_lt.1 fun d=>?_;have:=List.pairwise_iff_getElem.1 hs b a hb l d;omega
  exact key (b - a) a l q6 q6
structure qbx (kind : Int) (p q out : List qo) : Prop where
  can : Can out
  pts : ∀ x,has out x↔Yd kind (has p x) (has q x)
  ends : ∀ t∈out,(t.Lo∈ends p∨t.Lo∈ends q)∧(t.Hi∈ends p∨t.Hi∈ends q)
  len : out.length≤2 * (p.length + q.length)
open Classical in
theorem qp9 (a : List Int) (p q : List qo) (kind : Int) (h : a.length≤1000000) (hp : p.length≤100000) (j : q.length≤100000) :
    loop (q7m a p q kind) (0,[]) = some (a.map fun x=>decide (Yd kind (has p x) (has q x))):=by
  have:=Jf (f:=q7m a p q kind) (σ:=List Bool) (fun k c=>((k : Int),c)) a.length (fun k c=>c = (a.take k).map fun x=>decide (Yd kind (has p x) (has q x))) (fun t=>t = a.map fun x=>decide (Yd kind (has p x) (has q x))) ?_ ?_ (k0:=0) (c0:=[]) q6 qd
  · obtain ⟨b,g,rfl⟩:=this;exact g
  · rintro k c d rfl;have hb : decide ((k : Int) < (a.length : Int)) = true:=Qb q6;refine .inl ⟨_,?_,rfl⟩;simp only [q7m,hb,qy,Qx d,qh,qjh p _ (by omega : p.length≤1000000),qjh q _ (by omega : q.length≤1000000),qhi];rw [Y8 (by simp;omega),Q8 q6,List.take_succ_eq_append_getElem d,List.map_append];rfl
  · rintro c rfl;have hb : decide ((a.length : Int) < (a.length : Int)) = false:=Q6 q6;simp [q7m]
open Classical in
theorem qpa (kind : Int) (p q : List qo) (hp : p.length≤100000) (r : q.length≤100000) : ∃ out,qax kind p q = some out∧qbx kind p q out:=by
  obtain ⟨d,v,⟨hs,l⟩,o⟩:=qns p q hp r;obtain ⟨c,u,k⟩:=qfe d (d.map fun x=>decide (Yd kind (has p x) (has q x))) hs q6 (by rw [List.length_map];omega);refine ⟨c,?_,k.can,fun x=>?_,fun t y=>?_,by have:=k.len;omega⟩
  · unfold qax;rw [v];simp only [qh,qp9 d p q kind q6 hp r,u]
  · have mp : ∀ x∈ends p,x∈d:=fun x m=>(l x).2 (List.mem_append_left _ m);have mq : ∀ x∈ends q,x∈d:=fun x m=>(l x).2 (List.mem_append_right _ m);rw [k.pts];constructor
    · rintro ⟨i,g,z,_,s,j,f⟩;simp only [List.getElem_map,decide_eq_true_eq] at s;rw [q2j hs mp g j f,q2j hs mq g j f];exact s
    · intro h
      have n : has p x∨has q x:=by
        rcases h with ⟨_,h,_⟩ | ⟨_,h⟩ | ⟨_,_,h,_⟩
        · exact .inl h
        · exact h
        · exact .inl h
      obtain ⟨i,g,j,f⟩ : ∃ i,∃ (h : i + 1 < d.length),d[i]≤x∧x < d[i + 1]:=n.elim (qae hs mp) (qae hs mq);refine ⟨i,g,by rw [List.length_map];omega,q6,?_,j,f⟩;simp only [List.getElem_map,decide_eq_true_eq];rw [← q2j hs mp g j f,← q2j hs mq g j f];exact h
  · obtain ⟨a,b⟩:=k.ends t y;exact ⟨List.mem_append.1 ((l _).1 a),List.mem_append.1 ((l _).1 b)⟩
end Go.Sh
namespace Go.Sh
open Go Go.Am
def q4j : ByteArray:=⟨#[0,1,2,2,3,3,3,3,4,4,4,4,4,4,4,4,5,5,5,5,5,5,5,5,5,5,5,5,5,5,5,5,6,6,6,6,6,6,6,6,6,6,6,6,6,6,6,6,6,6,6,6,6,6,6,6,6,6,6,6,6,6,6,6,7,7,7,7,7,7,7,7,7,7,7,7,7,7,7,7,7,7,7,7,7,7,7,7,7,7,7,7,7,7,7,7,7,7,7,7,7,7,7,7,7,7,7,7,7,7,7,7,7,7,7,7,7,7,7,7,7,7,7,7,7,7,7,7,8,8,8,8,8,8,8,8,8,8,8,8,8,8,8,8,8,8,8,8,8,8,8,8,8,8,8,8,8,8,8,8,8,8,8,8,8,8,8,8,8,8,8,8,8,8,8,8,8,8,8,8,8,8,8,8,8,8,8,8,8,8,8,8,8,8,8,8,8,8,8,8,8,8,8,8,8,8,8,8,8,8,8,8,8,8,8,8,8,8,8,8,8,8,8,8,8,8,8,8,8,8,8,8,8,8,8,8,8,8,8,8,8,8,8,8,8,8,8,8,8,8,8,8,8,8,8,8]⟩
noncomputable def q33 (p0 : Int) : Option Int:=
  (cond (decide (p0 ≥ 4294967296)) (some (Int.fdiv p0 (2 ^ 32),32)) (some (p0,0))).bind fun b3=>(cond (decide (b3.1 ≥ 65536)) (some (Int.fdiv b3.1 (2 ^ 16),w64 (b3.2 + 16))) (some (b3.1,b3.2))).bind fun b6=>(cond (decide (b6.1 ≥ 256)) (some (Int.fdiv b6.1 (2 ^ 8),w64 (b6.2 + 8))) (some (b6.1,b6.2))).bind fun b9=>(q47 q4j (IntKind.wrap .u8 b9.1)).bind fun v10=>some (w64 (b9.2 + (w64 v10)))
noncomputable def Uw (p0 : Int) : Option Int:=
  (q33 p0).bind fun r1=>some r1
noncomputable def Jn {T : Type} (p1 : Int) (q1 : T→T→Option Int) (a459 : Int × List T) : Option ((Int × List T) ⊕ (List T)):=
  (cond (decide (a459.1 > p1)) ((idx a459.2 a459.1).bind fun v484=>(idx a459.2 (w64 (a459.1 - 1))).bind fun v486=>(q1 v484 v486).bind fun r488=>some (decide (r488 < 0))) (some false)).bind fun c469=>cond c469 ((idx a459.2 (w64 (a459.1 - 1))).bind fun v498=>(idx a459.2 a459.1).bind fun v500=>(idx a459.2 a459.1).bind fun _=>(idx (a459.2.set a459.1.toNat v498) (w64 (a459.1 - 1))).bind fun _=>some (.inl (w64 (a459.1 - 1),(a459.2.set a459.1.toNat v498).set (w64 (a459.1 - 1)).toNat v500))) (some (.inr a459.2))
noncomputable def q10 {T : Type} (p2 : Int) (p1 : Int) (q1 : T→T→Option Int) (a278 : Int × List T) : Option ((Int × List T) ⊕ (List T)):=
  cond (decide (a278.1 < p2)) (((loop (Jn p1 q1) (a278.1,a278.2)).bind fun x0=>some x0).bind fun b370=>some (.inl (w64 (a278.1 + 1),b370))) (some (.inr a278.2))
noncomputable def q1x {T : Type} (q1 : T→T→Option Int) (p0 : List T) (p1 : Int) (p2 : Int) : Option (List T):=
  (loop (q10 p2 p1 q1) (w64 (p1 + 1),p0)).bind fun x0=>some x0
noncomputable def Jq {T : Type} (p2 : Int) (p3 : Int) (q1 : T→T→Option Int) (a197 : Int × List T) : Option ((Int × List T) ⊕ (List T)):=
  cond (decide ((w64 ((w64 (2 * a197.1)) + 1)) ≥ p2)) (some (.inr a197.2)) ((cond (decide ((w64 ((w64 ((w64 (2 * a197.1)) + 1)) + 1)) < p2)) ((idx a197.2 (w64 (p3 + (w64 ((w64 (2 * a197.1)) + 1))))).bind fun v226=>(idx a197.2 (w64 ((w64 (p3 + (w64 ((w64 (2 * a197.1)) + 1)))) + 1))).bind fun v228=>(q1 v226 v228).bind fun r230=>some (decide (r230 < 0))) (some false)).bind fun c207=>(cond c207 (some (w64 ((w64 ((w64 (2 * a197.1)) + 1)) + 1))) (some (w64 ((w64 (2 * a197.1)) + 1)))).bind fun b234=>(idx a197.2 (w64 (p3 + a197.1))).bind fun v235=>(idx a197.2 (w64 (p3 + b234))).bind fun v237=>(q1 v235 v237).bind fun r239=>cond (!(decide (r239 < 0))) (some (.inr a197.2)) ((idx a197.2 (w64 (p3 + b234))).bind fun v241=>(idx a197.2 (w64 (p3 + a197.1))).bind fun v243=>(idx a197.2 (w64 (p3 + a197.1))).bind fun _=>(idx (a197.2.set (w64 (p3 + a197.1)).toNat v241) (w64 (p3 + b234))).bind fun _=>some (.inl (b234,(a197.2.set (w64 (p3 + a197.1)).toNat v241).set (w64 (p3 + b234)).toNat v243))))
noncomputable def U9 {T : Type} (q1 : T→T→Option Int) (p0 : List T) (p1 : Int) (p2 : Int) (p3 : Int) : Option (List T):=
  (loop (Jq p2 p3 q1) (p1,p0)).bind fun x0=>some x0
noncomputable def Uy {T : Type} (q1 : T→T→Option Int) (p2 : Int) (p1 : Int) (a123 : Int × List T) : Option ((Int × List T) ⊕ (List T)):=
  cond (decide (a123.1 ≥ 0)) ((U9 q1 a123.2 a123.1 (w64 (p2 - p1)) p1).bind fun e132=>(Qz e132.length a123.2.length).bind fun _=>some (.inl (w64 (a123.1 - 1),e132))) (some (.inr a123.2))
noncomputable def Uz {T : Type} (p1 : Int) (q1 : T→T→Option Int) (a191 : Int × List T) : Option ((Int × List T) ⊕ (List T)):=
  cond (decide (a191.1 ≥ 0)) ((idx a191.2 (w64 (p1 + a191.1))).bind fun v208=>(idx a191.2 p1).bind fun v210=>(idx a191.2 p1).bind fun _=>(idx (a191.2.set p1.toNat v208) (w64 (p1 + a191.1))).bind fun _=>(U9 q1 ((a191.2.set p1.toNat v208).set (w64 (p1 + a191.1)).toNat v210) 0 a191.1 p1).bind fun e216=>(Qz e216.length ((a191.2.set p1.toNat v208).set (w64 (p1 + a191.1)).toNat v210).length).bind fun _=>some (.inl (w64 (a191.1 - 1),e216))) (some (.inr a191.2))
noncomputable def q1w {T : Type} (q1 : T→T→Option Int) (p0 : List T) (p1 : Int) (p2 : Int) : Option (List T):=
  (loop (Uy q1 p2 p1) (w64 (Int.tdiv (w64 ((w64 (p2 - p1)) - 1)) 2),p0)).bind fun b126=>(loop (Uz p1 q1) (w64 ((w64 (p2 - p1)) - 1),b126)).bind fun x0=>some x0
noncomputable def q1y (p0 : Int) : Option Int:=
  (Uw (IntKind.wrap .u64 p0)).bind fun r1=>(shlK .u64 1 r1).bind fun q3=>some q3
noncomputable def q22 (p0 : Int) : Option Int:=
  some (xorI .u64 (xorI .u64 (xorI .u64 p0 (IntKind.wrap .u64 (p0 * (2 ^ 13)))) (Int.fdiv (xorI .u64 p0 (IntKind.wrap .u64 (p0 * (2 ^ 13)))) (2 ^ 7))) (IntKind.wrap .u64 ((xorI .u64 (xorI .u64 p0 (IntKind.wrap .u64 (p0 * (2 ^ 13)))) (Int.fdiv (xorI .u64 p0 (IntKind.wrap .u64 (p0 * (2 ^ 13)))) (2 ^ 7))) * (2 ^ 17))))
noncomputable def U0 {T : Type} (p1 : Int) (p2 : Int) (r101 : Int) (a153 : Int × List T × Int) : Option ((Int × List T × Int) ⊕ (List T)):=
  cond (decide (a153.1≤(w64 ((w64 (p1 + (w64 ((w64 (Int.tdiv (w64 (p2 - p1)) 4)) * 2)))) + 1)))) ((q22 a153.2.2).bind fun e168=>(cond (decide ((w64 (andI .u64 e168 (IntKind.wrap .u64 (r101 - 1)))) ≥ (w64 (p2 - p1)))) (some (w64 ((w64 (andI .u64 e168 (IntKind.wrap .u64 (r101 - 1)))) - (w64 (p2 - p1))))) (some (w64 (andI .u64 e168 (IntKind.wrap .u64 (r101 - 1)))))).bind fun b172=>(idx a153.2.1 (w64 (p1 + b172))).bind fun v173=>(idx a153.2.1 a153.1).bind fun v175=>(idx a153.2.1 a153.1).bind fun _=>(idx (a153.2.1.set a153.1.toNat v173) (w64 (p1 + b172))).bind fun _=>some (.inl (w64 (a153.1 + 1),(a153.2.1.set a153.1.toNat v173).set (w64 (p1 + b172)).toNat v175,e168))) (some (.inr a153.2.1))
noncomputable def Ux {T : Type} (_ : T→T→Option Int) (p0 : List T) (p1 : Int) (p2 : Int) : Option (List T):=
  cond (decide ((w64 (p2 - p1)) ≥ 8)) ((q1y (w64 (p2 - p1))).bind fun r101=>(loop (U0 p1 p2 r101) (w64 ((w64 (p1 + (w64 ((w64 (Int.tdiv (w64 (p2 - p1)) 4)) * 2)))) - 1),p0,IntKind.wrap .u64 (w64 (p2 - p1)))).bind fun x0=>some x0) (some p0)
noncomputable def U2 {T : Type} (q1 : T→T→Option Int) (p0 : List T) (p1 : Int) (p2 : Int) (p3 : Int) : Option (Int × Int × Int):=
  (idx p0 p2).bind fun v101=>(idx p0 p1).bind fun v103=>(q1 v101 v103).bind fun r105=>cond (decide (r105 < 0)) (some (p2,p1,w64 (p3 + 1))) (some (p1,p2,p3))
noncomputable def U1 {T : Type} (q1 : T→T→Option Int) (p0 : List T) (p1 : Int) (p2 : Int) (p3 : Int) (p4 : Int) : Option (Int × Int):=
  (U2 q1 p0 p1 p2 p4).bind fun e101=>(U2 q1 p0 e101.2.1 p3 e101.2.2).bind fun e103=>(U2 q1 p0 e101.1 e103.1 e103.2.2).bind fun e105=>some (e105.2.1,e105.2.2)
noncomputable def Jo {T : Type} (q1 : T→T→Option Int) (p0 : List T) (p1 : Int) (p2 : Int) : Option (Int × Int):=
  (U1 q1 p0 (w64 (p1 - 1)) p1 (w64 (p1 + 1)) p2).bind fun e101=>some (e101.1,e101.2)
noncomputable def q1v {T : Type} (p0 : List T) (p1 : Int) (p2 : Int) (p3 : T→T→Option Int) : Option (Int × Int):=
  (cond (decide ((w64 (p2 - p1)) ≥ 8)) ((cond (decide ((w64 (p2 - p1)) ≥ 50)) ((Jo p3 p0 (w64 (p1 + (w64 ((w64 (Int.tdiv (w64 (p2 - p1)) 4)) * 1)))) 0).bind fun e25=>(Jo p3 p0 (w64 (p1 + (w64 ((w64 (Int.tdiv (w64 (p2 - p1)) 4)) * 2)))) e25.2).bind fun e27=>(Jo p3 p0 (w64 (p1 + (w64 ((w64 (Int.tdiv (w64 (p2 - p1)) 4)) * 3)))) e27.2).bind fun e29=>some (e25.1,e27.1,e29.1,e29.2)) (some (w64 (p1 + (w64 ((w64 (Int.tdiv (w64 (p2 - p1)) 4)) * 1))),w64 (p1 + (w64 ((w64 (Int.tdiv (w64 (p2 - p1)) 4)) * 2))),w64 (p1 + (w64 ((w64 (Int.tdiv (w64 (p2 - p1)) 4)) * 3))),0))).bind fun b24=>(U1 p3 p0 b24.1 b24.2.1 b24.2.2.1 b24.2.2.2).bind fun e31=>some (e31.1,e31.2)) (some (w64 (p1 + (w64 ((w64 (Int.tdiv (w64 (p2 - p1)) 4)) * 2))),0))).bind fun b15=>cond (b15.2 == 0) (some (b15.1,1)) (cond (b15.2 == 12) (some (b15.1,2)) (some (b15.1,0)))
noncomputable def q21 {T : Type} (a119 : Int × Int × List T) : Option ((Int × Int × List T) ⊕ (List T)):=
  cond (decide (a119.1 < a119.2.1)) ((idx a119.2.2 a119.2.1).bind fun v123=>(idx a119.2.2 a119.1).bind fun v125=>(idx a119.2.2 a119.1).bind fun _=>(idx (a119.2.2.set a119.1.toNat v123) a119.2.1).bind fun _=>some (.inl (w64 (a119.1 + 1),w64 (a119.2.1 - 1),(a119.2.2.set a119.1.toNat v123).set a119.2.1.toNat v125))) (some (.inr a119.2.2))
noncomputable def q15 {T : Type} (_ : T→T→Option Int) (p0 : List T) (p1 : Int) (p2 : Int) : Option (List T):=
  (loop q21 (p1,w64 (p2 - 1),p0)).bind fun x0=>some x0
noncomputable def U3 {T : Type} (p2 : Int) (a438 : Int × Int × List T) (q1 : T→T→Option Int) (a681 : Int) : Option ((Int) ⊕ (Int)):=
  (cond (decide (a681 < p2)) ((idx a438.2.2 a681).bind fun v707=>(idx a438.2.2 (w64 (a681 - 1))).bind fun v709=>(q1 v707 v709).bind fun r711=>some (!(decide (r711 < 0)))) (some false)).bind fun c691=>cond c691 (some (.inl (w64 (a681 + 1)))) (some (.inr a681))
noncomputable def U4 {T : Type} (q1 : T→T→Option Int) (a838 : Int × List T) : Option ((Int × List T) ⊕ (List T)):=
  cond (decide (a838.1 ≥ 1)) ((idx a838.2 a838.1).bind fun v856=>(idx a838.2 (w64 (a838.1 - 1))).bind fun v858=>(q1 v856 v858).bind fun r860=>cond (!(decide (r860 < 0))) (some (.inr a838.2)) ((idx a838.2 (w64 (a838.1 - 1))).bind fun v862=>(idx a838.2 a838.1).bind fun v864=>(idx a838.2 a838.1).bind fun _=>(idx (a838.2.set a838.1.toNat v862) (w64 (a838.1 - 1))).bind fun _=>some (.inl (w64 (a838.1 - 1),(a838.2.set a838.1.toNat v862).set (w64 (a838.1 - 1)).toNat v864)))) (some (.inr a838.2))
noncomputable def U5 {T : Type} (p2 : Int) (q1 : T→T→Option Int) (b684 : Int) (a928 : Int × List T) : Option ((Int × List T) ⊕ (Int × List T)):=
  cond (decide (a928.1 < p2)) ((idx a928.2 a928.1).bind fun v946=>(idx a928.2 (w64 (a928.1 - 1))).bind fun v948=>(q1 v946 v948).bind fun r950=>cond (!(decide (r950 < 0))) (some (.inr (b684,a928.2))) ((idx a928.2 (w64 (a928.1 - 1))).bind fun v952=>(idx a928.2 a928.1).bind fun v954=>(idx a928.2 a928.1).bind fun _=>(idx (a928.2.set a928.1.toNat v952) (w64 (a928.1 - 1))).bind fun _=>some (.inl (w64 (a928.1 + 1),(a928.2.set a928.1.toNat v952).set (w64 (a928.1 - 1)).toNat v954)))) (some (.inr (b684,a928.2)))
noncomputable def Zk {T : Type} (p2 : Int) (q1 : T→T→Option Int) (p1 : Int) (a438 : Int × Int × List T) : Option ((Int × Int × List T) ⊕ ((List T) ⊕ (Bool × List T))):=
  cond (decide (a438.2.1 < 5)) (((loop (U3 p2 a438 q1) a438.1).bind fun b684=>cond (b684 == p2) (some (.inr (true,a438.2.2))) (cond (decide ((w64 (p2 - p1)) < 50)) (some (.inr (false,a438.2.2))) ((idx a438.2.2 (w64 (b684 - 1))).bind fun v713=>(idx a438.2.2 b684).bind fun v715=>(idx a438.2.2 b684).bind fun _=>(idx (a438.2.2.set b684.toNat v713) (w64 (b684 - 1))).bind fun _=>(cond (decide ((w64 (b684 - p1)) ≥ 2)) ((loop (U4 q1) (w64 (b684 - 1),(a438.2.2.set b684.toNat v713).set (w64 (b684 - 1)).toNat v715)).bind fun x0=>some x0) (some ((a438.2.2.set b684.toNat v713).set (w64 (b684 - 1)).toNat v715))).bind fun b779=>cond (decide ((w64 (p2 - b684)) ≥ 2)) ((loop (U5 p2 q1 b684) (w64 (b684 + 1),b779)).bind fun x0=>some (.inl x0)) (some (.inl (b684,b779))))) : Option ((Int × List T) ⊕ (Bool × List T))).bind fun m621=>(match m621 with | .inl b622=>some (.inl (b622.1,w64 (a438.2.1 + 1),b622.2)) | .inr x1=>some (.inr (.inr x1)))) (some (.inr (.inl a438.2.2)))
noncomputable def Jp {T : Type} (q1 : T→T→Option Int) (p0 : List T) (p1 : Int) (p2 : Int) : Option (Bool × List T):=
  (loop (Zk p2 q1 p1) (w64 (p1 + 1),0,p0) : Option ((List T) ⊕ (Bool × List T))).bind fun m439=>(match m439 with | .inl b441=>some (false,b441) | .inr x1=>some x1)
noncomputable def U6 {T : Type} (a318 : Int × Int × List T) (p1 : Int) (q1 : T→T→Option Int) (a378 : Int) : Option ((Int) ⊕ (Int)):=
  (cond (decide (a378≤a318.2.1)) ((idx a318.2.2 p1).bind fun v403=>(idx a318.2.2 a378).bind fun v405=>(q1 v403 v405).bind fun r407=>some (!(decide (r407 < 0)))) (some false)).bind fun c388=>cond c388 (some (.inl (w64 (a378 + 1)))) (some (.inr a378))
noncomputable def U7 {T : Type} (b381 : Int) (a318 : Int × Int × List T) (p1 : Int) (q1 : T→T→Option Int) (a463 : Int) : Option ((Int) ⊕ (Int)):=
  (cond (decide (b381≤a463)) ((idx a318.2.2 p1).bind fun v487=>(idx a318.2.2 a463).bind fun v489=>(q1 v487 v489).bind fun r491=>some (decide (r491 < 0))) (some false)).bind fun c473=>cond c473 (some (.inl (w64 (a463 - 1)))) (some (.inr a463))
noncomputable def q13 {T : Type} (p1 : Int) (q1 : T→T→Option Int) (a318 : Int × Int × List T) : Option ((Int × Int × List T) ⊕ (Int × List T)):=
  (loop (U6 a318 p1 q1) a318.1).bind fun b381=>(loop (U7 b381 a318 p1 q1) a318.2.1).bind fun b466=>cond (decide (b381 > b466)) (some (.inr (b381,a318.2.2))) ((idx a318.2.2 b466).bind fun v493=>(idx a318.2.2 b381).bind fun v495=>(idx a318.2.2 b381).bind fun _=>(idx (a318.2.2.set b381.toNat v493) b466).bind fun _=>some (.inl (w64 (b381 + 1),w64 (b466 - 1),(a318.2.2.set b381.toNat v493).set b466.toNat v495)))
noncomputable def q12 {T : Type} (q1 : T→T→Option Int) (p0 : List T) (p1 : Int) (p2 : Int) (p3 : Int) : Option (Int × List T):=
  (idx p0 p3).bind fun v101=>(idx p0 p1).bind fun v103=>(idx p0 p1).bind fun _=>(idx (p0.set p1.toNat v101) p3).bind fun _=>(loop (q13 p1 q1) (w64 (p1 + 1),w64 (p2 - 1),(p0.set p1.toNat v101).set p3.toNat v103)).bind fun b321=>some (b321.1,b321.2)
noncomputable def q1z {T : Type} (p2 : Int) (p0 : List T) (p1 : Int) (v101 : T) (p3 : Int) (v103 : T) (q1 : T→T→Option Int) (a163 : Int) : Option ((Int) ⊕ (Int)):=
  (cond (decide (a163≤(w64 (p2 - 1)))) ((idx ((p0.set p1.toNat v101).set p3.toNat v103) a163).bind fun v187=>(idx ((p0.set p1.toNat v101).set p3.toNat v103) p1).bind fun v189=>(q1 v187 v189).bind fun r191=>some (decide (r191 < 0))) (some false)).bind fun c173=>cond c173 (some (.inl (w64 (a163 + 1)))) (some (.inr a163))
noncomputable def q20 {T : Type} (b166 : Int) (p0 : List T) (p1 : Int) (v101 : T) (p3 : Int) (v103 : T) (q1 : T→T→Option Int) (a249 : Int) : Option ((Int) ⊕ (Int)):=
  (cond (decide (b166≤a249)) ((idx ((p0.set p1.toNat v101).set p3.toNat v103) a249).bind fun v274=>(idx ((p0.set p1.toNat v101).set p3.toNat v103) p1).bind fun v276=>(q1 v274 v276).bind fun r278=>some (!(decide (r278 < 0)))) (some false)).bind fun c259=>cond c259 (some (.inl (w64 (a249 - 1)))) (some (.inr a249))
noncomputable def Zt {T : Type} (a514 : Int × Int × List T) (p1 : Int) (q1 : T→T→Option Int) (a572 : Int) : Option ((Int) ⊕ (Int)):=
  (cond (decide (a572≤a514.2.1)) ((idx a514.2.2 a572).bind fun v596=>(idx a514.2.2 p1).bind fun v598=>(q1 v596 v598).bind fun r600=>some (decide (r600 < 0))) (some false)).bind fun c582=>cond c582 (some (.inl (w64 (a572 + 1)))) (some (.inr a572))
noncomputable def Zu {T : Type} (b575 : Int) (a514 : Int × Int × List T) (p1 : Int) (q1 : T→T→Option Int) (a658 : Int) : Option ((Int) ⊕ (Int)):=
  (cond (decide (b575≤a658)) ((idx a514.2.2 a658).bind fun v683=>(idx a514.2.2 p1).bind fun v685=>(q1 v683 v685).bind fun r687=>some (!(decide (r687 < 0)))) (some false)).bind fun c668=>cond c668 (some (.inl (w64 (a658 - 1)))) (some (.inr a658))
noncomputable def q14 {T : Type} (p1 : Int) (q1 : T→T→Option Int) (a514 : Int × Int × List T) : Option ((Int × Int × List T) ⊕ (Int × List T)):=
  (loop (Zt a514 p1 q1) a514.1).bind fun b575=>(loop (Zu b575 a514 p1 q1) a514.2.1).bind fun b661=>cond (decide (b575 > b661)) (some (.inr (b661,a514.2.2))) ((idx a514.2.2 b661).bind fun v689=>(idx a514.2.2 b575).bind fun v691=>(idx a514.2.2 b575).bind fun _=>(idx (a514.2.2.set b575.toNat v689) b661).bind fun _=>some (.inl (w64 (b575 + 1),w64 (b661 - 1),(a514.2.2.set b575.toNat v689).set b661.toNat v691)))
noncomputable def q11 {T : Type} (q1 : T→T→Option Int) (p0 : List T) (p1 : Int) (p2 : Int) (p3 : Int) : Option (Int × Bool × List T):=
  (idx p0 p3).bind fun v101=>(idx p0 p1).bind fun v103=>(idx p0 p1).bind fun _=>(idx (p0.set p1.toNat v101) p3).bind fun _=>(loop (q1z p2 p0 p1 v101 p3 v103 q1) (w64 (p1 + 1))).bind fun b166=>(loop (q20 b166 p0 p1 v101 p3 v103 q1) (w64 (p2 - 1))).bind fun b252=>cond (decide (b166 > b252)) ((idx ((p0.set p1.toNat v101).set p3.toNat v103) p1).bind fun v288=>(idx ((p0.set p1.toNat v101).set p3.toNat v103) b252).bind fun v290=>(idx ((p0.set p1.toNat v101).set p3.toNat v103) b252).bind fun _=>(idx (((p0.set p1.toNat v101).set p3.toNat v103).set b252.toNat v288) p1).bind fun _=>some (b252,true,(((p0.set p1.toNat v101).set p3.toNat v103).set b252.toNat v288).set p1.toNat v290)) ((idx ((p0.set p1.toNat v101).set p3.toNat v103) b252).bind fun v296=>(idx ((p0.set p1.toNat v101).set p3.toNat v103) b166).bind fun v298=>(idx ((p0.set p1.toNat v101).set p3.toNat v103) b166).bind fun _=>(idx (((p0.set p1.toNat v101).set p3.toNat v103).set b166.toNat v296) b252).bind fun _=>(loop (q14 p1 q1) (w64 (b166 + 1),w64 (b252 - 1),(((p0.set p1.toNat v101).set p3.toNat v103).set b166.toNat v296).set b252.toNat v298)).bind fun b517=>(idx b517.2 p1).bind fun v697=>(idx b517.2 b517.1).bind fun v699=>(idx b517.2 b517.1).bind fun _=>(idx (b517.2.set b517.1.toNat v697) p1).bind fun _=>some (b517.1,false,(b517.2.set b517.1.toNat v697).set p1.toNat v699))
noncomputable def Z8 {T : Type} (q1 : T→T→Option Int) (rec : List T→Int→Int→Int→Option (List T)) (a309 : Int × Int × Int × Bool × Bool × List T) : Option ((Int × Int × Int × Bool × Bool × List T) ⊕ (List T)):=
  cond (decide ((w64 (a309.2.1 - a309.1))≤12)) ((q1x q1 a309.2.2.2.2.2 a309.1 a309.2.1).bind fun e318=>(Qz e318.length a309.2.2.2.2.2.length).bind fun _=>some (.inr e318)) (cond (a309.2.2.1 == 0) ((q1w q1 a309.2.2.2.2.2 a309.1 a309.2.1).bind fun e328=>(Qz e328.length a309.2.2.2.2.2.length).bind fun _=>some (.inr e328)) ((cond (!a309.2.2.2.1) ((Ux q1 a309.2.2.2.2.2 a309.1 a309.2.1).bind fun e341=>(Qz e341.length a309.2.2.2.2.2.length).bind fun _=>some (w64 (a309.2.2.1 - 1),e341)) (some (a309.2.2.1,a309.2.2.2.2.2))).bind fun b340=>(q1v b340.2 a309.1 a309.2.1 q1).bind fun r346=>(cond (r346.2 == 2) ((q15 q1 b340.2 a309.1 a309.2.1).bind fun e356=>(Qz e356.length b340.2.length).bind fun _=>some (w64 ((w64 (a309.2.1 - 1)) - (w64 (r346.1 - a309.1))),1,e356)) (some (r346.1,r346.2,b340.2))).bind fun b355=>(cond a309.2.2.2.1 (some a309.2.2.2.2.1) (some false)).bind fun c361=>(cond c361 (some (b355.2.1 == 1)) (some false)).bind fun c365=>(cond c365 ((Jp q1 b355.2.2 a309.1 a309.2.1).bind fun e378=>(Qz e378.2.length b355.2.2.length).bind fun _=>cond e378.1 (some (.inr e378.2)) (some (.inl e378.2))) (some (.inl b355.2.2)) : Option ((List T) ⊕ (List T))).bind fun m376=>(match m376 with | .inl b377=>(cond (decide (a309.1 > 0)) ((idx b377 (w64 (a309.1 - 1))).bind fun v405=>(idx b377 b355.1).bind fun v407=>(q1 v405 v407).bind fun r409=>some (!(decide (r409 < 0)))) (some false)).bind fun c389=>cond c389 ((q12 q1 b377 a309.1 a309.2.1 b355.1).bind fun e416=>(Qz e416.2.length b377.length).bind fun _=>some (.inl (e416.1,a309.2.1,b340.1,a309.2.2.2.1,a309.2.2.2.2.1,e416.2))) ((q11 q1 b377 a309.1 a309.2.1 b355.1).bind fun e421=>(Qz e421.2.2.length b377.length).bind fun _=>cond (decide ((w64 (e421.1 - a309.1)) < (w64 (a309.2.1 - e421.1)))) ((rec e421.2.2 a309.1 e421.1 b340.1).bind fun e426=>(Qz e426.length e421.2.2.length).bind fun _=>some (.inl (w64 (e421.1 + 1),a309.2.1,b340.1,decide ((w64 (e421.1 - a309.1)) ≥ (w64 (Int.tdiv (w64 (a309.2.1 - a309.1)) 8))),e421.2.1,e426))) ((rec e421.2.2 (w64 (e421.1 + 1)) a309.2.1 b340.1).bind fun e431=>(Qz e431.length e421.2.2.length).bind fun _=>some (.inl (a309.1,e421.1,b340.1,decide ((w64 (a309.2.1 - e421.1)) ≥ (w64 (Int.tdiv (w64 (a309.2.1 - a309.1)) 8))),e421.2.1,e431)))) | .inr x1=>some (.inr x1))))
noncomputable def U8 {T : Type} (rec : List T→Int→Int→Int→Option (List T)) (q1 : T→T→Option Int) (p0 : List T) (p1 : Int) (p2 : Int) (p3 : Int) : Option (List T):=
  (loop (Z8 q1 rec) (p1,p2,p3,true,true,p0)).bind fun x0=>some x0
noncomputable def Yy {T : Type} : Nat→(T→T→Option Int)→List T→Int→Int→Int→Option (List T)
  | 0,_,_,_,_,_=>none
  | n + 1,q1,p0,p1,p2,p3=>U8 (Yy n q1) q1 p0 p1 p2 p3
noncomputable def q1u {T : Type} (q1 : T→T→Option Int) (p0 : List T) : Option (List T):=
  (Uw (IntKind.wrap .u64 (p0.length : Int))).bind fun r101=>(lim (fun n=>Yy n q1 p0 0 (p0.length : Int) r101)).bind fun e103=>(Qz e103.length p0.length).bind fun _=>some e103
end Go.Sh
namespace Go.Sh
open Go Go.Am
section
variable {T : Type} [Inhabited T] {P : T→Prop} {lt : T→T→Bool} {q : T→T→Option Int}
def Kq (q : T→T→Option Int) (lt : T→T→Bool) (P : T→Prop) : Prop:=∀ x y,P x→P y→∃ r,q x y = some r∧decide (r < 0) = lt x y
def AllP (n : Nat) (P : T→Prop) (d : Array T) : Prop:=d.size = n∧n≤1000000∧∀ i,i < n→P d[i]!
theorem gx {d : Array T} {k : Nat} (h : k < d.size) : idx d.toList (k : Int) = some d[k]!:=by
  simp [idx,h]
theorem gxs {d : Array T} {k : Nat} {i : Nat} {v : T} (h : k < d.size) : idx (d.toList.set i v) (k : Int) = some (d.setIfInBounds i v)[k]!:=by
  have : d.toList.set i v = (d.setIfInBounds i v).toList:=by simp
  rw [this];exact gx (by simpa using h)
theorem gswp {d : Array T} {i j : Nat} : (d.toList.set i d[j]!).set j d[i]! = (Sort.swp d i j).toList:=by simp [Sort.swp]
theorem AllP.swp {n : Nat} {d : Array T} (h : AllP n P d) {a b : Nat} (f : a < n) (hb : b < n) : AllP n P (Sort.swp d a b):=by
  obtain ⟨l,j,c⟩:=h;refine ⟨by rw [Sort.swp_size];exact l,j,fun k g=>?_⟩;rw [Sort.swp_get d q6 q6]
  repeat' split
  all_goals first | exact c _ f | exact c _ hb | exact c _ g
theorem AllP.perm {n : Nat} {d f : Array T} (h : AllP n P d) {a b : Nat} (_ : a≤b) (hb : b≤n) (hp : Sort.PermIn a b d f) : AllP n P f:=by
  obtain ⟨l,j,g⟩:=h;refine ⟨by rw [hp.1];exact l,j,fun k m=>?_⟩;by_cases c : k < a∨b≤k
  · rw [hp.2.1 k c];exact g k m
  · exact Sort.permIn_all d f a b P q6 hp (fun i hi o=>g i q6) k q6 q6
theorem w1m (j : Nat) (h : j < 2000000) : w64 (((j + 1 : Nat) : Int) - 1) = (j : Int):=by rw [Q8 q6];omega
theorem w1p (j : Nat) (h : j < 2000000) : w64 ((j : Int) + 1) = ((j + 1 : Nat) : Int):=by rw [Q8 q6];omega
theorem wsub {a b : Nat} (h : a≤b) (c : b < 2000000) : w64 ((b : Int) - (a : Int)) = ((b - a : Nat) : Int):=by rw [Q8 q6];omega
theorem qhn (o : Kq q lt P) (a n : Nat) : ∀ (j : Nat) (d : Array T),AllP n P d→j < n→loop (Jn (a : Int) q) ((j : Int),d.toList) = some (Sort.insInner lt a j d).toList∧AllP n P (Sort.insInner lt a j d)
  | 0,d,hd,hj=>by
    have c : decide (((0 : Nat) : Int) > (a : Int)) = false:=Q6 q6
    refine ⟨K7 ?_,hd⟩
    simp only [Jn,c,Q0,qh];rfl
  | j + 1,d,hd,hj=>by
    have p:=hd.1
    have s:=hd.2.1
    unfold Sort.insInner
    by_cases m : j + 1 > a
    · have c : decide (((j + 1 : Nat) : Int) > (a : Int)) = true:=Qb q6
      obtain ⟨r,l,h⟩:=o d[j + 1]! d[j]! (hd.2.2 _ hj) (hd.2.2 _ q6)
      by_cases f : lt d[j + 1]! d[j]! = true
      · rw [qp (by simp [m,f])]
        have g:=qhn o a n j _ (hd.swp (a:=j + 1) (b:=j) hj q6) q6
        refine ⟨?_,g.2⟩
        rw [Kc (a':=((j : Int),(Sort.swp d (j + 1) j).toList)) ?_]
        · exact g.1
        · simp only [Jn,c,qy,gx (d:=d) (k:=j + 1) q6,w1m j q6,gx (d:=d) (k:=j) q6,gxs (d:=d) (k:=j) q6,qh,l,h,f,Int.toNat_natCast,gswp]
      · rw [qr (by simp [f])]
        refine ⟨K7 ?_,hd⟩
        simp only [Jn,c,qy,gx (d:=d) (k:=j + 1) q6,w1m j q6,gx (d:=d) (k:=j) q6,qh,l,h,f,Q0]
    · rw [qr (by simp [m])]
      have c : decide (((j + 1 : Nat) : Int) > (a : Int)) = false:=Q6 q6
      refine ⟨K7 ?_,hd⟩
      simp only [Jn,c,Q0,qh]
theorem qoz (f : Kq q lt P) (a b n : Nat) (hb : b≤n) : ∀ (m i : Nat) (d : Array T),b - i = m→AllP n P d→i≤1000001→loop (q10 (b : Int) (a : Int) q) ((i : Int),d.toList) = some (Sort.insOuter lt a b i d).toList:=by
  intro m
  induction m with
  | zero=>
    intro i d h hd hi;unfold Sort.insOuter;rw [qr q6];have c : decide ((i : Int) < (b : Int)) = false:=Q6 q6;exact K7 (by simp only [q10,c,Q0])
  | succ m ih=>
    intro i d h hd hi;unfold Sort.insOuter;rw [qp q6];have c : decide ((i : Int) < (b : Int)) = true:=Qb q6;obtain ⟨j,g⟩:=qhn f a n i d hd q6;have:=hd.2.1;rw [Kc (a':=(((i + 1 : Nat) : Int),(Sort.insInner lt a i d).toList)) ?_]
    · exact ih (i + 1) _ q6 g q6
    · simp only [q10,c,qy,j,qh,w1p i q6]
theorem qp1 (f : Kq q lt P) {a b n : Nat} (hb : b≤n) (c : a≤b) {d : Array T} (hd : AllP n P d) : q1x q d.toList (a : Int) (b : Int) = some (Sort.insertionSort lt d a b).toList:=by
  have:=hd.2.1;unfold q1x Sort.insertionSort;rw [w1p a q6,qoz f a b n hb _ (a + 1) d rfl hd q6];rfl
theorem qum (hq : Kq q lt P) (hi first n : Nat) (hb : first + hi≤n) : ∀ (m root : Nat) (d : Array T),hi - root = m→AllP n P d→root≤1000000→(root < hi∨hi≤1)→loop (Jq (hi : Int) (first : Int) q) ((root : Int),d.toList) = some (Sort.siftDown lt hi first root d).toList∧AllP n P (Sort.siftDown lt hi first root d):=by
  intro m
  induction m using Nat.strongRecOn with
  | _ m ih=>
    intro root d hm hd hr ao;have an:=hd.1;have hn:=hd.2.1;unfold Sort.siftDown;have e1 : w64 ((w64 (2 * (root : Int))) + 1) = ((2 * root + 1 : Nat) : Int):=by rw [Q8 (x:=2 * (root : Int)) q6,Q8 q6];omega
    by_cases hc : 2 * root + 1 ≥ hi
    · rw [dif_pos hc];have y : decide (((2 * root + 1 : Nat) : Int) ≥ (hi : Int)) = true:=Qb q6;refine ⟨K7 ?_,hd⟩;simp only [Jq,e1,y,qy]
    · rw [dif_neg hc];have y : decide (((2 * root + 1 : Nat) : Int) ≥ (hi : Int)) = false:=Q6 q6;have e2 : w64 (((2 * root + 1 : Nat) : Int) + 1) = ((2 * root + 2 : Nat) : Int):=w1p _ q6;have e3 : w64 ((first : Int) + ((2 * root + 1 : Nat) : Int)) = ((first + (2 * root + 1) : Nat) : Int):=by rw [Q8 q6];omega
      have e4 : w64 ((first : Int) + ((2 * root + 2 : Nat) : Int)) = ((first + (2 * root + 2) : Nat) : Int):=by rw [Q8 q6];omega
      have e5 : w64 ((first : Int) + (root : Int)) = ((first + root : Nat) : Int):=by rw [Q8 q6];omega
      have e6 : w64 (((first + (2 * root + 1) : Nat) : Int) + 1) = ((first + (2 * root + 2) : Nat) : Int):=w1p _ q6;have x1:=gx (d:=d) (k:=first + (2 * root + 1)) q6;have x0:=gx (d:=d) (k:=first + root) q6
      have child : ∀ c,(c = 2 * root + 1∨c = 2 * root + 2)→c < hi→
          (∀ (h : (cond (decide (((2 * root + 2 : Nat) : Int) < (hi : Int))) ((idx d.toList ((first + (2 * root + 1) : Nat) : Int)).bind fun s=>(idx d.toList ((first + (2 * root + 2) : Nat) : Int)).bind fun g=>(q s g).bind fun l=>some (decide (l < 0))) (some false)) = some (decide (c = 2 * root + 2))),
          (loop (Jq (hi : Int) (first : Int) q) ((root : Int),d.toList) = some (if (!lt d[first + root]! d[first + c]!) = true then d else Sort.siftDown lt hi first c (Sort.swp d (first + root) (first + c))).toList)∧AllP n P (if (!lt d[first + root]! d[first + c]!) = true then d else Sort.siftDown lt hi first c (Sort.swp d (first + root) (first + c)))):=by
        intro c z ab h
        have xc:=gx (d:=d) (k:=first + c) q6
        have xs:=fun v=>gxs (d:=d) (k:=first + c) (i:=first + root) (v:=v) q6
        obtain ⟨r,j,p⟩:=hq d[first + root]! d[first + c]! (hd.2.2 _ q6) (hd.2.2 _ q6)
        have hb : (cond (decide (c = 2 * root + 2)) (some ((2 * root + 2 : Nat) : Int)) (some ((2 * root + 1 : Nat) : Int))) = some (c : Int):=by
          rcases z with rfl | rfl
          · simp
          · simp
        have ec : w64 ((first : Int) + (c : Int)) = ((first + c : Nat) : Int):=by rw [Q8 q6];omega
        by_cases f : lt d[first + root]! d[first + c]! = true
        · have t:=ih (hi - c) q6 c _ rfl (hd.swp (a:=first + root) (b:=first + c) q6 q6) q6 (.inl ab)
          rw [qr (by simp [f])]
          refine ⟨?_,t.2⟩
          rw [Kc (a':=((c : Int),(Sort.swp d (first + root) (first + c)).toList)) ?_]
          · exact t.1
          · simp only [Jq,e1,y,Q0,e2,e3,e6,h,qh,hb,e5,ec,x0,xc,xs,j,p,f,Bool.not_true,Int.toNat_natCast,gswp]
        · rw [qp (by simp [f])]
          refine ⟨K7 ?_,hd⟩
          simp only [Jq,e1,y,Q0,e2,e3,e6,h,qh,hb,e5,ec,x0,xc,j,p,f,Bool.not_false,qy]
      by_cases o : 2 * root + 2 < hi
      · have x2:=gx (d:=d) (k:=first + (2 * root + 2)) q6;have u : decide (((2 * root + 2 : Nat) : Int) < (hi : Int)) = true:=Qb q6;obtain ⟨r,j,p⟩:=hq d[first + (2 * root + 1)]! d[first + (2 * root + 2)]! (hd.2.2 _ q6) (hd.2.2 _ q6);by_cases f : lt d[first + (2 * root + 1)]! d[first + (2 * root + 2)]! = true
        · rw [qp (by simp only [Bool.and_eq_true,decide_eq_true_eq];exact ⟨q6,f⟩)];have:=child (2 * root + 2) (.inr rfl) o (by simp only [u,qy,x1,x2,qh,j,p,f,decide_true]);rw [dif_pos o];exact this
        · rw [qr (by simp only [Bool.and_eq_true,decide_eq_true_eq];rintro ⟨_,h⟩;exact f h)];have:=child (2 * root + 1) (.inl rfl) q6 (by simp only [u,qy,x1,x2,qh,j,p,f];simp);exact this
      · have u : decide (((2 * root + 2 : Nat) : Int) < (hi : Int)) = false:=Q6 q6;rw [qr (by simp only [Bool.and_eq_true,decide_eq_true_eq];rintro ⟨h,_⟩;omega)];have:=child (2 * root + 1) (.inl rfl) q6 (by simp only [u,Q0];simp);exact this
end
end Go.Sh
namespace Go.Sh
open Go Go.Am
section
variable {T : Type} [Inhabited T] {P : T→Prop} {lt : T→T→Bool} {q : T→T→Option Int}
theorem Jr {n : Nat} {d a : Array T} (h : AllP n P d) (b : AllP n P a) : Qz a.toList.length d.toList.length = some ():=by
  unfold Qz;rw [qp (by simp [h.1,b.1])]
theorem qh3 (f : Kq q lt P) (hi first n root : Nat) (hb : first + hi≤n) (d : Array T) (hd : AllP n P d) (c : root≤1000000) (g : root < hi∨hi≤1) : U9 q d.toList (root : Int) (hi : Int) (first : Int) = some (Sort.siftDown lt hi first root d).toList∧AllP n P (Sort.siftDown lt hi first root d):=by
  obtain ⟨a,b⟩:=qum f hi first n hb _ root d rfl hd c g;exact ⟨by unfold U9;rw [a];rfl,b⟩
theorem qhb (h : Kq q lt P) (a b n : Nat) (hb : b≤n) (c : a≤b) : ∀ (k : Nat) (d : Array T),AllP n P d→(k≤b - a∨b - a = 0∧k≤1)→loop (Uy q (b : Int) (a : Int)) ((k : Int) - 1,d.toList) = some (Sort.heapBuild lt (b - a) a k d).toList∧AllP n P (Sort.heapBuild lt (b - a) a k d)
  | 0,d,hd,hk=>by
    have f : decide (((0 : Nat) : Int) - 1 ≥ 0) = false:=Q6 q6
    refine ⟨K7 ?_,hd⟩
    simp only [Uy,f,Q0];rfl
  | k + 1,d,hd,hk=>by
    have o:=hd.2.1
    have e : (((k + 1 : Nat) : Int) - 1) = (k : Int):=by omega
    rw [e]
    have f : decide ((k : Int) ≥ 0) = true:=Qb q6
    obtain ⟨m,j⟩:=qh3 h (b - a) a n k q6 d hd q6 q6
    have g:=qhb h a b n hb c k _ j q6
    refine ⟨?_,g.2⟩
    rw [Kc (a':=((k : Int) - 1,(Sort.siftDown lt (b - a) a k d).toList)) ?_]
    · exact g.1
    · have l : w64 ((k : Int) - 1) = (k : Int) - 1:=Q8 q6
      simp only [Uy,f,qy,wsub c (by omega : b < 2000000),m,qh,Jr hd j,l]
theorem qhc (h : Kq q lt P) (a n : Nat) : ∀ (k : Nat) (d : Array T),AllP n P d→a + k≤n→loop (Uz (a : Int) q) ((k : Int) - 1,d.toList) = some (Sort.heapPop lt a k d).toList
  | 0,d,hd,hk=>by
    have f : decide (((0 : Nat) : Int) - 1 ≥ 0) = false:=Q6 q6
    refine K7 ?_
    simp only [Uz,f,Q0];rfl
  | k + 1,d,hd,hk=>by
    have l:=hd.1
    have r:=hd.2.1
    have e : (((k + 1 : Nat) : Int) - 1) = (k : Int):=by omega
    rw [e]
    have f : decide ((k : Int) ≥ 0) = true:=Qb q6
    have c:=hd.swp (a:=a) (b:=a + k) q6 q6
    obtain ⟨g,j⟩:=qh3 h k a n 0 q6 _ c q6 q6
    have o:=qhc h a n k _ j q6
    rw [Kc (a':=((k : Int) - 1,(Sort.siftDown lt k a 0 (Sort.swp d a (a + k))).toList)) ?_]
    · exact o
    · have m : w64 ((k : Int) - 1) = (k : Int) - 1:=Q8 q6
      have p : w64 ((a : Int) + (k : Int)) = ((a + k : Nat) : Int):=by rw [Q8 q6];omega
      have g : U9 q (Sort.swp d a (a + k)).toList 0 (k : Int) (a : Int) = _:=g
      simp only [Uz,f,qy,p,gx (d:=d) (k:=a) q6,gx (d:=d) (k:=a + k) q6,gxs (d:=d) (k:=a + k) q6,qh,Int.toNat_natCast,gswp,g,Jr c j,m]
theorem qot (c : Kq q lt P) {a b n : Nat} (hb : b≤n) (h : a < b) {d : Array T} (hd : AllP n P d) : q1w q d.toList (a : Int) (b : Int) = some (Sort.heapSort lt d a b).toList:=by
  have m:=hd.2.1;have f : w64 ((b : Int) - (a : Int)) = ((b - a : Nat) : Int):=wsub q6 q6;have g : w64 (((b - a : Nat) : Int) - 1) = ((b - a : Nat) : Int) - 1:=Q8 q6
  have j : w64 (Int.tdiv (((b - a : Nat) : Int) - 1) 2) = (((b - a - 1) / 2 + 1 : Nat) : Int) - 1:=by
    rw [Int.tdiv_eq_ediv_of_nonneg q6,Q8 q6];omega
  obtain ⟨l,k⟩:=qhb c a b n hb q6 ((b - a - 1) / 2 + 1) d hd q6;unfold q1w Sort.heapSort;rw [f,g,j,l,qh,qhc c a n (b - a) _ k q6];rfl
theorem qta (n : Nat) : ∀ (m i j : Nat) (d : Array T),j - i = m→AllP n P d→j < n→i≤1000001→loop (q21 (T:=T)) ((i : Int),(j : Int),d.toList) = some (Sort.reverseLoop i j d).toList:=by
  intro m
  induction m using Nat.strongRecOn with
  | _ m ih=>
    intro i j d h hd c hi;have f:=hd.1;have l:=hd.2.1;unfold Sort.reverseLoop;by_cases b : i < j
    · rw [qp b];have a : decide ((i : Int) < (j : Int)) = true:=Qb q6;have g : w64 ((j : Int) - 1) = ((j - 1 : Nat) : Int):=by rw [Q8 q6];omega
      rw [Kc (a':=(((i + 1 : Nat) : Int),((j - 1 : Nat) : Int),(Sort.swp d i j).toList)) ?_]
      · exact ih _ q6 _ _ _ rfl (hd.swp q6 c) q6 q6
      · simp only [q21,a,qy,gx (d:=d) (k:=i) q6,gx (d:=d) (k:=j) q6,gxs (d:=d) (k:=j) q6,qh,Int.toNat_natCast,gswp,g,w1p i q6]
    · rw [qr b];have a : decide ((i : Int) < (j : Int)) = false:=Q6 q6;exact K7 (by simp only [q21,a,Q0])
theorem qtb {a b n : Nat} (hb : b≤n) (f : a < b) {d : Array T} (hd : AllP n P d) : q15 q d.toList (a : Int) (b : Int) = some (Sort.reverseRange d a b).toList:=by
  have g:=hd.2.1;have c : w64 ((b : Int) - 1) = ((b - 1 : Nat) : Int):=by rw [Q8 q6];omega
  unfold q15 Sort.reverseRange;rw [c,qta n _ a (b - 1) d rfl hd q6 q6];rfl
theorem qdt (h : Kq q lt P) {n : Nat} {d : Array T} (hd : AllP n P d) {a b s : Nat} (f : a < n) (hb : b < n) (hs : s≤1000) : U2 q d.toList (a : Int) (b : Int) (s : Int) = some (((Sort.order2 lt d a b s).1 : Int),((Sort.order2 lt d a b s).2.1 : Int),((Sort.order2 lt d a b s).2.2 : Int))∧(Sort.order2 lt d a b s).1 < n∧(Sort.order2 lt d a b s).2.1 < n∧(Sort.order2 lt d a b s).2.2≤s + 1:=by
  have g:=hd.1;obtain ⟨r,l,j⟩:=h d[b]! d[a]! (hd.2.2 _ hb) (hd.2.2 _ f);unfold U2 Sort.order2;rw [gx (d:=d) (k:=b) q6,gx (d:=d) (k:=a) q6];simp only [qh,l,j];by_cases c : lt d[b]! d[a]! = true
  · rw [qp c];simp only [c,qy,w1p s q6];exact ⟨trivial,hb,f,q6⟩
  · rw [qr c];have : lt d[b]! d[a]! = false:=by simpa using c
    simp only [this,Q0];exact ⟨trivial,f,hb,q6⟩
theorem qde (f : Kq q lt P) {n : Nat} {d : Array T} (hd : AllP n P d) {a b c s : Nat} (l : a < n) (hb : b < n) (p : c < n) (hs : s≤900) : U1 q d.toList (a : Int) (b : Int) (c : Int) (s : Int) = some (((Sort.median lt d a b c s).1 : Int),((Sort.median lt d a b c s).2 : Int))∧(Sort.median lt d a b c s).1 < n∧(Sort.median lt d a b c s).2≤s + 3:=by
  obtain ⟨k,m,b1,c1⟩:=qdt f hd l hb (s:=s) q6;obtain ⟨j,o,r,c2⟩:=qdt f hd b1 p (s:=(Sort.order2 lt d a b s).2.2) q6;obtain ⟨g,t,h,c3⟩:=qdt f hd m o (s:=(Sort.order2 lt d (Sort.order2 lt d a b s).2.1 c (Sort.order2 lt d a b s).2.2).2.2) q6;unfold U1 Sort.median;simp only [k,j,g,qh];exact ⟨trivial,h,q6⟩
theorem qdd (h : Kq q lt P) {n : Nat} {d : Array T} (hd : AllP n P d) {a s : Nat} (l : 1≤a) (f : a + 1 < n) (hs : s≤900) : Jo q d.toList (a : Int) (s : Int) = some (((Sort.medianAdjacent lt d a s).1 : Int),((Sort.medianAdjacent lt d a s).2 : Int))∧(Sort.medianAdjacent lt d a s).1 < n∧(Sort.medianAdjacent lt d a s).2≤s + 3:=by
  have m:=hd.2.1;obtain ⟨k,j,g⟩:=qde h hd (a:=a - 1) (b:=a) (c:=a + 1) (s:=s) q6 q6 f hs;have e : w64 ((a : Int) - 1) = ((a - 1 : Nat) : Int):=by rw [Q8 q6];omega
  unfold Jo Sort.medianAdjacent;rw [e,w1p a q6,k];exact ⟨rfl,j,g⟩
def qcz : Sort.Hint→Int
  | .unknown=>0
  | .increasing=>1
  | .decreasing=>2
theorem qn5 (u : Kq q lt P) {n : Nat} {d : Array T} (hd : AllP n P d) {a b : Nat} (ag : a < b) (hb : b≤n) : q1v d.toList (a : Int) (b : Int) q = some (((Sort.choosePivot lt d a b).1 : Int),qcz (Sort.choosePivot lt d a b).2):=by
  have hn:=hd.2.1;have e0 : w64 ((b : Int) - (a : Int)) = ((b - a : Nat) : Int):=wsub q6 q6
  have e1 : w64 (Int.tdiv ((b - a : Nat) : Int) 4) = (((b - a) / 4 : Nat) : Int):=by
    rw [Int.tdiv_eq_ediv_of_nonneg q6,Q8 q6];omega
  have em : ∀ k : Nat,k≤3→w64 ((a : Int) + (w64 ((((b - a) / 4 : Nat) : Int) * (k : Int)))) = ((a + (b - a) / 4 * k : Nat) : Int):=by
    intro k hk;have : (b - a) / 4 * k≤(b - a) / 4 * 3:=Nat.mul_le_mul_left _ hk;have e : ((((b - a) / 4 : Nat) : Int) * (k : Int)) = (((b - a) / 4 * k : Nat) : Int):=by push_cast;rfl
    rw [e,Q8 (x:=(((b - a) / 4 * k : Nat) : Int)) q6,Q8 q6];omega
  have l:=em 1 q6;have h:=em 2 q6;have p:=em 3 q6
  have f : ∀ r : Nat × Nat,(cond (((r.2 : Int)) == 0) (some ((r.1 : Int),(1 : Int))) (cond (((r.2 : Int)) == 12) (some ((r.1 : Int),(2 : Int))) (some ((r.1 : Int),(0 : Int))))) = some ((r.1 : Int),qcz (if r.2 = 0 then Sort.Hint.increasing else if r.2 = 12 then Sort.Hint.decreasing else Sort.Hint.unknown)):=by
    intro r;by_cases v : r.2 = 0
    · have : ((r.2 : Int) == 0) = true:=by simp [v]
      simp only [this,qy,qp v];rfl
    · have t0 : ((r.2 : Int) == 0) = false:=by simp;omega
      by_cases o : r.2 = 12
      · have : ((r.2 : Int) == 12) = true:=by simp;omega
        simp only [t0,this,qy,Q0,qr v,qp o];rfl
      · have : ((r.2 : Int) == 12) = false:=by simp;omega
        simp only [t0,this,Q0,qr v,qr o];rfl
  unfold q1v Sort.choosePivot;simp only [e0,e1];by_cases h8 : b - a ≥ 8
  · have y : decide (((b - a : Nat) : Int) ≥ 8) = true:=Qb q6;by_cases t : b - a ≥ 50
    · have g : decide (((b - a : Nat) : Int) ≥ 50) = true:=Qb q6;obtain ⟨x1,y1,z1⟩:=qdd u hd (a:=a + (b - a) / 4 * 1) (s:=0) q6 q6 q6;obtain ⟨x2,y2,z2⟩:=qdd u hd (a:=a + (b - a) / 4 * 2) (s:=(Sort.medianAdjacent lt d (a + (b - a) / 4 * 1) 0).2) q6 q6 q6;obtain ⟨x3,y3,z3⟩:=qdd u hd (a:=a + (b - a) / 4 * 3) (s:=(Sort.medianAdjacent lt d (a + (b - a) / 4 * 2) (Sort.medianAdjacent lt d (a + (b - a) / 4 * 1) 0).2).2) q6 q6 q6;obtain ⟨j,y4,z4⟩:=qde u hd y1 y2 y3 (s:=(Sort.medianAdjacent lt d (a + (b - a) / 4 * 3) (Sort.medianAdjacent lt d (a + (b - a) / 4 * 2) (Sort.medianAdjacent lt d (a + (b - a) / 4 * 1) 0).2).2).2) q6;simp only [qp h8,qp t,y,g,qy];have z : w64 ((a : Int) + (w64 ((((b - a) / 4 : Nat) : Int) * 1))) = _:=l;have m : w64 ((a : Int) + (w64 ((((b - a) / 4 : Nat) : Int) * 2))) = _:=h;have g3 : w64 ((a : Int) + (w64 ((((b - a) / 4 : Nat) : Int) * 3))) = _:=p;have x1 : Jo q d.toList ((a + (b - a) / 4 * 1 : Nat) : Int) 0 = _:=x1;rw [z,m,g3];simp only [x1,x2,x3,j,qh];exact f _
    · have g : decide (((b - a : Nat) : Int) ≥ 50) = false:=Q6 q6;obtain ⟨j,y4,z4⟩:=qde u hd (a:=a + (b - a) / 4 * 1) (b:=a + (b - a) / 4 * 2) (c:=a + (b - a) / 4 * 3) (s:=0) q6 q6 q6 q6;simp only [qp h8,qr t,y,g,qy,Q0];have z : w64 ((a : Int) + (w64 ((((b - a) / 4 : Nat) : Int) * 1))) = _:=l;have m : w64 ((a : Int) + (w64 ((((b - a) / 4 : Nat) : Int) * 2))) = _:=h;have g3 : w64 ((a : Int) + (w64 ((((b - a) / 4 : Nat) : Int) * 3))) = _:=p;have j : U1 q d.toList ((a + (b - a) / 4 * 1 : Nat) : Int) ((a + (b - a) / 4 * 2 : Nat) : Int) ((a + (b - a) / 4 * 3 : Nat) : Int) 0 = _:=j;rw [z,m,g3];simp only [j,qh];exact f _
  · have y : decide (((b - a : Nat) : Int) ≥ 8) = false:=Q6 q6;simp only [qr h8,y,Q0];have m : w64 ((a : Int) + (w64 ((((b - a) / 4 : Nat) : Int) * 2))) = _:=h;rw [m];simp only [qh];exact f (a + (b - a) / 4 * 2,0)
end
end Go.Sh
namespace Go.Sh
open Go Go.Am
theorem Zm (n : Int) : IntKind.u64.wrap n = n % 18446744073709551616:=by simp [IntKind.wrap,IntKind.bits,IntKind.signed]
theorem qzb (n : Int) : IntKind.u8.wrap n = n % 256:=by simp [IntKind.wrap,IntKind.bits,IntKind.signed]
theorem xorU (a b : Nat) (c : a < 18446744073709551616) (hb : b < 18446744073709551616) : xorI .u64 (a : Int) (b : Int) = ((a ^^^ b : Nat) : Int):=by
  have d : a ^^^ b < 2 ^ 64:=Nat.xor_lt_two_pow q6 q6;unfold xorI;rw [Zm];show ((BitVec.ofInt 64 (a : Int) ^^^ BitVec.ofInt 64 (b : Int)).toNat : Int) % _ = _;rw [BitVec.ofInt_natCast,BitVec.ofInt_natCast,BitVec.toNat_xor,BitVec.toNat_ofNat,BitVec.toNat_ofNat,Nat.mod_eq_of_lt (a:=a) q6,Nat.mod_eq_of_lt (a:=b) q6];omega
theorem andU (a b : Nat) (c : a < 18446744073709551616) (hb : b < 18446744073709551616) : andI .u64 (a : Int) (b : Int) = ((a &&& b : Nat) : Int):=by
  have d : a &&& b≤a:=Nat.and_le_left;unfold andI;rw [Zm];show ((BitVec.ofInt 64 (a : Int) &&& BitVec.ofInt 64 (b : Int)).toNat : Int) % _ = _;rw [BitVec.ofInt_natCast,BitVec.ofInt_natCast,BitVec.toNat_and,BitVec.toNat_ofNat,BitVec.toNat_ofNat,Nat.mod_eq_of_lt (a:=a) q6,Nat.mod_eq_of_lt (a:=b) q6];omega
theorem qze (X : Nat) (h : X < 18446744073709551616) : q22 (X : Int) = some ((Sort.xorNextN X : Nat) : Int):=by
  obtain ⟨A,a⟩ : ∃ A : Nat,A = X ^^^ (X * 8192 % 18446744073709551616):=⟨_,rfl⟩
  obtain ⟨B,b⟩ : ∃ B : Nat,B = A ^^^ (A / 128):=⟨_,rfl⟩
  have k : A < 18446744073709551616:=by rw [a];exact Nat.xor_lt_two_pow (n:=64) q6 q6
  have j : B < 18446744073709551616:=by rw [b];exact Nat.xor_lt_two_pow (n:=64) q6 q6
  have c : xorI .u64 (X : Int) (IntKind.u64.wrap ((X : Int) * 2 ^ 13)) = (A : Int):=by
    rw [Zm,show ((X : Int) * 2 ^ 13 % 18446744073709551616) = ((X * 8192 % 18446744073709551616 : Nat) : Int) by omega,xorU _ _ h q6,a]
  have d : xorI .u64 (A : Int) (Int.fdiv (A : Int) (2 ^ 7)) = (B : Int):=by
    rw [Int.fdiv_eq_ediv_of_nonneg _ qt,show ((A : Int) / 2 ^ 7) = ((A / 128 : Nat) : Int) by omega,xorU _ _ k q6,b]
  have g : xorI .u64 (B : Int) (IntKind.u64.wrap ((B : Int) * 2 ^ 17)) = ((B ^^^ (B * 131072 % 18446744073709551616) : Nat) : Int):=by
    rw [Zm,show ((B : Int) * 2 ^ 17 % 18446744073709551616) = ((B * 131072 % 18446744073709551616 : Nat) : Int) by omega,xorU _ _ j q6]
  have f : Sort.xorNextN X = B ^^^ (B * 131072 % 18446744073709551616):=by unfold Sort.xorNextN;simp only [];rw [← a,← b]
  unfold q22;rw [c,d,g,f]
theorem qyr : ∀ k : Nat,k < 256→q47 q4j (k : Int) = some ((Sort.bitsLen k : Nat) : Int):=by
  have key : ∀ k : Fin 256,(q4j[k.1]?).map (fun b=>b.toNat) = some (Sort.bitsLen k.1):=by decide +kernel
  intro k a;have:=key ⟨k,a⟩;unfold q47;rw [qp q6,Int.toNat_natCast];simp only [Ks] at this ⊢;obtain ⟨b,d,c⟩:=this;exact ⟨b,d,by rw [c]⟩
theorem qfb (n k : Nat) (h : 2 ^ k≤n) : Sort.bitsLen n = Sort.bitsLen (n / 2 ^ k) + k:=by
  have hp : 0 < 2 ^ k:=Nat.two_pow_pos k;apply Nat.le_antisymm
  · rw [Sort.bitsLen_le_iff];have:=Sort.lt_two_pow_bitsLen (n / 2 ^ k);rw [Nat.pow_add];exact (Nat.div_lt_iff_lt_mul hp).1 this
  · have b : k < Sort.bitsLen n:=by
      rcases Nat.lt_or_ge k (Sort.bitsLen n) with a | a
      · exact a
      · have:=(Sort.bitsLen_le_iff n k).1 a;omega
    have : Sort.bitsLen (n / 2 ^ k)≤Sort.bitsLen n - k:=by
      rw [Sort.bitsLen_le_iff,Nat.div_lt_iff_lt_mul hp,← Nat.pow_add,Nat.sub_add_cancel q6];exact Sort.lt_two_pow_bitsLen n
    omega
theorem qhv (n : Nat) (j : n≤1000000) : Uw (n : Int) = some ((Sort.bitsLen n : Nat) : Int):=by
  unfold Uw q33;have d : decide ((n : Int) ≥ 4294967296) = false:=Q6 q6;simp only [d,Q0,qh]
  have fin : ∀ m s : Nat,m < 256→s≤16→(q47 q4j (IntKind.u8.wrap (m : Int))).bind (fun c=>some (w64 ((s : Int) + (w64 c)))) = some ((Sort.bitsLen m + s : Nat) : Int):=by
    intro m s f hs;rw [qzb,show ((m : Int) % 256) = (m : Int) by omega,qyr m f];have : Sort.bitsLen m≤8:=(Sort.bitsLen_le_iff m 8).2 q6;rw [qh,Q8 (x:=((Sort.bitsLen m : Nat) : Int)) q6,Q8 q6];congr 1;omega
  by_cases h : n ≥ 65536
  · have b : decide ((n : Int) ≥ 65536) = true:=Qb q6;have e : Int.fdiv (n : Int) (2 ^ 16) = ((n / 65536 : Nat) : Int):=by rw [Int.fdiv_eq_ediv_of_nonneg _ qt];omega
    have a : decide (((n / 65536 : Nat) : Int) ≥ 256) = false:=Q6 q6;have w : w64 (0 + 16) = ((16 : Nat) : Int):=by rw [Q8 q6];rfl
    simp only [b,qy,qh,e,a,Q0,w];rw [fin (n / 65536) 16 q6 q6,qh,qfb n 16 q6]
  · have b : decide ((n : Int) ≥ 65536) = false:=Q6 q6;simp only [b,Q0,qh];by_cases g : n ≥ 256
    · have a : decide ((n : Int) ≥ 256) = true:=Qb q6;have e : Int.fdiv (n : Int) (2 ^ 8) = ((n / 256 : Nat) : Int):=by rw [Int.fdiv_eq_ediv_of_nonneg _ qt];omega
      have w : w64 (0 + 8) = ((8 : Nat) : Int):=by rw [Q8 q6];rfl
      simp only [a,qy,qh,e,w];rw [fin (n / 256) 8 q6 q6,qh,qfb n 8 q6]
    · have a : decide ((n : Int) ≥ 256) = false:=Q6 q6;simp only [a,Q0,qh];have:=fin n 0 q6 q6;exact congrArg (fun o=>Option.bind o some) this
theorem qpz (n : Nat) (b : n≤1000000) : q1y (n : Int) = some ((1 <<< Sort.bitsLen n : Nat) : Int):=by
  unfold q1y;rw [Zm,show ((n : Int) % 18446744073709551616) = (n : Int) by omega,qhv n b];have a : Sort.bitsLen n≤20:=(Sort.bitsLen_le_iff n 20).2 q6;have h : (2 : Nat) ^ Sort.bitsLen n≤2 ^ 20:=Nat.pow_le_pow_right qt a;have e : min (Sort.bitsLen n) IntKind.u64.bits = Sort.bitsLen n:=Nat.min_eq_left (by show _≤64;omega);simp only [qh,shlK];rw [qr q6,Int.toNat_natCast,e,Zm,Nat.one_shiftLeft,qh,show ((1 : Int) * (2 : Int) ^ Sort.bitsLen n) = ((2 ^ Sort.bitsLen n : Nat) : Int) by push_cast;omega];generalize (2 : Nat) ^ Sort.bitsLen n = p at h;congr 1;omega
section
variable {T : Type} [Inhabited T] {P : T→Prop} {lt : T→T→Bool} {q : T→T→Option Int}
theorem qc8 {a b n : Nat} (hb : b≤n) (h8 : 8≤b - a) {d : Array T} (hd : AllP n P d) (k : Nat) (hk : k≤2) (r : UInt64) :
    U0 (a : Int) (b : Int) ((1 <<< Sort.bitsLen (b - a) : Nat) : Int) (((a + (b - a) / 4 * 2 - 1 + k : Nat) : Int),d.toList,((r.toNat : Nat) : Int)) =
      some (.inl (((a + (b - a) / 4 * 2 - 1 + k + 1 : Nat) : Int),(Sort.breakStep a (b - a) (1 <<< Sort.bitsLen (b - a)) (r,d) (a + (b - a) / 4 * 2 - 1 + k)).2.toList,(((Sort.breakStep a (b - a) (1 <<< Sort.bitsLen (b - a)) (r,d) (a + (b - a) / 4 * 2 - 1 + k)).1.toNat : Nat) : Int)))∧
      AllP n P (Sort.breakStep a (b - a) (1 <<< Sort.bitsLen (b - a)) (r,d) (a + (b - a) / 4 * 2 - 1 + k)).2:=by
  have ad:=hd.1;have hn:=hd.2.1;have s : r.toNat < 18446744073709551616:=r.toNat_lt;have e0 : w64 ((b : Int) - (a : Int)) = ((b - a : Nat) : Int):=wsub q6 q6
  have u : w64 (Int.tdiv ((b - a : Nat) : Int) 4) = (((b - a) / 4 : Nat) : Int):=by
    rw [Int.tdiv_eq_ediv_of_nonneg q6,Q8 q6];omega
  have x : w64 ((((b - a) / 4 : Nat) : Int) * 2) = (((b - a) / 4 * 2 : Nat) : Int):=by rw [Q8 q6];omega
  have y : w64 ((a : Int) + (((b - a) / 4 * 2 : Nat) : Int)) = ((a + (b - a) / 4 * 2 : Nat) : Int):=by rw [Q8 q6];omega
  have e4 : w64 (((a + (b - a) / 4 * 2 : Nat) : Int) + 1) = ((a + (b - a) / 4 * 2 + 1 : Nat) : Int):=w1p _ q6;have h0 : decide (((a + (b - a) / 4 * 2 - 1 + k : Nat) : Int)≤((a + (b - a) / 4 * 2 + 1 : Nat) : Int)) = true:=Qb q6;have hx:=qze r.toNat s;have z : Sort.xorNextN r.toNat < 18446744073709551616:=Sort.xorNextN_lt _ s;have f : Sort.bitsLen (b - a)≤20:=(Sort.bitsLen_le_iff _ 20).2 q6;have h : (2 : Nat) ^ Sort.bitsLen (b - a)≤2 ^ 20:=Nat.pow_le_pow_right qt f;have hp1 : 0 < (2 : Nat) ^ Sort.bitsLen (b - a):=Nat.two_pow_pos _;have ai:=Sort.two_pow_bitsLen_le (n:=b - a) q6;have c : (1 : Nat) <<< Sort.bitsLen (b - a) = 2 ^ Sort.bitsLen (b - a):=Nat.one_shiftLeft _
  have em : IntKind.u64.wrap (((1 <<< Sort.bitsLen (b - a) : Nat) : Int) - 1) = ((1 <<< Sort.bitsLen (b - a) - 1 : Nat) : Int):=by
    rw [Zm,c];generalize (2 : Nat) ^ Sort.bitsLen (b - a) = p at h hp1;omega
  have g : (Sort.xorNextN r.toNat) &&& (1 <<< Sort.bitsLen (b - a) - 1) < 2 ^ Sort.bitsLen (b - a):=by
    rw [c];have : (Sort.xorNextN r.toNat) &&& (2 ^ Sort.bitsLen (b - a) - 1)≤2 ^ Sort.bitsLen (b - a) - 1:=Nat.and_le_right;omega
  have q:=andU (Sort.xorNextN r.toNat) (1 <<< Sort.bitsLen (b - a) - 1) z (by rw [c];omega);unfold Sort.breakStep;simp only [Sort.xorNext_toNat];generalize hm : (Sort.xorNextN r.toNat) &&& (1 <<< Sort.bitsLen (b - a) - 1) = m at g q;have ab : m < 2 * (b - a):=by omega
  have ew : w64 (m : Int) = (m : Int):=Q8 q6
  have l : (cond (decide ((m : Int) ≥ ((b - a : Nat) : Int))) (some (w64 ((m : Int) - ((b - a : Nat) : Int)))) (some (m : Int))) = some (((if m ≥ b - a then m - (b - a) else m) : Nat) : Int):=by
    by_cases j : m ≥ b - a
    · have t : decide ((m : Int) ≥ ((b - a : Nat) : Int)) = true:=Qb q6;rw [t,qy,qp j,wsub j q6]
    · have t : decide ((m : Int) ≥ ((b - a : Nat) : Int)) = false:=Q6 q6;rw [t,Q0,qr j]
  have v : (if m ≥ b - a then m - (b - a) else m) < b - a:=by split <;> omega
  generalize (if m ≥ b - a then m - (b - a) else m) = o at l v;have eo : w64 ((a : Int) + (o : Int)) = ((a + o : Nat) : Int):=by rw [Q8 q6];omega
  refine ⟨?_,hd.swp q6 q6⟩;simp only [U0,e0,u,x,y,e4,h0,qy,hx,qh,em,q,ew,l,eo,gx (d:=d) (k:=a + o) q6,gx (d:=d) (k:=a + (b - a) / 4 * 2 - 1 + k) q6,gxs (d:=d) (k:=a + o) q6,Int.toNat_natCast,gswp,w1p (a + (b - a) / 4 * 2 - 1 + k) q6]
theorem qm5 {a b n : Nat} (hb : b≤n) (u : a < b) {d : Array T} (hd : AllP n P d) : Ux q d.toList (a : Int) (b : Int) = some (Sort.breakPatterns d a b).toList:=by
  have hn:=hd.2.1;have k : w64 ((b : Int) - (a : Int)) = ((b - a : Nat) : Int):=wsub q6 q6;unfold Ux Sort.breakPatterns;simp only [k];by_cases f : b - a ≥ 8
  · have t : decide (((b - a : Nat) : Int) ≥ 8) = true:=Qb q6;rw [t,qy,qp f,qpz _ q6,qh]
    have g : w64 (Int.tdiv ((b - a : Nat) : Int) 4) = (((b - a) / 4 : Nat) : Int):=by
      rw [Int.tdiv_eq_ediv_of_nonneg q6,Q8 q6];omega
    have j : w64 ((((b - a) / 4 : Nat) : Int) * 2) = (((b - a) / 4 * 2 : Nat) : Int):=by rw [Q8 q6];omega
    have l : w64 ((a : Int) + (((b - a) / 4 * 2 : Nat) : Int)) = ((a + (b - a) / 4 * 2 : Nat) : Int):=by rw [Q8 q6];omega
    have s : w64 (((a + (b - a) / 4 * 2 : Nat) : Int) - 1) = ((a + (b - a) / 4 * 2 - 1 : Nat) : Int):=by rw [Q8 q6];omega
    have v : IntKind.u64.wrap ((b - a : Nat) : Int) = (((UInt64.ofNat (b - a)).toNat : Nat) : Int):=by
      rw [Zm,UInt64.toNat_ofNat'];omega
    rw [g,j,l,s,v];obtain ⟨h,p⟩:=qc8 hb f hd 0 q6 (UInt64.ofNat (b - a));obtain ⟨m,r⟩:=qc8 hb f p 1 q6 (Sort.breakStep a (b - a) (1 <<< Sort.bitsLen (b - a)) (UInt64.ofNat (b - a),d) (a + (b - a) / 4 * 2 - 1 + 0)).1;obtain ⟨o,y⟩:=qc8 hb f r 2 q6 (Sort.breakStep a (b - a) (1 <<< Sort.bitsLen (b - a)) ((Sort.breakStep a (b - a) (1 <<< Sort.bitsLen (b - a)) (UInt64.ofNat (b - a),d) (a + (b - a) / 4 * 2 - 1 + 0)).1,(Sort.breakStep a (b - a) (1 <<< Sort.bitsLen (b - a)) (UInt64.ofNat (b - a),d) (a + (b - a) / 4 * 2 - 1 + 0)).2) (a + (b - a) / 4 * 2 - 1 + 1)).1;simp only [Nat.add_zero,Prod.eta] at h m o p r y;rw [Kc h,Kc m,Kc o]
    have c : U0 (T:=T) (a : Int) (b : Int) ((1 <<< Sort.bitsLen (b - a) : Nat) : Int) (((a + (b - a) / 4 * 2 - 1 + 2 + 1 : Nat) : Int),(Sort.breakStep a (b - a) (1 <<< Sort.bitsLen (b - a)) (Sort.breakStep a (b - a) (1 <<< Sort.bitsLen (b - a)) (Sort.breakStep a (b - a) (1 <<< Sort.bitsLen (b - a)) (UInt64.ofNat (b - a),d) (a + (b - a) / 4 * 2 - 1)) (a + (b - a) / 4 * 2 - 1 + 1)) (a + (b - a) / 4 * 2 - 1 + 2)).2.toList,(((Sort.breakStep a (b - a) (1 <<< Sort.bitsLen (b - a)) (Sort.breakStep a (b - a) (1 <<< Sort.bitsLen (b - a)) (Sort.breakStep a (b - a) (1 <<< Sort.bitsLen (b - a)) (UInt64.ofNat (b - a),d) (a + (b - a) / 4 * 2 - 1)) (a + (b - a) / 4 * 2 - 1 + 1)) (a + (b - a) / 4 * 2 - 1 + 2)).1.toNat : Nat) : Int)) = some (.inr (Sort.breakStep a (b - a) (1 <<< Sort.bitsLen (b - a)) (Sort.breakStep a (b - a) (1 <<< Sort.bitsLen (b - a)) (Sort.breakStep a (b - a) (1 <<< Sort.bitsLen (b - a)) (UInt64.ofNat (b - a),d) (a + (b - a) / 4 * 2 - 1)) (a + (b - a) / 4 * 2 - 1 + 1)) (a + (b - a) / 4 * 2 - 1 + 2)).2.toList):=by
      have z : w64 (((a + (b - a) / 4 * 2 : Nat) : Int) + 1) = ((a + (b - a) / 4 * 2 + 1 : Nat) : Int):=w1p _ q6;have x : decide (((a + (b - a) / 4 * 2 - 1 + 2 + 1 : Nat) : Int)≤((a + (b - a) / 4 * 2 + 1 : Nat) : Int)) = false:=Q6 q6;simp only [U0,k,g,j,l,z,x,Q0]
    rw [K7 c];rfl
  · have t : decide (((b - a : Nat) : Int) ≥ 8) = false:=Q6 q6;rw [t,Q0,qr f]
end
end Go.Sh
