/- Pl1 Pl2 Pl3 Pg0 Pg1 Pg2 Pg3 -/
import Derived.Test.YtiejlbckgihckaaGreatK8
import Derived.Sort.AssemblyPlain
import Derived.Sort.LotD5
namespace Go.Sh
open Go Go.Am
def has (s : List qi) (x : Int) : Prop:=∃ t∈s,t.Lo≤x∧x < t.Hi
def Can (s : List qi) : Prop:=(∀ t∈s,t.Lo < t.Hi)∧s.Pairwise (fun a b=>a.Hi < b.Lo)
def vld (t : qi) : Prop:=t.Lo < t.Hi∧-1000000≤t.Lo∧t.Hi≤1000000
instance (t : qi) : Decidable (vld t):=by unfold vld;exact inferInstance
def Good (s : List qi) : Prop:=(∀ t∈s,vld t)∧s.Pairwise (fun a b=>a.Hi < b.Lo)
theorem Good.can {s : List qi} (h : Good s) : Can s:=⟨fun t a=>(h.1 t a).1,h.2⟩
theorem q1g (x : Int) : ¬ has [] x:=by rintro ⟨t,h,_⟩;cases h
theorem Zy {a : qi} {s : List qi} {x : Int} : has (a::s) x↔(a.Lo≤x∧x < a.Hi)∨has s x:=by
  constructor
  · rintro ⟨t,b,h⟩;rcases List.mem_cons.1 b with rfl | b
    · exact .inl h
    · exact .inr ⟨t,b,h⟩
  · rintro (h | ⟨t,b,h⟩)
    · exact ⟨a,qe,h⟩
    · exact ⟨t,by simp [b],h⟩
theorem qqr {a b : List qi} {x : Int} : has (a ++ b) x↔has a x∨has b x:=by
  induction a with
  | nil=>simp [q1g]
  | cons t r ih=>simp only [List.cons_append,Zy,ih,or_assoc]
theorem Can.tail {a : qi} {s : List qi} (h : Can (a::s)) : Can s:=⟨fun t b=>h.1 t (by simp [b]),(List.pairwise_cons.1 h.2).2⟩
theorem Can.lt {a : qi} {s : List qi} (h : Can (a::s)) : ∀ t∈s,a.Hi < t.Lo:=(List.pairwise_cons.1 h.2).1
theorem Can.tail_gt {a : qi} {s : List qi} (h : Can (a::s)) {x : Int} (b : has s x) : a.Hi < x:=by
  obtain ⟨t,c,d,f⟩:=b;have:=h.lt t c;omega
theorem q7h : ∀ {s t : List qi},Can s→Can t→(∀ x,has s x↔has t x)→s = t
  | [],[],_,_,_=>rfl
  | [],b::t,_,c,h=>absurd ((h b.Lo).2 (Zy.2 (.inl ⟨Int.le_refl _,c.1 b qe⟩))) (q1g _)
  | a::s,[],hs,_,h=>absurd ((h a.Lo).1 (Zy.2 (.inl ⟨Int.le_refl _,hs.1 a qe⟩))) (q1g _)
  | a::s,b::t,hs,c,h=>by
    have m:=hs.1 a qe
    have hb:=c.1 b qe
    have lo : ∀ {a b : qi} {s t : List qi},Can (a::s)→Can (b::t)→(∀ x,has (a::s) x↔has (b::t) x)→b.Lo≤a.Lo:=by
      intro a b s t hs c h;rcases Zy.1 ((h a.Lo).1 (Zy.2 (.inl ⟨Int.le_refl _,hs.1 a qe⟩))) with d | d
      · exact d.1
      · have:=c.tail_gt d;have:=c.1 b qe;omega
    have j : a.Lo = b.Lo:=Int.le_antisymm (lo c hs fun x=>(h x).symm) (lo hs c h)
    have hi : ∀ {a b : qi} {s t : List qi},Can (a::s)→Can (b::t)→(∀ x,has (a::s) x↔has (b::t) x)→a.Lo = b.Lo→b.Hi≤a.Hi:=by
      intro a b s t hs c h e;have m:=hs.1 a qe;have hb:=c.1 b qe;refine Int.not_lt.1 fun k=>?_;rcases Zy.1 ((h a.Hi).2 (Zy.2 (.inl ⟨q0,k⟩))) with d | d
      · omega
      · have:=hs.tail_gt d;omega
    have l : a.Hi = b.Hi:=Int.le_antisymm (hi c hs (fun x=>(h x).symm) j.symm) (hi hs c h j)
    have e : a = b:=by cases a;cases b;simp at j l;simp [j,l]
    subst e
    congr 1
    refine q7h hs.tail c.tail fun x=>⟨fun f=>?_,fun f=>?_⟩
    · have d:=hs.tail_gt f
      rcases Zy.1 ((h x).1 (Zy.2 (.inr f))) with g | g
      · omega
      · exact g
    · have d:=c.tail_gt f
      rcases Zy.1 ((h x).2 (Zy.2 (.inr f))) with g | g
      · omega
      · exact g
theorem qmz (t : qi) : q2y t = some (decide (vld t)):=by
  unfold q2y vld;by_cases b : t.Lo < t.Hi <;> by_cases c : -1000000≤t.Lo <;> by_cases a : t.Hi≤1000000 <;> simp [b,c,a]
open Classical in
noncomputable def Yt (s : List qi) : Int:=if 400 < s.length then 4 else if Good s then 0 else 8
def qgb (s : List qi) (k : Nat) : Prop:=(∀ i (h : i < s.length),i < k→vld s[i])∧∀ i (h : i + 1 < s.length),i + 1 < k→s[i].Hi < s[i+1].Lo
theorem qqj {s : List qi} (h : qgb s s.length) : Good s:=by
  refine ⟨fun t d=>?_,?_⟩
  · obtain ⟨i,hi,rfl⟩:=List.mem_iff_getElem.1 d;exact h.1 i hi hi
  · have key : ∀ i j (hi : i < s.length) (a : j < s.length),i < j→s[i].Hi < s[j].Lo:=by
      intro i j hi a c
      induction j with
      | zero=>omega
      | succ j ih=>
        have b:=h.2 j a a;by_cases e : i = j
        · subst e;exact b
        · have g:=ih q0 q0;have f:=(h.1 j q0 q0).1;omega
    rw [List.pairwise_iff_getElem];exact key
theorem Good.get {s : List qi} (h : Good s) (i : Nat) (hi : i < s.length) : vld s[i]:=h.1 _ (Y5 hi)
theorem Good.nxt {s : List qi} (h : Good s) (i j : Nat) (hi : i < s.length) (b : j < s.length) (a : i < j) : s[i].Hi < s[j].Lo:=List.pairwise_iff_getElem.1 h.2 i j hi b a
theorem qdf (s : List qi) : q2w s = some (Yt s):=by
  unfold q2w Yt;by_cases n : 400 < s.length
  · have : decide ((s.length : Int) > 400) = true:=by simp;omega
    simp [this,n]
  · have hd : decide ((s.length : Int) > 400) = false:=by simp;omega
    simp only [hd,n,if_false,Q1];have:=Yg (f:=q1s s) (σ:=Unit) (fun k _=>(k : Int)) s.length (fun k _=>qgb s k) (fun b=>(b = .inl ()∧Good s)∨(b = .inr 8∧¬ Good s)) ?_ ?_ (k0:=0) (c0:=()) q0 ⟨fun i _ h=>q0,fun i _ h=>q0⟩
    · obtain ⟨b,m,g⟩:=this;have m : loop (q1s s) 0 = some b:=m;rw [m];rcases g with ⟨rfl,g⟩ | ⟨rfl,g⟩ <;> simp [g]
    · intro k _ l d;have hb : decide ((k : Int) < (s.length : Int)) = true:=by simp;omega
      simp only [q1s,hb,Q2,K5 l,qh,qmz];have bad : ¬ Good s→∃ b,(some (Sum.inr (Sum.inr 8)) : Option (Int ⊕ (Unit ⊕ Int))) = some (.inr b)∧((b = .inl ()∧Good s)∨(b = .inr 8∧¬ Good s)):=fun h=>⟨_,rfl,.inr ⟨rfl,h⟩⟩
      by_cases c : vld s[k]
      · simp only [c,decide_true,Bool.not_true,Q1];by_cases o : k = 0
        · subst o;refine .inl ⟨(),by simp [Q5],⟨fun i hi h=>?_,fun i hi h=>q0⟩⟩
          (obtain rfl : i = 0:=by omega)
          exact c
        · obtain ⟨j,rfl⟩ : ∃ j,k = j + 1:=⟨k - 1,q0⟩
          have hp : decide (((j + 1 : Nat) : Int) > 0) = true:=Q9 q0
          have p : idx s (w64 (((j + 1 : Nat) : Int) - 1)) = some (s[j]'(q0)):=by
            rw [Q5 q0];exact Zr q0 q0
          simp only [hp,Q2,p,qh];by_cases a : s[j].Hi < s[j+1].Lo
          · have : decide (s[j].Hi ≥ s[j+1].Lo) = false:=by simp;omega
            simp only [this,Q1];rw [Q5 q0];refine .inl ⟨(),rfl,⟨fun i hi h=>?_,fun i hi h=>?_⟩⟩
            · by_cases e : i = j + 1
              · subst e;exact c
              · exact d.1 i hi q0
            · by_cases e : i = j
              · subst e;exact a
              · exact d.2 i hi q0
          · have : decide (s[j].Hi ≥ s[j+1].Lo) = true:=by simp;omega
            simp only [this,Q2];exact .inr (bad fun h=>a (h.nxt j (j + 1) q0 l q0))
      · simp only [c,decide_false,Bool.not_false,Q2,qh];exact .inr (bad fun h=>c (h.get k l))
    · intro _ d;have hb : decide ((s.length : Int) < (s.length : Int)) = false:=by simp
      simp only [q1s,hb,Q1];exact ⟨_,rfl,.inl ⟨rfl,qqj d⟩⟩
theorem qtw : qkv = q2y:=rfl
theorem qtu (s : List qi) : qfd s = q1s s:=by
  funext a;unfold qfd q1s;cases h : idx s a <;> simp [qtw]
theorem qtv (s : List qi) : qbi s = some (Yt s):=by
  rw [← qdf];unfold qbi q2w;rw [qtu]
open Classical in
theorem qkt (s : List qi) (x : Int) (l : s.length≤1000000) : qbj s x = some (decide (has s x)):=by
  have:=Yg (f:=q8a s x) (σ:=Unit) (fun k _=>(k : Int)) s.length (fun k _=>∀ i (h : i < s.length),i < k→¬ (s[i].Lo≤x∧x < s[i].Hi)) (fun b=>(b = .inl ()∧¬ has s x)∨(b = .inr true∧has s x)) ?_ ?_ (k0:=0) (c0:=()) q0 (fun i _ h=>q0)
  · obtain ⟨b,c,a⟩:=this;have c : loop (q8a s x) 0 = some b:=c;unfold qbj;rw [c];rcases a with ⟨rfl,a⟩ | ⟨rfl,a⟩ <;> simp [a]
  · intro k _ g d;have hb : decide ((k : Int) < (s.length : Int)) = true:=Q9 q0;simp only [q8a,hb,Q2,K5 g,qh];by_cases c : s[k].Lo≤x <;> by_cases a : x < s[k].Hi
    · exact .inr ⟨.inr true,by simp [c,a],.inr ⟨rfl,s[k],Y5 g,c,a⟩⟩
    all_goals
      refine .inl ⟨(),by simp [c,a];exact Q5 q0,fun i hi h=>?_⟩
      by_cases e : i = k
      · subst e;omega
      · exact d i hi q0
  · intro _ d;have hb : decide ((s.length : Int) < (s.length : Int)) = false:=Qb q0;simp only [q8a,hb,Q1];refine ⟨_,rfl,.inl ⟨rfl,?_⟩⟩;rintro ⟨t,j,h⟩;obtain ⟨i,hi,rfl⟩:=List.mem_iff_getElem.1 j;exact d i hi hi h
end Go.Sh
namespace Go.Sh
open Go Go.Am
theorem qr0 (out : List Int) (v : Int) (b : Nat) (hb : b≤out.length) :
    (cpyw (out ++ [0]) (b + 1,(out ++ [0]).length - (b + 1)) ((((out ++ [0]).drop b).take ((out ++ [0]).length - b)))).set b v = out.take b ++ v::out.drop b:=by
  have f : ((out ++ [0]).drop b).take ((out ++ [0]).length - b) = (out ++ [0]).drop b:=List.take_of_length_le qe;rw [f];unfold cpyw splice;have a : (min ((out ++ [0]).drop b).length ((out ++ [0]).length - (b + 1))) = out.length - b:=by simp;omega
  simp only [a]
  have g : ((out ++ [0]).drop b).take (out.length - b) = out.drop b:=by
    rw [List.drop_append_of_le_length hb,List.take_append_of_le_length qe];exact List.take_of_length_le qe
  rw [g]
  have d : (out ++ [0]).drop (b + 1 + (out.drop b).length) = []:=by
    apply List.drop_of_length_le;simp;omega
  rw [d,List.append_nil]
  have h : ∃ y,(out ++ [0]).take (b + 1) = out.take b ++ [y]:=by
    refine ⟨(out ++ [0])[b]'(by simp;omega),?_⟩;rw [List.take_succ_eq_append_getElem (by simp;omega),List.take_append_of_le_length hb]
  obtain ⟨y,c⟩:=h
  have key : ∀ (xs ys : List Int) (y v : Int),(xs ++ (y::ys)).set xs.length v = xs ++ v::ys:=by
    intro xs ys y v
    induction xs with
    | nil=>rfl
    | cons x xs ih=>simp [ih]
  have j : (out.take b).length = b:=by simp;omega
  rw [c,List.append_assoc];have:=key (out.take b) (out.drop b) y v;rw [j] at this;exact this
def Zc (l out : List Int) : Prop:=out.Pairwise (· < ·)∧∀ x,x∈out↔x∈l
theorem qzz (a : Int × List Int) (l : List Int) (i : Nat) (hi : i < l.length) (q : a.1 = i) (m : a.2.length≤1000000) (hs : a.2.Pairwise (· < ·)) :
    ∃ b : Int,loop (q8e a l) (a.2.length : Int) = some b∧∃ k : Nat,b = k∧k≤a.2.length∧(∀ j (h : j < a.2.length),k≤j→l[i] < a.2[j])∧(∀ j (h : j < a.2.length),j < k→a.2[j]≤l[i]):=by
  refine qel (fun b : Int=>∃ k : Nat,b = k∧k≤a.2.length∧(∀ j (h : j < a.2.length),k≤j→l[i] < a.2[j])) (fun b=>b.toNat) _ ?_ ⟨a.2.length,rfl,q0,fun j h d=>q0⟩;rintro b ⟨k,rfl,r,c⟩
  cases k with
  | zero=>
    refine .inr ⟨0,?_,0,rfl,q0,c,fun j h d=>q0⟩;simp [q8e]
  | succ k=>
    have n : decide (((k + 1 : Nat) : Int) > 0) = true:=Q9 q0;have o : idx a.2 (w64 (((k + 1 : Nat) : Int) - 1)) = some (a.2[k]'(q0)):=by rw [Q5 q0];exact Zr q0 q0
    have p : idx l a.1 = some l[i]:=by rw [q];exact K5 hi
    have f : k < a.2.length:=by omega
    by_cases g : a.2[k] > l[i]
    · refine .inl ⟨(k : Int),?_,⟨k,rfl,q0,fun j h d=>?_⟩,qe⟩
      · simp only [q8e,n,o,p,Q2,qh,g,decide_true];rw [Q5 q0];congr 2;omega
      · by_cases e : j = k
        · subst e;exact g
        · exact c j h q0
    · refine .inr ⟨((k + 1 : Nat) : Int),?_,k + 1,rfl,r,c,fun j h d=>?_⟩
      · simp only [q8e,n,o,p,Q2,qh,g,decide_false,Q1]
      · by_cases e : j = k
        · subst e;omega
        · have : a.2[j] < a.2[k]:=List.pairwise_iff_getElem.1 hs j k h f q0;omega
theorem qmr {l out : List Int} {v : Int} {i : Nat} (hi : i < l.length) (b : l[i] = v) (h : Zc (l.take i) out) (a : List Int) (hs : a.Pairwise (· < ·)) (c : ∀ x,x∈a↔x∈out∨x = v) : Zc (l.take (i + 1)) a:=by
  refine ⟨hs,fun x=>?_⟩;rw [c,h.2,List.take_succ_eq_append_getElem hi];simp [b]
theorem qmd (l : List Int) (hl : l.length≤1000000) : ∃ t,q5f l = some t∧Zc l t∧t.length≤l.length:=by
  have:=Yg (f:=q8d l) (σ:=List Int) (fun k c=>((k : Int),c)) l.length (fun k c=>Zc (l.take k) c∧c.length≤k) (fun t=>Zc l t∧t.length≤l.length) ?_ ?_ (k0:=0) (c0:=[]) q0 ⟨⟨.nil,qe⟩,qe⟩
  · obtain ⟨b,g,n⟩:=this;have g : loop (q8d l) (0,[]) = some b:=g;exact ⟨b,by unfold q5f;rw [g];rfl,n⟩
  · intro k c hk a;obtain ⟨a,am⟩:=a;have hb : decide ((k : Int) < (l.length : Int)) = true:=Q9 q0;obtain ⟨b,w,j,rfl,hj,o,q⟩:=qzz ((k : Int),c) l k hk rfl (by simp;omega) a.1;simp only at hj o q w;refine .inl ?_;simp only [q8d,hb,Q2,w,qh,K5 hk];have hw : w64 ((k : Int) + 1) = ((k + 1 : Nat) : Int):=by rw [Q5 q0];omega
    by_cases p : 0 < j∧∃ h : j - 1 < c.length,c[j-1] = l[k]
    · obtain ⟨r,d,he⟩:=p;have u : decide ((j : Int) > 0) = true:=Q9 q0;have g : idx c (w64 ((j : Int) - 1)) = some (c[j-1]):=by rw [Q5 q0];exact Zr q0 d
      refine ⟨c,by simp only [u,g,Q2,qh,he,beq_self_eq_true,hw],?_,q0⟩;refine qmr hk rfl a c a.1 fun x=>⟨.inl,?_⟩
      rintro (h | rfl)
      · exact h
      · rw [← he];exact Y5 d
    · have hc : (cond (decide ((j : Int) > 0)) ((idx c (w64 ((j : Int) - 1))).bind fun v=>some (v == l[k])) (some false)) = some false:=by
        by_cases r : 0 < j
        · have d : j - 1 < c.length:=by omega
          have u : decide ((j : Int) > 0) = true:=Q9 q0;have g : idx c (w64 ((j : Int) - 1)) = some (c[j-1]):=by rw [Q5 q0];exact Zr q0 d
          simp only [u,g,Q2,qh];have : c[j-1]≠l[k]:=fun e=>p ⟨r,d,e⟩;simp [this]
        · have u : decide ((j : Int) > 0) = false:=Qb q0;simp only [u,Q1]
      have ad : app 8 c [0] = some (c ++ [0]):=Z7 (by simp;omega)
      have ab : sub2 (c ++ [0]).length (w64 ((j : Int) + 1)) ((c ++ [0]).length : Int) = some (j + 1,(c ++ [0]).length - (j + 1)):=by
        rw [Q5 q0];unfold sub2;rw [qs ⟨q0,by simp;omega,q0⟩];congr 2
      have af : sub2 (c ++ [0]).length (j : Int) ((c ++ [0]).length : Int) = some (j,(c ++ [0]).length - j):=by
        unfold sub2;rw [qs ⟨q0,by simp;omega,q0⟩];congr 2
      simp only [hc,qh,Q1,ad,ab,af]
      have s : j < (cpyw (c ++ [0]) (j + 1,(c ++ [0]).length - (j + 1)) (((c ++ [0]).drop j).take ((c ++ [0]).length - j))).length:=by
        rw [q7m (by simp;omega)];simp;omega
      rw [K5 s];simp only [qh,Int.toNat_natCast,qr0 c l[k] j hj,hw];refine ⟨_,rfl,?_,by simp;omega⟩;refine qmr hk rfl a _ ?_ fun x=>?_
      · rw [List.pairwise_append];refine ⟨a.1.sublist (List.take_sublist _ _),?_,?_⟩
        · rw [List.pairwise_cons];refine ⟨fun y hy=>?_,a.1.sublist (List.drop_sublist _ _)⟩;obtain ⟨i,hi,rfl⟩:=List.mem_iff_getElem.1 hy;rw [List.getElem_drop];exact o _ _ q0
        · intro y hy z hz;obtain ⟨i,hi,rfl⟩:=List.mem_iff_getElem.1 hy;rw [List.getElem_take];simp at hi;have g:=q i q0 q0;have n : c[i]≠l[k]∧c[i] < l[k]∨c[i] = l[k]:=by omega
          have h3 : c[i] < l[k]:=by
            rcases n with n | n
            · exact n.2
            · exfalso;by_cases e : i = j - 1
              · subst e;exact p ⟨q0,q0,n⟩
              · have : c[i] < c[j-1]'(q0):=List.pairwise_iff_getElem.1 a.1 i (j-1) q0 q0 q0;have:=q (j-1) q0 q0;omega
          rcases List.mem_cons.1 hz with rfl | hz
          · exact h3
          · obtain ⟨m,hm,rfl⟩:=List.mem_iff_getElem.1 hz;rw [List.getElem_drop];simp at hm;have:=o (j + m) q0 q0;omega
      · constructor
        · intro h;rcases List.mem_append.1 h with h | h
          · exact .inl (List.mem_of_mem_take h)
          · rcases List.mem_cons.1 h with h | h
            · exact .inr h
            · exact .inl (List.mem_of_mem_drop h)
        · rintro (h | rfl)
          · rw [← List.take_append_drop j c] at h;rcases List.mem_append.1 h with h | h
            · exact List.mem_append_left _ h
            · exact List.mem_append_right _ (List.mem_cons_of_mem _ h)
          · simp
  · intro c a;have hb : decide ((l.length : Int) < (l.length : Int)) = false:=Qb q0;simp only [q8d,hb,Q1];refine ⟨_,rfl,by simpa using a.1,a.2⟩
def ends (s : List qi) : List Int:=s.flatMap fun t=>[t.Lo,t.Hi]
theorem qba {s : List qi} {x : Int} : x∈ends s↔∃ t∈s,x = t.Lo∨x = t.Hi:=by simp [ends]
theorem qpo {s : List qi} {k : Nat} (h : k < s.length) : ends (s.take (k + 1)) = ends (s.take k) ++ [s[k].Lo,s[k].Hi]:=by
  unfold ends;rw [List.take_succ_eq_append_getElem h,List.flatMap_append];simp
theorem qaq (s : List qi) : (ends s).length = 2 * s.length:=by
  induction s with
  | nil=>rfl
  | cons t r ih=>simp only [ends,List.flatMap_cons,List.length_append,List.length_cons,List.length_nil] at ih ⊢;omega
theorem qhx (s : List qi) (c0 : List Int) (hs : s.length≤100000) (g : c0.length≤200000) : loop (q89 s) (0,c0) = some (c0 ++ ends s):=by
  have:=Yg (f:=q89 s) (σ:=List Int) (fun k c=>((k : Int),c)) s.length (fun k c=>c = c0 ++ ends (s.take k)) (fun t=>t = c0 ++ ends s) ?_ ?_ (k0:=0) (c0:=c0) q0 (by simp [ends])
  · obtain ⟨b,d,rfl⟩:=this;exact d
  · rintro k c a rfl;have hb : decide ((k : Int) < (s.length : Int)) = true:=Q9 q0;refine .inl ⟨c0 ++ ends (s.take (k + 1)),?_,rfl⟩;simp only [q89,hb,Q2,K5 a,qh];rw [Z7 (by simp [qaq];omega),Q5 q0,qpo a];simp
  · rintro c rfl;have hb : decide ((s.length : Int) < (s.length : Int)) = false:=Qb q0;simp [q89]
theorem qpn (p q : List qi) (hp : p.length≤100000) (b : q.length≤100000) : ∃ t,qfe p q = some t∧Zc (ends p ++ ends q) t∧t.length≤2 * (p.length + q.length):=by
  have f : loop (qks q) (0,ends p) = some (ends p ++ ends q):=qhx q (ends p) b (by rw [qaq];omega);obtain ⟨t,c,a,d⟩:=qmd (ends p ++ ends q) (by simp [qaq];omega);refine ⟨t,?_,a,by simp [qaq] at d;omega⟩;unfold qfe;rw [qhx p [] hp qe];simp only [List.nil_append,qh,f,c]
end Go.Sh
namespace Go.Sh
open Go Go.Am
def addS (c : List qi) (a b : Int) : List qi:=match c.getLast? with
  | some t=>if t.Hi = a then c.dropLast ++ [{Lo:=t.Lo,Hi:=b}] else c ++ [{Lo:=a,Hi:=b}]
  | none=>[{Lo:=a,Hi:=b}]
theorem qge (a b : Int) : addS [] a b = [{Lo:=a,Hi:=b}]:=rfl
theorem qad {c : List qi} {t : qi} {b : Int} : addS (c ++ [t]) t.Hi b = c ++ [{Lo:=t.Lo,Hi:=b}]:=by simp [addS]
theorem qae {c : List qi} {t : qi} {a b : Int} (h : t.Hi≠a) : addS (c ++ [t]) a b = (c ++ [t]) ++ [{Lo:=a,Hi:=b}]:=by simp [addS,h]
theorem qc7 {α : Type} (c : List α) : c = []∨∃ d t,c = d ++ [t]:=by
  rcases List.eq_nil_or_concat c with h | ⟨d,t,h⟩
  · exact .inl h
  · exact .inr ⟨d,t,by simpa using h⟩
theorem qda {d : List qi} {t : qi} : Can (d ++ [t])↔Can d∧t.Lo < t.Hi∧∀ s∈d,s.Hi < t.Lo:=by
  unfold Can;constructor
  · rintro ⟨b,a⟩;rw [List.pairwise_append] at a;exact ⟨⟨fun s hs=>b s (by simp [hs]),a.1⟩,b t qe,fun s hs=>a.2.2 s hs t qe⟩
  · rintro ⟨⟨b,a⟩,g,f⟩;refine ⟨fun s hs=>?_,?_⟩
    · rcases List.mem_append.1 hs with hs | hs
      · exact b s hs
      · simp at hs;subst hs;exact g
    · rw [List.pairwise_append];exact ⟨a,qe,fun s hs u c=>by simp at c;subst c;exact f s hs⟩
theorem qea {d : List qi} {t : qi} {x : Int} : has (d ++ [t]) x↔has d x∨(t.Lo≤x∧x < t.Hi):=by
  rw [qqr,Zy];simp [q1g]
theorem qgf {c : List qi} {a b : Int} (j : Can c) (h : ∀ t∈c,t.Hi≤a) (f : a < b) :
    Can (addS c a b)∧(∀ x,has (addS c a b) x↔has c x∨(a≤x∧x < b))∧(∀ t∈addS c a b,t.Hi≤b)∧(addS c a b).length≤c.length + 1∧
    (∀ t∈addS c a b,(t.Lo = a∨∃ u∈c,t.Lo = u.Lo)∧(t.Hi = b∨∃ u∈c,t.Hi = u.Hi)):=by
  rcases qc7 c with rfl | ⟨d,t,rfl⟩
  · rw [qge];refine ⟨⟨by simpa using f,qe⟩,fun x=>?_,qe,qe,qe⟩;rw [Zy];simp [q1g]
  · have g:=qda.1 j;have k : t.Hi≤a:=h t qe;by_cases e : t.Hi = a
    · subst e;rw [qad];refine ⟨qda.2 ⟨g.1,by simp;omega,g.2.2⟩,fun x=>?_,fun s hs=>?_,qe,fun s hs=>?_⟩
      · rw [qea,qea];by_cases hd : has d x <;> simp only [hd,true_or,false_or] <;> omega
      · rcases List.mem_append.1 hs with hs | hs
        · have:=h s (by simp [hs]);omega
        · simp at hs;subst hs;simp
      · rcases List.mem_append.1 hs with hs | hs
        · exact ⟨.inr ⟨s,by simp [hs],rfl⟩,.inr ⟨s,by simp [hs],rfl⟩⟩
        · simp at hs;subst hs;exact ⟨.inr ⟨t,qe,rfl⟩,.inl rfl⟩
    · rw [qae e];refine ⟨qda.2 ⟨j,f,fun s hs=>?_⟩,fun x=>?_,fun s hs=>?_,qe,fun s hs=>?_⟩
      · rcases List.mem_append.1 hs with hs | hs
        · have:=g.2.2 s hs;simp only;omega
        · simp at hs;subst hs;simp only;omega
      · rw [qea]
      · rcases List.mem_append.1 hs with hs | hs
        · have:=h s hs;omega
        · simp at hs;subst hs;simp
      · rcases List.mem_append.1 hs with hs | hs
        · exact ⟨.inr ⟨s,hs,rfl⟩,.inr ⟨s,hs,rfl⟩⟩
        · simp at hs;subst hs;exact ⟨.inl rfl,.inl rfl⟩
theorem qln {d : List qi} {t u : qi} : (d ++ [t]).set d.length u = d ++ [u]:=by
  induction d with
  | nil=>rfl
  | cons x d ih=>simp [ih]
structure qcs (cuts : List Int) (ins : List Bool) (k : Nat) (c : List qi) : Prop where
  can : Can c
  pts : ∀ x,has c x↔∃ i,∃ (h : i + 1 < cuts.length) (h' : i < ins.length),i < k∧ins[i] = true∧cuts[i]≤x∧x < cuts[i + 1]
  hi : ∀ t∈c,∃ (h : k < cuts.length),t.Hi≤cuts[k]
  len : c.length≤k
  ends : ∀ t∈c,t.Lo∈cuts∧t.Hi∈cuts
theorem qo5 (a : List Int) (g : List Bool) (hs : a.Pairwise (· < ·)) (hl : a.length≤1000000) (hi : a.length≤g.length + 1) :
    ∃ c,qfc a g = some c∧qcs a g (a.length - 1) c:=by
  have:=Yg (f:=q88 a g) (σ:=List qi) (fun k c=>((k : Int),c)) (a.length - 1) (fun k c=>qcs a g k c) (fun c=>qcs a g (a.length - 1) c) ?_ ?_ (k0:=0) (c0:=[]) q0
    ⟨⟨qe,qe⟩,fun x=>⟨fun h=>absurd h (q1g x),fun ⟨i,_,_,h,_⟩=>q0⟩,qe,qe,qe⟩
  · obtain ⟨b,l,n⟩:=this;have l : loop (q88 a g) (0,[]) = some b:=l;exact ⟨b,by unfold qfc;rw [l];rfl,n⟩
  · intro k c hk j;have hw : w64 ((k : Int) + 1) = ((k + 1 : Nat) : Int):=by rw [Q5 q0];omega
    have m : k + 1 < a.length:=by omega
    have p : k < a.length:=by omega
    have aa : k < g.length:=by omega
    have hb : decide (((k + 1 : Nat) : Int) < (a.length : Int)) = true:=Q9 q0;refine .inl ?_;simp only [q88,hw,hb,Q2,K5 aa,K5 m,K5 p,qh];have ai : a[k] < a[k+1]:=List.pairwise_iff_getElem.1 hs k (k+1) p m q0;have af : ∀ t∈c,t.Hi≤a[k]:=fun t q=>(j.hi t q).2
    cases ab : g[k] with
    | false=>
      refine ⟨c,qe,j.can,fun x=>?_,fun t q=>⟨m,by have:=af t q;omega⟩,by have:=j.len;omega,j.ends⟩;rw [j.pts];constructor
      · rintro ⟨i,l,n,h3,o⟩;exact ⟨i,l,n,q0,o⟩
      · rintro ⟨i,l,n,h3,o⟩;by_cases e : i = k
        · subst e;rw [ab] at o;simp at o
        · exact ⟨i,l,n,q0,o⟩
    | true=>
      have r : (cond (!true) (some c) ((cond (decide ((c.length : Int) > 0)) ((idx c (w64 ((c.length : Int) - 1))).bind fun ad=>some (ad.Hi == a[k])) (some false)).bind fun w=>cond w ((idx c (w64 ((c.length : Int) - 1))).bind fun s=>some (c.set (w64 ((c.length : Int) - 1)).toNat ({Lo:=s.Lo,Hi:=a[k+1]} : qi))) ((app 16 c [({Lo:=a[k],Hi:=a[k+1]} : qi)]).bind fun z=>some z))) = some (addS c a[k] a[k+1]):=by
        have ac : ∀ y,app 16 c [y] = some (c ++ [y]):=fun y=>Z7 (by have:=j.len;simp;omega);rcases qc7 c with rfl | ⟨d,t,rfl⟩
        · simp [ac,addS]
        · have h0 : decide ((((d ++ [t]).length : Nat) : Int) > 0) = true:=Q9 (by rw [List.length_append,List.length_singleton];omega);have aj:=j.len;have v : (((d ++ [t]).length : Nat) : Int) = d.length + 1:=by simp
          have an : d.length + 1≤k:=by simpa using aj
          have l : w64 (((d ++ [t]).length : Int) - 1) = (d.length : Int):=by rw [v,Q5 q0];omega
          have n : idx (d ++ [t]) (d.length : Int) = some t:=by rw [K5 qe];simp
          simp only [Bool.not_true,Q1,h0,Q2,l,n,qh,Int.toNat_natCast,qln,ac];by_cases e : t.Hi = a[k]
          · simp [e,← qad]
          · have e' : (t.Hi == a[k]) = false:=by simpa using e
            simp only [e',Q1,qae e]
      rw [r];obtain ⟨a1,a2,a3,a4,a5⟩:=qgf j.can af ai;refine ⟨_,rfl,a1,fun x=>?_,fun t q=>⟨m,a3 t q⟩,by have:=j.len;omega,fun t q=>?_⟩
      · rw [a2,j.pts];constructor
        · rintro (⟨i,l,n,h3,o⟩ | h)
          · exact ⟨i,l,n,q0,o⟩
          · exact ⟨k,m,aa,q0,ab,h⟩
        · rintro ⟨i,l,n,h3,o⟩;by_cases e : i = k
          · subst e;exact .inr o.2
          · exact .inl ⟨i,l,n,q0,o⟩
      · obtain ⟨b1,b2⟩:=a5 t q;constructor
        · rcases b1 with b1 | ⟨u,hu,b1⟩
          · rw [b1];exact Y5 p
          · rw [b1];exact (j.ends u hu).1
        · rcases b2 with b2 | ⟨u,hu,b2⟩
          · rw [b2];exact Y5 m
          · rw [b2];exact (j.ends u hu).2
  · intro c j;refine ⟨c,?_,j⟩
    have hw : decide (w64 (((a.length - 1 : Nat) : Int) + 1) < (a.length : Int)) = false:=by
      rw [Q5 q0];exact Qb q0
    simp only [q88,hw,Q1]
def Yd (kind : Int) (a b : Prop) : Prop:=(kind = 1∧a∧b)∨(kind = 2∧(a∨b))∨(kind≠1∧kind≠2∧a∧¬ b)
open Classical in
theorem qqu (kind : Int) (a b : Prop) : qff kind (decide a) (decide b) = some (decide (Yd kind a b)):=by
  unfold qff Yd;by_cases d : kind = 1
  · subst d;by_cases c : a <;> by_cases hb : b <;> simp [c,hb]
  · by_cases f : kind = 2
    · subst f;by_cases c : a <;> by_cases hb : b <;> simp [c,hb]
    · have h : (kind == 1) = false:=by simpa using d
      have g : (kind == 2) = false:=by simpa using f
      by_cases c : a <;> by_cases hb : b <;> simp [c,hb,d,f,h,g]
theorem qbu {c : List Int} (hs : c.Pairwise (· < ·)) {p : List qi} (m : ∀ x∈ends p,x∈c) {i : Nat} (h : i + 1 < c.length) {x : Int} (r : c[i]≤x) (s : x < c[i + 1]) : has p x↔has p c[i]:=by
  have mono : ∀ a b (g : a < c.length) (hb : b < c.length),c[a] < c[b]→a < b:=by
    intro a b g hb o;refine Nat.not_le.1 fun l=>?_;by_cases e : a = b
    · subst e;omega
    · have:=List.pairwise_iff_getElem.1 hs b a hb g q0;omega
  have d : ∀ a b (g : a < c.length) (hb : b < c.length),a≤b→c[a]≤c[b]:=by
    intro a b g hb l;by_cases e : a = b
    · subst e;omega
    · have:=List.pairwise_iff_getElem.1 hs a b g hb q0;omega
  constructor
  · rintro ⟨t,f,q,n⟩;refine ⟨t,f,?_,q0⟩;obtain ⟨j,k,e⟩:=List.mem_iff_getElem.1 (m t.Lo (qba.2 ⟨t,f,.inl rfl⟩));have:=mono j (i + 1) k h q0;have:=d j i k q0 q0;omega
  · rintro ⟨t,f,q,n⟩;refine ⟨t,f,q0,?_⟩;obtain ⟨j,k,e⟩:=List.mem_iff_getElem.1 (m t.Hi (qba.2 ⟨t,f,.inr rfl⟩));have:=mono i j q0 k q0;have:=d (i + 1) j h k q0;omega
theorem qj2 {c : List Int} (hs : c.Pairwise (· < ·)) {p : List qi} (k : ∀ x∈ends p,x∈c) {x : Int} (h : has p x) : ∃ i,∃ (h : i + 1 < c.length),c[i]≤x∧x < c[i + 1]:=by
  obtain ⟨t,g,v,s⟩:=h;obtain ⟨a,l,u⟩:=List.mem_iff_getElem.1 (k t.Lo (qba.2 ⟨t,g,.inl rfl⟩));obtain ⟨b,hb,r⟩:=List.mem_iff_getElem.1 (k t.Hi (qba.2 ⟨t,g,.inr rfl⟩))
  have key : ∀ n j (m : j < c.length),j + n = b→c[j]≤x→∃ i,∃ (h : i + 1 < c.length),c[i]≤x∧x < c[i + 1]:=by
    intro n
    induction n with
    | zero=>intro j m e f;simp at e;subst e;omega
    | succ n ih=>
      intro j m e f;by_cases o : x < c[j+1]'(q0)
      · exact ⟨j,q0,f,o⟩
      · exact ih (j + 1) q0 q0 q0
  have q : a≤b:=by
    refine Nat.not_lt.1 fun d=>?_;have:=List.pairwise_iff_getElem.1 hs b a hb l d;omega
  exact key (b - a) a l q0 q0
structure qcu (kind : Int) (p q out : List qi) : Prop where
  can : Can out
  pts : ∀ x,has out x↔Yd kind (has p x) (has q x)
  ends : ∀ t∈out,(t.Lo∈ends p∨t.Lo∈ends q)∧(t.Hi∈ends p∨t.Hi∈ends q)
  len : out.length≤2 * (p.length + q.length)
open Classical in
theorem qr7 (a : List Int) (p q : List qi) (kind : Int) (j : a.length≤1000000) (hp : p.length≤100000) (h : q.length≤100000) :
    loop (q8b a p q kind) (0,[]) = some (a.map fun x=>decide (Yd kind (has p x) (has q x))):=by
  have:=Yg (f:=q8b a p q kind) (σ:=List Bool) (fun k c=>((k : Int),c)) a.length (fun k c=>c = (a.take k).map fun x=>decide (Yd kind (has p x) (has q x))) (fun t=>t = a.map fun x=>decide (Yd kind (has p x) (has q x))) ?_ ?_ (k0:=0) (c0:=[]) q0 qe
  · obtain ⟨b,g,rfl⟩:=this;exact g
  · rintro k c d rfl;have hb : decide ((k : Int) < (a.length : Int)) = true:=Q9 q0;refine .inl ⟨_,?_,rfl⟩;simp only [q8b,hb,Q2,K5 d,qh,qkt p _ (by omega : p.length≤1000000),qkt q _ (by omega : q.length≤1000000),qqu];rw [Z7 (by simp;omega),Q5 q0,List.take_succ_eq_append_getElem d,List.map_append];rfl
  · rintro c rfl;have hb : decide ((a.length : Int) < (a.length : Int)) = false:=Qb q0;simp [q8b]
open Classical in
theorem qr8 (kind : Int) (p q : List qi) (hp : p.length≤100000) (s : q.length≤100000) : ∃ out,qbk kind p q = some out∧qcu kind p q out:=by
  obtain ⟨d,u,⟨hs,l⟩,o⟩:=qpn p q hp s;obtain ⟨c,w,k⟩:=qo5 d (d.map fun x=>decide (Yd kind (has p x) (has q x))) hs q0 (by rw [List.length_map];omega);refine ⟨c,?_,k.can,fun x=>?_,fun t v=>?_,by have:=k.len;omega⟩
  · unfold qbk;rw [u];simp only [qh,qr7 d p q kind q0 hp s,w]
  · have mp : ∀ x∈ends p,x∈d:=fun x m=>(l x).2 (List.mem_append_left _ m);have mq : ∀ x∈ends q,x∈d:=fun x m=>(l x).2 (List.mem_append_right _ m);rw [k.pts];constructor
    · rintro ⟨i,j,y,_,r,f,g⟩;simp only [List.getElem_map,decide_eq_true_eq] at r;rw [qbu hs mp j f g,qbu hs mq j f g];exact r
    · intro h
      have n : has p x∨has q x:=by
        rcases h with ⟨_,h,_⟩ | ⟨_,h⟩ | ⟨_,_,h,_⟩
        · exact .inl h
        · exact h
        · exact .inl h
      obtain ⟨i,j,f,g⟩ : ∃ i,∃ (h : i + 1 < d.length),d[i]≤x∧x < d[i + 1]:=n.elim (qj2 hs mp) (qj2 hs mq);refine ⟨i,j,by rw [List.length_map];omega,q0,?_,f,g⟩;simp only [List.getElem_map,decide_eq_true_eq];rw [← qbu hs mp j f g,← qbu hs mq j f g];exact h
  · obtain ⟨a,b⟩:=k.ends t v;exact ⟨List.mem_append.1 ((l _).1 a),List.mem_append.1 ((l _).1 b)⟩
end Go.Sh
namespace Go.Sh
open Go Go.Am
def q52 : ByteArray:=⟨#[0,1,2,2,3,3,3,3,4,4,4,4,4,4,4,4,5,5,5,5,5,5,5,5,5,5,5,5,5,5,5,5,6,6,6,6,6,6,6,6,6,6,6,6,6,6,6,6,6,6,6,6,6,6,6,6,6,6,6,6,6,6,6,6,7,7,7,7,7,7,7,7,7,7,7,7,7,7,7,7,7,7,7,7,7,7,7,7,7,7,7,7,7,7,7,7,7,7,7,7,7,7,7,7,7,7,7,7,7,7,7,7,7,7,7,7,7,7,7,7,7,7,7,7,7,7,7,7,8,8,8,8,8,8,8,8,8,8,8,8,8,8,8,8,8,8,8,8,8,8,8,8,8,8,8,8,8,8,8,8,8,8,8,8,8,8,8,8,8,8,8,8,8,8,8,8,8,8,8,8,8,8,8,8,8,8,8,8,8,8,8,8,8,8,8,8,8,8,8,8,8,8,8,8,8,8,8,8,8,8,8,8,8,8,8,8,8,8,8,8,8,8,8,8,8,8,8,8,8,8,8,8,8,8,8,8,8,8,8,8,8,8,8,8,8,8,8,8,8,8,8,8,8,8,8,8]⟩
noncomputable def q3j (p0 : Int) : Option Int:=
  (cond (decide (p0 ≥ 4294967296)) (some (Int.fdiv p0 (2 ^ 32),32)) (some (p0,0))).bind fun b3=>(cond (decide (b3.1 ≥ 65536)) (some (Int.fdiv b3.1 (2 ^ 16),w64 (b3.2 + 16))) (some (b3.1,b3.2))).bind fun b6=>(cond (decide (b6.1 ≥ 256)) (some (Int.fdiv b6.1 (2 ^ 8),w64 (b6.2 + 8))) (some (b6.1,b6.2))).bind fun b9=>(q4o q52 (IntKind.wrap .u8 b9.1)).bind fun v10=>some (w64 (b9.2 + (w64 v10)))
noncomputable def q16 (p0 : Int) : Option Int:=
  (q3j p0).bind fun r1=>some r1
noncomputable def U6 {T : Type} (p1 : Int) (q1 : T→T→Option Int) (a459 : Int × List T) : Option ((Int × List T) ⊕ (List T)):=
  (cond (decide (a459.1 > p1)) ((idx a459.2 a459.1).bind fun v484=>(idx a459.2 (w64 (a459.1 - 1))).bind fun v486=>(q1 v484 v486).bind fun r488=>some (decide (r488 < 0))) (some false)).bind fun c469=>cond c469 ((idx a459.2 (w64 (a459.1 - 1))).bind fun v498=>(idx a459.2 a459.1).bind fun v500=>(idx a459.2 a459.1).bind fun _=>(idx (a459.2.set a459.1.toNat v498) (w64 (a459.1 - 1))).bind fun _=>some (.inl (w64 (a459.1 - 1),(a459.2.set a459.1.toNat v498).set (w64 (a459.1 - 1)).toNat v500))) (some (.inr a459.2))
noncomputable def q1a {T : Type} (p2 : Int) (p1 : Int) (q1 : T→T→Option Int) (a278 : Int × List T) : Option ((Int × List T) ⊕ (List T)):=
  cond (decide (a278.1 < p2)) (((loop (U6 p1 q1) (a278.1,a278.2)).bind fun x0=>some x0).bind fun b370=>some (.inl (w64 (a278.1 + 1),b370))) (some (.inr a278.2))
noncomputable def q2a {T : Type} (q1 : T→T→Option Int) (p0 : List T) (p1 : Int) (p2 : Int) : Option (List T):=
  (loop (q1a p2 p1 q1) (w64 (p1 + 1),p0)).bind fun x0=>some x0
noncomputable def U9 {T : Type} (p2 : Int) (p3 : Int) (q1 : T→T→Option Int) (a197 : Int × List T) : Option ((Int × List T) ⊕ (List T)):=
  cond (decide ((w64 ((w64 (2 * a197.1)) + 1)) ≥ p2)) (some (.inr a197.2)) ((cond (decide ((w64 ((w64 ((w64 (2 * a197.1)) + 1)) + 1)) < p2)) ((idx a197.2 (w64 (p3 + (w64 ((w64 (2 * a197.1)) + 1))))).bind fun v226=>(idx a197.2 (w64 ((w64 (p3 + (w64 ((w64 (2 * a197.1)) + 1)))) + 1))).bind fun v228=>(q1 v226 v228).bind fun r230=>some (decide (r230 < 0))) (some false)).bind fun c207=>(cond c207 (some (w64 ((w64 ((w64 (2 * a197.1)) + 1)) + 1))) (some (w64 ((w64 (2 * a197.1)) + 1)))).bind fun b234=>(idx a197.2 (w64 (p3 + a197.1))).bind fun v235=>(idx a197.2 (w64 (p3 + b234))).bind fun v237=>(q1 v235 v237).bind fun r239=>cond (!(decide (r239 < 0))) (some (.inr a197.2)) ((idx a197.2 (w64 (p3 + b234))).bind fun v241=>(idx a197.2 (w64 (p3 + a197.1))).bind fun v243=>(idx a197.2 (w64 (p3 + a197.1))).bind fun _=>(idx (a197.2.set (w64 (p3 + a197.1)).toNat v241) (w64 (p3 + b234))).bind fun _=>some (.inl (b234,(a197.2.set (w64 (p3 + a197.1)).toNat v241).set (w64 (p3 + b234)).toNat v243))))
noncomputable def Uq {T : Type} (q1 : T→T→Option Int) (p0 : List T) (p1 : Int) (p2 : Int) (p3 : Int) : Option (List T):=
  (loop (U9 p2 p3 q1) (p1,p0)).bind fun x0=>some x0
noncomputable def q18 {T : Type} (q1 : T→T→Option Int) (p2 : Int) (p1 : Int) (a123 : Int × List T) : Option ((Int × List T) ⊕ (List T)):=
  cond (decide (a123.1 ≥ 0)) ((Uq q1 a123.2 a123.1 (w64 (p2 - p1)) p1).bind fun e132=>(Qu e132.length a123.2.length).bind fun _=>some (.inl (w64 (a123.1 - 1),e132))) (some (.inr a123.2))
noncomputable def q19 {T : Type} (p1 : Int) (q1 : T→T→Option Int) (a191 : Int × List T) : Option ((Int × List T) ⊕ (List T)):=
  cond (decide (a191.1 ≥ 0)) ((idx a191.2 (w64 (p1 + a191.1))).bind fun v208=>(idx a191.2 p1).bind fun v210=>(idx a191.2 p1).bind fun _=>(idx (a191.2.set p1.toNat v208) (w64 (p1 + a191.1))).bind fun _=>(Uq q1 ((a191.2.set p1.toNat v208).set (w64 (p1 + a191.1)).toNat v210) 0 a191.1 p1).bind fun e216=>(Qu e216.length ((a191.2.set p1.toNat v208).set (w64 (p1 + a191.1)).toNat v210).length).bind fun _=>some (.inl (w64 (a191.1 - 1),e216))) (some (.inr a191.2))
noncomputable def q29 {T : Type} (q1 : T→T→Option Int) (p0 : List T) (p1 : Int) (p2 : Int) : Option (List T):=
  (loop (q18 q1 p2 p1) (w64 (Int.tdiv (w64 ((w64 (p2 - p1)) - 1)) 2),p0)).bind fun b126=>(loop (q19 p1 q1) (w64 ((w64 (p2 - p1)) - 1),b126)).bind fun x0=>some x0
noncomputable def q2b (p0 : Int) : Option Int:=
  (q16 (IntKind.wrap .u64 p0)).bind fun r1=>(shlK .u64 1 r1).bind fun q3=>some q3
noncomputable def q2f (p0 : Int) : Option Int:=
  some (xorI .u64 (xorI .u64 (xorI .u64 p0 (IntKind.wrap .u64 (p0 * (2 ^ 13)))) (Int.fdiv (xorI .u64 p0 (IntKind.wrap .u64 (p0 * (2 ^ 13)))) (2 ^ 7))) (IntKind.wrap .u64 ((xorI .u64 (xorI .u64 p0 (IntKind.wrap .u64 (p0 * (2 ^ 13)))) (Int.fdiv (xorI .u64 p0 (IntKind.wrap .u64 (p0 * (2 ^ 13)))) (2 ^ 7))) * (2 ^ 17))))
noncomputable def Uh {T : Type} (p1 : Int) (p2 : Int) (r101 : Int) (a153 : Int × List T × Int) : Option ((Int × List T × Int) ⊕ (List T)):=
  cond (decide (a153.1≤(w64 ((w64 (p1 + (w64 ((w64 (Int.tdiv (w64 (p2 - p1)) 4)) * 2)))) + 1)))) ((q2f a153.2.2).bind fun e168=>(cond (decide ((w64 (andI .u64 e168 (IntKind.wrap .u64 (r101 - 1)))) ≥ (w64 (p2 - p1)))) (some (w64 ((w64 (andI .u64 e168 (IntKind.wrap .u64 (r101 - 1)))) - (w64 (p2 - p1))))) (some (w64 (andI .u64 e168 (IntKind.wrap .u64 (r101 - 1)))))).bind fun b172=>(idx a153.2.1 (w64 (p1 + b172))).bind fun v173=>(idx a153.2.1 a153.1).bind fun v175=>(idx a153.2.1 a153.1).bind fun _=>(idx (a153.2.1.set a153.1.toNat v173) (w64 (p1 + b172))).bind fun _=>some (.inl (w64 (a153.1 + 1),(a153.2.1.set a153.1.toNat v173).set (w64 (p1 + b172)).toNat v175,e168))) (some (.inr a153.2.1))
noncomputable def q17 {T : Type} (_ : T→T→Option Int) (p0 : List T) (p1 : Int) (p2 : Int) : Option (List T):=
  cond (decide ((w64 (p2 - p1)) ≥ 8)) ((q2b (w64 (p2 - p1))).bind fun r101=>(loop (Uh p1 p2 r101) (w64 ((w64 (p1 + (w64 ((w64 (Int.tdiv (w64 (p2 - p1)) 4)) * 2)))) - 1),p0,IntKind.wrap .u64 (w64 (p2 - p1)))).bind fun x0=>some x0) (some p0)
noncomputable def Uj {T : Type} (q1 : T→T→Option Int) (p0 : List T) (p1 : Int) (p2 : Int) (p3 : Int) : Option (Int × Int × Int):=
  (idx p0 p2).bind fun v101=>(idx p0 p1).bind fun v103=>(q1 v101 v103).bind fun r105=>cond (decide (r105 < 0)) (some (p2,p1,w64 (p3 + 1))) (some (p1,p2,p3))
noncomputable def Ui {T : Type} (q1 : T→T→Option Int) (p0 : List T) (p1 : Int) (p2 : Int) (p3 : Int) (p4 : Int) : Option (Int × Int):=
  (Uj q1 p0 p1 p2 p4).bind fun e101=>(Uj q1 p0 e101.2.1 p3 e101.2.2).bind fun e103=>(Uj q1 p0 e101.1 e103.1 e103.2.2).bind fun e105=>some (e105.2.1,e105.2.2)
noncomputable def U7 {T : Type} (q1 : T→T→Option Int) (p0 : List T) (p1 : Int) (p2 : Int) : Option (Int × Int):=
  (Ui q1 p0 (w64 (p1 - 1)) p1 (w64 (p1 + 1)) p2).bind fun e101=>some (e101.1,e101.2)
noncomputable def q28 {T : Type} (p0 : List T) (p1 : Int) (p2 : Int) (p3 : T→T→Option Int) : Option (Int × Int):=
  (cond (decide ((w64 (p2 - p1)) ≥ 8)) ((cond (decide ((w64 (p2 - p1)) ≥ 50)) ((U7 p3 p0 (w64 (p1 + (w64 ((w64 (Int.tdiv (w64 (p2 - p1)) 4)) * 1)))) 0).bind fun e25=>(U7 p3 p0 (w64 (p1 + (w64 ((w64 (Int.tdiv (w64 (p2 - p1)) 4)) * 2)))) e25.2).bind fun e27=>(U7 p3 p0 (w64 (p1 + (w64 ((w64 (Int.tdiv (w64 (p2 - p1)) 4)) * 3)))) e27.2).bind fun e29=>some (e25.1,e27.1,e29.1,e29.2)) (some (w64 (p1 + (w64 ((w64 (Int.tdiv (w64 (p2 - p1)) 4)) * 1))),w64 (p1 + (w64 ((w64 (Int.tdiv (w64 (p2 - p1)) 4)) * 2))),w64 (p1 + (w64 ((w64 (Int.tdiv (w64 (p2 - p1)) 4)) * 3))),0))).bind fun b24=>(Ui p3 p0 b24.1 b24.2.1 b24.2.2.1 b24.2.2.2).bind fun e31=>some (e31.1,e31.2)) (some (w64 (p1 + (w64 ((w64 (Int.tdiv (w64 (p2 - p1)) 4)) * 2))),0))).bind fun b15=>cond (b15.2 == 0) (some (b15.1,1)) (cond (b15.2 == 12) (some (b15.1,2)) (some (b15.1,0)))
noncomputable def q2e {T : Type} (a119 : Int × Int × List T) : Option ((Int × Int × List T) ⊕ (List T)):=
  cond (decide (a119.1 < a119.2.1)) ((idx a119.2.2 a119.2.1).bind fun v123=>(idx a119.2.2 a119.1).bind fun v125=>(idx a119.2.2 a119.1).bind fun _=>(idx (a119.2.2.set a119.1.toNat v123) a119.2.1).bind fun _=>some (.inl (w64 (a119.1 + 1),w64 (a119.2.1 - 1),(a119.2.2.set a119.1.toNat v123).set a119.2.1.toNat v125))) (some (.inr a119.2.2))
noncomputable def q1f {T : Type} (_ : T→T→Option Int) (p0 : List T) (p1 : Int) (p2 : Int) : Option (List T):=
  (loop q2e (p1,w64 (p2 - 1),p0)).bind fun x0=>some x0
noncomputable def Uk {T : Type} (p2 : Int) (a438 : Int × Int × List T) (q1 : T→T→Option Int) (a681 : Int) : Option ((Int) ⊕ (Int)):=
  (cond (decide (a681 < p2)) ((idx a438.2.2 a681).bind fun v707=>(idx a438.2.2 (w64 (a681 - 1))).bind fun v709=>(q1 v707 v709).bind fun r711=>some (!(decide (r711 < 0)))) (some false)).bind fun c691=>cond c691 (some (.inl (w64 (a681 + 1)))) (some (.inr a681))
noncomputable def Ul {T : Type} (q1 : T→T→Option Int) (a838 : Int × List T) : Option ((Int × List T) ⊕ (List T)):=
  cond (decide (a838.1 ≥ 1)) ((idx a838.2 a838.1).bind fun v856=>(idx a838.2 (w64 (a838.1 - 1))).bind fun v858=>(q1 v856 v858).bind fun r860=>cond (!(decide (r860 < 0))) (some (.inr a838.2)) ((idx a838.2 (w64 (a838.1 - 1))).bind fun v862=>(idx a838.2 a838.1).bind fun v864=>(idx a838.2 a838.1).bind fun _=>(idx (a838.2.set a838.1.toNat v862) (w64 (a838.1 - 1))).bind fun _=>some (.inl (w64 (a838.1 - 1),(a838.2.set a838.1.toNat v862).set (w64 (a838.1 - 1)).toNat v864)))) (some (.inr a838.2))
noncomputable def Um {T : Type} (p2 : Int) (q1 : T→T→Option Int) (b684 : Int) (a928 : Int × List T) : Option ((Int × List T) ⊕ (Int × List T)):=
  cond (decide (a928.1 < p2)) ((idx a928.2 a928.1).bind fun v946=>(idx a928.2 (w64 (a928.1 - 1))).bind fun v948=>(q1 v946 v948).bind fun r950=>cond (!(decide (r950 < 0))) (some (.inr (b684,a928.2))) ((idx a928.2 (w64 (a928.1 - 1))).bind fun v952=>(idx a928.2 a928.1).bind fun v954=>(idx a928.2 a928.1).bind fun _=>(idx (a928.2.set a928.1.toNat v952) (w64 (a928.1 - 1))).bind fun _=>some (.inl (w64 (a928.1 + 1),(a928.2.set a928.1.toNat v952).set (w64 (a928.1 - 1)).toNat v954)))) (some (.inr (b684,a928.2)))
noncomputable def J6 {T : Type} (p2 : Int) (q1 : T→T→Option Int) (p1 : Int) (a438 : Int × Int × List T) : Option ((Int × Int × List T) ⊕ ((List T) ⊕ (Bool × List T))):=
  cond (decide (a438.2.1 < 5)) (((loop (Uk p2 a438 q1) a438.1).bind fun b684=>cond (b684 == p2) (some (.inr (true,a438.2.2))) (cond (decide ((w64 (p2 - p1)) < 50)) (some (.inr (false,a438.2.2))) ((idx a438.2.2 (w64 (b684 - 1))).bind fun v713=>(idx a438.2.2 b684).bind fun v715=>(idx a438.2.2 b684).bind fun _=>(idx (a438.2.2.set b684.toNat v713) (w64 (b684 - 1))).bind fun _=>(cond (decide ((w64 (b684 - p1)) ≥ 2)) ((loop (Ul q1) (w64 (b684 - 1),(a438.2.2.set b684.toNat v713).set (w64 (b684 - 1)).toNat v715)).bind fun x0=>some x0) (some ((a438.2.2.set b684.toNat v713).set (w64 (b684 - 1)).toNat v715))).bind fun b779=>cond (decide ((w64 (p2 - b684)) ≥ 2)) ((loop (Um p2 q1 b684) (w64 (b684 + 1),b779)).bind fun x0=>some (.inl x0)) (some (.inl (b684,b779))))) : Option ((Int × List T) ⊕ (Bool × List T))).bind fun m621=>(match m621 with | .inl b622=>some (.inl (b622.1,w64 (a438.2.1 + 1),b622.2)) | .inr x1=>some (.inr (.inr x1)))) (some (.inr (.inl a438.2.2)))
noncomputable def U8 {T : Type} (q1 : T→T→Option Int) (p0 : List T) (p1 : Int) (p2 : Int) : Option (Bool × List T):=
  (loop (J6 p2 q1 p1) (w64 (p1 + 1),0,p0) : Option ((List T) ⊕ (Bool × List T))).bind fun m439=>(match m439 with | .inl b441=>some (false,b441) | .inr x1=>some x1)
noncomputable def Un {T : Type} (a318 : Int × Int × List T) (p1 : Int) (q1 : T→T→Option Int) (a378 : Int) : Option ((Int) ⊕ (Int)):=
  (cond (decide (a378≤a318.2.1)) ((idx a318.2.2 p1).bind fun v403=>(idx a318.2.2 a378).bind fun v405=>(q1 v403 v405).bind fun r407=>some (!(decide (r407 < 0)))) (some false)).bind fun c388=>cond c388 (some (.inl (w64 (a378 + 1)))) (some (.inr a378))
noncomputable def Uo {T : Type} (b381 : Int) (a318 : Int × Int × List T) (p1 : Int) (q1 : T→T→Option Int) (a463 : Int) : Option ((Int) ⊕ (Int)):=
  (cond (decide (b381≤a463)) ((idx a318.2.2 p1).bind fun v487=>(idx a318.2.2 a463).bind fun v489=>(q1 v487 v489).bind fun r491=>some (decide (r491 < 0))) (some false)).bind fun c473=>cond c473 (some (.inl (w64 (a463 - 1)))) (some (.inr a463))
noncomputable def q1d {T : Type} (p1 : Int) (q1 : T→T→Option Int) (a318 : Int × Int × List T) : Option ((Int × Int × List T) ⊕ (Int × List T)):=
  (loop (Un a318 p1 q1) a318.1).bind fun b381=>(loop (Uo b381 a318 p1 q1) a318.2.1).bind fun b466=>cond (decide (b381 > b466)) (some (.inr (b381,a318.2.2))) ((idx a318.2.2 b466).bind fun v493=>(idx a318.2.2 b381).bind fun v495=>(idx a318.2.2 b381).bind fun _=>(idx (a318.2.2.set b381.toNat v493) b466).bind fun _=>some (.inl (w64 (b381 + 1),w64 (b466 - 1),(a318.2.2.set b381.toNat v493).set b466.toNat v495)))
noncomputable def q1c {T : Type} (q1 : T→T→Option Int) (p0 : List T) (p1 : Int) (p2 : Int) (p3 : Int) : Option (Int × List T):=
  (idx p0 p3).bind fun v101=>(idx p0 p1).bind fun v103=>(idx p0 p1).bind fun _=>(idx (p0.set p1.toNat v101) p3).bind fun _=>(loop (q1d p1 q1) (w64 (p1 + 1),w64 (p2 - 1),(p0.set p1.toNat v101).set p3.toNat v103)).bind fun b321=>some (b321.1,b321.2)
noncomputable def q2c {T : Type} (p2 : Int) (p0 : List T) (p1 : Int) (v101 : T) (p3 : Int) (v103 : T) (q1 : T→T→Option Int) (a163 : Int) : Option ((Int) ⊕ (Int)):=
  (cond (decide (a163≤(w64 (p2 - 1)))) ((idx ((p0.set p1.toNat v101).set p3.toNat v103) a163).bind fun v187=>(idx ((p0.set p1.toNat v101).set p3.toNat v103) p1).bind fun v189=>(q1 v187 v189).bind fun r191=>some (decide (r191 < 0))) (some false)).bind fun c173=>cond c173 (some (.inl (w64 (a163 + 1)))) (some (.inr a163))
noncomputable def q2d {T : Type} (b166 : Int) (p0 : List T) (p1 : Int) (v101 : T) (p3 : Int) (v103 : T) (q1 : T→T→Option Int) (a249 : Int) : Option ((Int) ⊕ (Int)):=
  (cond (decide (b166≤a249)) ((idx ((p0.set p1.toNat v101).set p3.toNat v103) a249).bind fun v274=>(idx ((p0.set p1.toNat v101).set p3.toNat v103) p1).bind fun v276=>(q1 v274 v276).bind fun r278=>some (!(decide (r278 < 0)))) (some false)).bind fun c259=>cond c259 (some (.inl (w64 (a249 - 1)))) (some (.inr a249))
noncomputable def Jf {T : Type} (a514 : Int × Int × List T) (p1 : Int) (q1 : T→T→Option Int) (a572 : Int) : Option ((Int) ⊕ (Int)):=
  (cond (decide (a572≤a514.2.1)) ((idx a514.2.2 a572).bind fun v596=>(idx a514.2.2 p1).bind fun v598=>(q1 v596 v598).bind fun r600=>some (decide (r600 < 0))) (some false)).bind fun c582=>cond c582 (some (.inl (w64 (a572 + 1)))) (some (.inr a572))
noncomputable def Jg {T : Type} (b575 : Int) (a514 : Int × Int × List T) (p1 : Int) (q1 : T→T→Option Int) (a658 : Int) : Option ((Int) ⊕ (Int)):=
  (cond (decide (b575≤a658)) ((idx a514.2.2 a658).bind fun v683=>(idx a514.2.2 p1).bind fun v685=>(q1 v683 v685).bind fun r687=>some (!(decide (r687 < 0)))) (some false)).bind fun c668=>cond c668 (some (.inl (w64 (a658 - 1)))) (some (.inr a658))
noncomputable def q1e {T : Type} (p1 : Int) (q1 : T→T→Option Int) (a514 : Int × Int × List T) : Option ((Int × Int × List T) ⊕ (Int × List T)):=
  (loop (Jf a514 p1 q1) a514.1).bind fun b575=>(loop (Jg b575 a514 p1 q1) a514.2.1).bind fun b661=>cond (decide (b575 > b661)) (some (.inr (b661,a514.2.2))) ((idx a514.2.2 b661).bind fun v689=>(idx a514.2.2 b575).bind fun v691=>(idx a514.2.2 b575).bind fun _=>(idx (a514.2.2.set b575.toNat v689) b661).bind fun _=>some (.inl (w64 (b575 + 1),w64 (b661 - 1),(a514.2.2.set b575.toNat v689).set b661.toNat v691)))
noncomputable def q1b {T : Type} (q1 : T→T→Option Int) (p0 : List T) (p1 : Int) (p2 : Int) (p3 : Int) : Option (Int × Bool × List T):=
  (idx p0 p3).bind fun v101=>(idx p0 p1).bind fun v103=>(idx p0 p1).bind fun _=>(idx (p0.set p1.toNat v101) p3).bind fun _=>(loop (q2c p2 p0 p1 v101 p3 v103 q1) (w64 (p1 + 1))).bind fun b166=>(loop (q2d b166 p0 p1 v101 p3 v103 q1) (w64 (p2 - 1))).bind fun b252=>cond (decide (b166 > b252)) ((idx ((p0.set p1.toNat v101).set p3.toNat v103) p1).bind fun v288=>(idx ((p0.set p1.toNat v101).set p3.toNat v103) b252).bind fun v290=>(idx ((p0.set p1.toNat v101).set p3.toNat v103) b252).bind fun _=>(idx (((p0.set p1.toNat v101).set p3.toNat v103).set b252.toNat v288) p1).bind fun _=>some (b252,true,(((p0.set p1.toNat v101).set p3.toNat v103).set b252.toNat v288).set p1.toNat v290)) ((idx ((p0.set p1.toNat v101).set p3.toNat v103) b252).bind fun v296=>(idx ((p0.set p1.toNat v101).set p3.toNat v103) b166).bind fun v298=>(idx ((p0.set p1.toNat v101).set p3.toNat v103) b166).bind fun _=>(idx (((p0.set p1.toNat v101).set p3.toNat v103).set b166.toNat v296) b252).bind fun _=>(loop (q1e p1 q1) (w64 (b166 + 1),w64 (b252 - 1),(((p0.set p1.toNat v101).set p3.toNat v103).set b166.toNat v296).set b252.toNat v298)).bind fun b517=>(idx b517.2 p1).bind fun v697=>(idx b517.2 b517.1).bind fun v699=>(idx b517.2 b517.1).bind fun _=>(idx (b517.2.set b517.1.toNat v697) p1).bind fun _=>some (b517.1,false,(b517.2.set b517.1.toNat v697).set p1.toNat v699))
noncomputable def Zq {T : Type} (q1 : T→T→Option Int) (rec : List T→Int→Int→Int→Option (List T)) (a309 : Int × Int × Int × Bool × Bool × List T) : Option ((Int × Int × Int × Bool × Bool × List T) ⊕ (List T)):=
  cond (decide ((w64 (a309.2.1 - a309.1))≤12)) ((q2a q1 a309.2.2.2.2.2 a309.1 a309.2.1).bind fun e318=>(Qu e318.length a309.2.2.2.2.2.length).bind fun _=>some (.inr e318)) (cond (a309.2.2.1 == 0) ((q29 q1 a309.2.2.2.2.2 a309.1 a309.2.1).bind fun e328=>(Qu e328.length a309.2.2.2.2.2.length).bind fun _=>some (.inr e328)) ((cond (!a309.2.2.2.1) ((q17 q1 a309.2.2.2.2.2 a309.1 a309.2.1).bind fun e341=>(Qu e341.length a309.2.2.2.2.2.length).bind fun _=>some (w64 (a309.2.2.1 - 1),e341)) (some (a309.2.2.1,a309.2.2.2.2.2))).bind fun b340=>(q28 b340.2 a309.1 a309.2.1 q1).bind fun r346=>(cond (r346.2 == 2) ((q1f q1 b340.2 a309.1 a309.2.1).bind fun e356=>(Qu e356.length b340.2.length).bind fun _=>some (w64 ((w64 (a309.2.1 - 1)) - (w64 (r346.1 - a309.1))),1,e356)) (some (r346.1,r346.2,b340.2))).bind fun b355=>(cond a309.2.2.2.1 (some a309.2.2.2.2.1) (some false)).bind fun c361=>(cond c361 (some (b355.2.1 == 1)) (some false)).bind fun c365=>(cond c365 ((U8 q1 b355.2.2 a309.1 a309.2.1).bind fun e378=>(Qu e378.2.length b355.2.2.length).bind fun _=>cond e378.1 (some (.inr e378.2)) (some (.inl e378.2))) (some (.inl b355.2.2)) : Option ((List T) ⊕ (List T))).bind fun m376=>(match m376 with | .inl b377=>(cond (decide (a309.1 > 0)) ((idx b377 (w64 (a309.1 - 1))).bind fun v405=>(idx b377 b355.1).bind fun v407=>(q1 v405 v407).bind fun r409=>some (!(decide (r409 < 0)))) (some false)).bind fun c389=>cond c389 ((q1c q1 b377 a309.1 a309.2.1 b355.1).bind fun e416=>(Qu e416.2.length b377.length).bind fun _=>some (.inl (e416.1,a309.2.1,b340.1,a309.2.2.2.1,a309.2.2.2.2.1,e416.2))) ((q1b q1 b377 a309.1 a309.2.1 b355.1).bind fun e421=>(Qu e421.2.2.length b377.length).bind fun _=>cond (decide ((w64 (e421.1 - a309.1)) < (w64 (a309.2.1 - e421.1)))) ((rec e421.2.2 a309.1 e421.1 b340.1).bind fun e426=>(Qu e426.length e421.2.2.length).bind fun _=>some (.inl (w64 (e421.1 + 1),a309.2.1,b340.1,decide ((w64 (e421.1 - a309.1)) ≥ (w64 (Int.tdiv (w64 (a309.2.1 - a309.1)) 8))),e421.2.1,e426))) ((rec e421.2.2 (w64 (e421.1 + 1)) a309.2.1 b340.1).bind fun e431=>(Qu e431.length e421.2.2.length).bind fun _=>some (.inl (a309.1,e421.1,b340.1,decide ((w64 (a309.2.1 - e421.1)) ≥ (w64 (Int.tdiv (w64 (a309.2.1 - a309.1)) 8))),e421.2.1,e431)))) | .inr x1=>some (.inr x1))))
noncomputable def Up {T : Type} (rec : List T→Int→Int→Int→Option (List T)) (q1 : T→T→Option Int) (p0 : List T) (p1 : Int) (p2 : Int) (p3 : Int) : Option (List T):=
  (loop (Zq q1 rec) (p1,p2,p3,true,true,p0)).bind fun x0=>some x0
noncomputable def Zh {T : Type} : Nat→(T→T→Option Int)→List T→Int→Int→Int→Option (List T)
  | 0,_,_,_,_,_=>none
  | n + 1,q1,p0,p1,p2,p3=>Up (Zh n q1) q1 p0 p1 p2 p3
noncomputable def q27 {T : Type} (q1 : T→T→Option Int) (p0 : List T) : Option (List T):=
  (q16 (IntKind.wrap .u64 (p0.length : Int))).bind fun r101=>(lim (fun n=>Zh n q1 p0 0 (p0.length : Int) r101)).bind fun e103=>(Qu e103.length p0.length).bind fun _=>some e103
end Go.Sh
namespace Go.Sh
open Go Go.Am
section
variable {T : Type} [Inhabited T] {P : T→Prop} {lt : T→T→Bool} {q : T→T→Option Int}
def Kz (q : T→T→Option Int) (lt : T→T→Bool) (P : T→Prop) : Prop:=∀ x y,P x→P y→∃ r,q x y = some r∧decide (r < 0) = lt x y
def AllP (n : Nat) (P : T→Prop) (d : Array T) : Prop:=d.size = n∧n≤1000000∧∀ i,i < n→P d[i]!
theorem gx {d : Array T} {k : Nat} (h : k < d.size) : idx d.toList (k : Int) = some d[k]!:=by
  simp [idx,h]
theorem gxs {d : Array T} {k : Nat} {i : Nat} {v : T} (h : k < d.size) : idx (d.toList.set i v) (k : Int) = some (d.setIfInBounds i v)[k]!:=by
  have : d.toList.set i v = (d.setIfInBounds i v).toList:=by simp
  rw [this];exact gx (by simpa using h)
theorem gswp {d : Array T} {i j : Nat} : (d.toList.set i d[j]!).set j d[i]! = (Sort.swp d i j).toList:=by simp [Sort.swp]
theorem AllP.swp {n : Nat} {d : Array T} (h : AllP n P d) {a b : Nat} (j : a < n) (hb : b < n) : AllP n P (Sort.swp d a b):=by
  obtain ⟨f,l,c⟩:=h;refine ⟨by rw [Sort.swp_size];exact f,l,fun k g=>?_⟩;rw [Sort.swp_get d q0 q0]
  repeat' split
  all_goals first | exact c _ j | exact c _ hb | exact c _ g
theorem AllP.perm {n : Nat} {d c : Array T} (h : AllP n P d) {a b : Nat} (_ : a≤b) (hb : b≤n) (hp : Sort.PermIn a b d c) : AllP n P c:=by
  obtain ⟨j,l,g⟩:=h;refine ⟨by rw [hp.1];exact j,l,fun k m=>?_⟩;by_cases f : k < a∨b≤k
  · rw [hp.2.1 k f];exact g k m
  · exact Sort.permIn_all d c a b P q0 hp (fun i hi o=>g i q0) k q0 q0
theorem w1m (j : Nat) (h : j < 2000000) : w64 (((j + 1 : Nat) : Int) - 1) = (j : Int):=by rw [Q5 q0];omega
theorem w1p (j : Nat) (h : j < 2000000) : w64 ((j : Int) + 1) = ((j + 1 : Nat) : Int):=by rw [Q5 q0];omega
theorem wsub {a b : Nat} (h : a≤b) (c : b < 2000000) : w64 ((b : Int) - (a : Int)) = ((b - a : Nat) : Int):=by rw [Q5 q0];omega
theorem qj8 (o : Kz q lt P) (a n : Nat) : ∀ (j : Nat) (d : Array T),AllP n P d→j < n→loop (U6 (a : Int) q) ((j : Int),d.toList) = some (Sort.insInner lt a j d).toList∧AllP n P (Sort.insInner lt a j d)
  | 0,d,hd,hj=>by
    have c : decide (((0 : Nat) : Int) > (a : Int)) = false:=Qb q0
    refine ⟨Kg ?_,hd⟩
    simp only [U6,c,Q1,qh];rfl
  | j + 1,d,hd,hj=>by
    have p:=hd.1
    have s:=hd.2.1
    unfold Sort.insInner
    by_cases m : j + 1 > a
    · have c : decide (((j + 1 : Nat) : Int) > (a : Int)) = true:=Q9 q0
      obtain ⟨r,g,l⟩:=o d[j + 1]! d[j]! (hd.2.2 _ hj) (hd.2.2 _ q0)
      by_cases f : lt d[j + 1]! d[j]! = true
      · rw [qs (by simp [m,f])]
        have h:=qj8 o a n j _ (hd.swp (a:=j + 1) (b:=j) hj q0) q0
        refine ⟨?_,h.2⟩
        rw [Ke (a':=((j : Int),(Sort.swp d (j + 1) j).toList)) ?_]
        · exact h.1
        · simp only [U6,c,Q2,gx (d:=d) (k:=j + 1) q0,w1m j q0,gx (d:=d) (k:=j) q0,gxs (d:=d) (k:=j) q0,qh,g,l,f,Int.toNat_natCast,gswp]
      · rw [qx (by simp [f])]
        refine ⟨Kg ?_,hd⟩
        simp only [U6,c,Q2,gx (d:=d) (k:=j + 1) q0,w1m j q0,gx (d:=d) (k:=j) q0,qh,g,l,f,Q1]
    · rw [qx (by simp [m])]
      have c : decide (((j + 1 : Nat) : Int) > (a : Int)) = false:=Qb q0
      refine ⟨Kg ?_,hd⟩
      simp only [U6,c,Q1,qh]
theorem qqz (g : Kz q lt P) (a b n : Nat) (hb : b≤n) : ∀ (m i : Nat) (d : Array T),b - i = m→AllP n P d→i≤1000001→loop (q1a (b : Int) (a : Int) q) ((i : Int),d.toList) = some (Sort.insOuter lt a b i d).toList:=by
  intro m
  induction m with
  | zero=>
    intro i d h hd hi;unfold Sort.insOuter;rw [qx q0];have c : decide ((i : Int) < (b : Int)) = false:=Qb q0;exact Kg (by simp only [q1a,c,Q1])
  | succ m ih=>
    intro i d h hd hi;unfold Sort.insOuter;rw [qs q0];have c : decide ((i : Int) < (b : Int)) = true:=Q9 q0;obtain ⟨f,j⟩:=qj8 g a n i d hd q0;have:=hd.2.1;rw [Ke (a':=(((i + 1 : Nat) : Int),(Sort.insInner lt a i d).toList)) ?_]
    · exact ih (i + 1) _ q0 j q0
    · simp only [q1a,c,Q2,f,qh,w1p i q0]
theorem qr1 (f : Kz q lt P) {a b n : Nat} (hb : b≤n) (c : a≤b) {d : Array T} (hd : AllP n P d) : q2a q d.toList (a : Int) (b : Int) = some (Sort.insertionSort lt d a b).toList:=by
  have:=hd.2.1;unfold q2a Sort.insertionSort;rw [w1p a q0,qqz f a b n hb _ (a + 1) d rfl hd q0];rfl
theorem qwd (hq : Kz q lt P) (hi first n : Nat) (hb : first + hi≤n) : ∀ (m root : Nat) (d : Array T),hi - root = m→AllP n P d→root≤1000000→(root < hi∨hi≤1)→loop (U9 (hi : Int) (first : Int) q) ((root : Int),d.toList) = some (Sort.siftDown lt hi first root d).toList∧AllP n P (Sort.siftDown lt hi first root d):=by
  intro m
  induction m using Nat.strongRecOn with
  | _ m ih=>
    intro root d hm hd hr am;have an:=hd.1;have hn:=hd.2.1;unfold Sort.siftDown;have e1 : w64 ((w64 (2 * (root : Int))) + 1) = ((2 * root + 1 : Nat) : Int):=by rw [Q5 (x:=2 * (root : Int)) q0,Q5 q0];omega
    by_cases hc : 2 * root + 1 ≥ hi
    · rw [dif_pos hc];have u : decide (((2 * root + 1 : Nat) : Int) ≥ (hi : Int)) = true:=Q9 q0;refine ⟨Kg ?_,hd⟩;simp only [U9,e1,u,Q2]
    · rw [dif_neg hc];have u : decide (((2 * root + 1 : Nat) : Int) ≥ (hi : Int)) = false:=Qb q0;have e2 : w64 (((2 * root + 1 : Nat) : Int) + 1) = ((2 * root + 2 : Nat) : Int):=w1p _ q0;have e3 : w64 ((first : Int) + ((2 * root + 1 : Nat) : Int)) = ((first + (2 * root + 1) : Nat) : Int):=by rw [Q5 q0];omega
      have e4 : w64 ((first : Int) + ((2 * root + 2 : Nat) : Int)) = ((first + (2 * root + 2) : Nat) : Int):=by rw [Q5 q0];omega
      have e5 : w64 ((first : Int) + (root : Int)) = ((first + root : Nat) : Int):=by rw [Q5 q0];omega
      have e6 : w64 (((first + (2 * root + 1) : Nat) : Int) + 1) = ((first + (2 * root + 2) : Nat) : Int):=w1p _ q0;have x1:=gx (d:=d) (k:=first + (2 * root + 1)) q0;have x0:=gx (d:=d) (k:=first + root) q0
      have child : ∀ c,(c = 2 * root + 1∨c = 2 * root + 2)→c < hi→
          (∀ (h : (cond (decide (((2 * root + 2 : Nat) : Int) < (hi : Int))) ((idx d.toList ((first + (2 * root + 1) : Nat) : Int)).bind fun j=>(idx d.toList ((first + (2 * root + 2) : Nat) : Int)).bind fun s=>(q j s).bind fun t=>some (decide (t < 0))) (some false)) = some (decide (c = 2 * root + 2))),
          (loop (U9 (hi : Int) (first : Int) q) ((root : Int),d.toList) = some (if (!lt d[first + root]! d[first + c]!) = true then d else Sort.siftDown lt hi first c (Sort.swp d (first + root) (first + c))).toList)∧AllP n P (if (!lt d[first + root]! d[first + c]!) = true then d else Sort.siftDown lt hi first c (Sort.swp d (first + root) (first + c)))):=by
        intro c z y h
        have xc:=gx (d:=d) (k:=first + c) q0
        have xs:=fun v=>gxs (d:=d) (k:=first + c) (i:=first + root) (v:=v) q0
        obtain ⟨r,p,g⟩:=hq d[first + root]! d[first + c]! (hd.2.2 _ q0) (hd.2.2 _ q0)
        have hb : (cond (decide (c = 2 * root + 2)) (some ((2 * root + 2 : Nat) : Int)) (some ((2 * root + 1 : Nat) : Int))) = some (c : Int):=by
          rcases z with rfl | rfl
          · simp
          · simp
        have ec : w64 ((first : Int) + (c : Int)) = ((first + c : Nat) : Int):=by rw [Q5 q0];omega
        by_cases f : lt d[first + root]! d[first + c]! = true
        · have o:=ih (hi - c) q0 c _ rfl (hd.swp (a:=first + root) (b:=first + c) q0 q0) q0 (.inl y)
          rw [qx (by simp [f])]
          refine ⟨?_,o.2⟩
          rw [Ke (a':=((c : Int),(Sort.swp d (first + root) (first + c)).toList)) ?_]
          · exact o.1
          · simp only [U9,e1,u,Q1,e2,e3,e6,h,qh,hb,e5,ec,x0,xc,xs,p,g,f,Bool.not_true,Int.toNat_natCast,gswp]
        · rw [qs (by simp [f])]
          refine ⟨Kg ?_,hd⟩
          simp only [U9,e1,u,Q1,e2,e3,e6,h,qh,hb,e5,ec,x0,xc,p,g,f,Bool.not_false,Q2]
      by_cases l : 2 * root + 2 < hi
      · have x2:=gx (d:=d) (k:=first + (2 * root + 2)) q0;have w : decide (((2 * root + 2 : Nat) : Int) < (hi : Int)) = true:=Q9 q0;obtain ⟨r,p,g⟩:=hq d[first + (2 * root + 1)]! d[first + (2 * root + 2)]! (hd.2.2 _ q0) (hd.2.2 _ q0);by_cases f : lt d[first + (2 * root + 1)]! d[first + (2 * root + 2)]! = true
        · rw [qs (by simp only [Bool.and_eq_true,decide_eq_true_eq];exact ⟨q0,f⟩)];have:=child (2 * root + 2) (.inr rfl) l (by simp only [w,Q2,x1,x2,qh,p,g,f,decide_true]);rw [dif_pos l];exact this
        · rw [qx (by simp only [Bool.and_eq_true,decide_eq_true_eq];rintro ⟨_,h⟩;exact f h)];have:=child (2 * root + 1) (.inl rfl) q0 (by simp only [w,Q2,x1,x2,qh,p,g,f];simp);exact this
      · have w : decide (((2 * root + 2 : Nat) : Int) < (hi : Int)) = false:=Qb q0;rw [qx (by simp only [Bool.and_eq_true,decide_eq_true_eq];rintro ⟨h,_⟩;omega)];have:=child (2 * root + 1) (.inl rfl) q0 (by simp only [w,Q1];simp);exact this
end
end Go.Sh
namespace Go.Sh
open Go Go.Am
section
variable {T : Type} [Inhabited T] {P : T→Prop} {lt : T→T→Bool} {q : T→T→Option Int}
theorem Ua {n : Nat} {d a : Array T} (h : AllP n P d) (b : AllP n P a) : Qu a.toList.length d.toList.length = some ():=by
  unfold Qu;rw [qs (by simp [h.1,b.1])]
theorem qiv (f : Kz q lt P) (hi first n root : Nat) (hb : first + hi≤n) (d : Array T) (hd : AllP n P d) (c : root≤1000000) (g : root < hi∨hi≤1) : Uq q d.toList (root : Int) (hi : Int) (first : Int) = some (Sort.siftDown lt hi first root d).toList∧AllP n P (Sort.siftDown lt hi first root d):=by
  obtain ⟨b,a⟩:=qwd f hi first n hb _ root d rfl hd c g;exact ⟨by unfold Uq;rw [b];rfl,a⟩
theorem qj3 (g : Kz q lt P) (a b n : Nat) (hb : b≤n) (c : a≤b) : ∀ (k : Nat) (d : Array T),AllP n P d→(k≤b - a∨b - a = 0∧k≤1)→loop (q18 q (b : Int) (a : Int)) ((k : Int) - 1,d.toList) = some (Sort.heapBuild lt (b - a) a k d).toList∧AllP n P (Sort.heapBuild lt (b - a) a k d)
  | 0,d,hd,hk=>by
    have f : decide (((0 : Nat) : Int) - 1 ≥ 0) = false:=Qb q0
    refine ⟨Kg ?_,hd⟩
    simp only [q18,f,Q1];rfl
  | k + 1,d,hd,hk=>by
    have o:=hd.2.1
    have e : (((k + 1 : Nat) : Int) - 1) = (k : Int):=by omega
    rw [e]
    have f : decide ((k : Int) ≥ 0) = true:=Q9 q0
    obtain ⟨l,j⟩:=qiv g (b - a) a n k q0 d hd q0 q0
    have h:=qj3 g a b n hb c k _ j q0
    refine ⟨?_,h.2⟩
    rw [Ke (a':=((k : Int) - 1,(Sort.siftDown lt (b - a) a k d).toList)) ?_]
    · exact h.1
    · have m : w64 ((k : Int) - 1) = (k : Int) - 1:=Q5 q0
      simp only [q18,f,Q2,wsub c (by omega : b < 2000000),l,qh,Ua hd j,m]
theorem qj4 (h : Kz q lt P) (a n : Nat) : ∀ (k : Nat) (d : Array T),AllP n P d→a + k≤n→loop (q19 (a : Int) q) ((k : Int) - 1,d.toList) = some (Sort.heapPop lt a k d).toList
  | 0,d,hd,hk=>by
    have f : decide (((0 : Nat) : Int) - 1 ≥ 0) = false:=Qb q0
    refine Kg ?_
    simp only [q19,f,Q1];rfl
  | k + 1,d,hd,hk=>by
    have o:=hd.1
    have r:=hd.2.1
    have e : (((k + 1 : Nat) : Int) - 1) = (k : Int):=by omega
    rw [e]
    have f : decide ((k : Int) ≥ 0) = true:=Q9 q0
    have c:=hd.swp (a:=a) (b:=a + k) q0 q0
    obtain ⟨g,j⟩:=qiv h k a n 0 q0 _ c q0 q0
    have p:=qj4 h a n k _ j q0
    rw [Ke (a':=((k : Int) - 1,(Sort.siftDown lt k a 0 (Sort.swp d a (a + k))).toList)) ?_]
    · exact p
    · have l : w64 ((k : Int) - 1) = (k : Int) - 1:=Q5 q0
      have m : w64 ((a : Int) + (k : Int)) = ((a + k : Nat) : Int):=by rw [Q5 q0];omega
      have g : Uq q (Sort.swp d a (a + k)).toList 0 (k : Int) (a : Int) = _:=g
      simp only [q19,f,Q2,m,gx (d:=d) (k:=a) q0,gx (d:=d) (k:=a + k) q0,gxs (d:=d) (k:=a + k) q0,qh,Int.toNat_natCast,gswp,g,Ua c j,l]
theorem qqs (c : Kz q lt P) {a b n : Nat} (hb : b≤n) (j : a < b) {d : Array T} (hd : AllP n P d) : q29 q d.toList (a : Int) (b : Int) = some (Sort.heapSort lt d a b).toList:=by
  have m:=hd.2.1;have h : w64 ((b : Int) - (a : Int)) = ((b - a : Nat) : Int):=wsub q0 q0;have f : w64 (((b - a : Nat) : Int) - 1) = ((b - a : Nat) : Int) - 1:=Q5 q0
  have k : w64 (Int.tdiv (((b - a : Nat) : Int) - 1) 2) = (((b - a - 1) / 2 + 1 : Nat) : Int) - 1:=by
    rw [Int.tdiv_eq_ediv_of_nonneg q0,Q5 q0];omega
  obtain ⟨g,l⟩:=qj3 c a b n hb q0 ((b - a - 1) / 2 + 1) d hd q0;unfold q29 Sort.heapSort;rw [h,f,k,g,qh,qj4 c a n (b - a) _ l q0];rfl
theorem quv (n : Nat) : ∀ (m i j : Nat) (d : Array T),j - i = m→AllP n P d→j < n→i≤1000001→loop (q2e (T:=T)) ((i : Int),(j : Int),d.toList) = some (Sort.reverseLoop i j d).toList:=by
  intro m
  induction m using Nat.strongRecOn with
  | _ m ih=>
    intro i j d h hd g hi;have f:=hd.1;have l:=hd.2.1;unfold Sort.reverseLoop;by_cases b : i < j
    · rw [qs b];have a : decide ((i : Int) < (j : Int)) = true:=Q9 q0;have c : w64 ((j : Int) - 1) = ((j - 1 : Nat) : Int):=by rw [Q5 q0];omega
      rw [Ke (a':=(((i + 1 : Nat) : Int),((j - 1 : Nat) : Int),(Sort.swp d i j).toList)) ?_]
      · exact ih _ q0 _ _ _ rfl (hd.swp q0 g) q0 q0
      · simp only [q2e,a,Q2,gx (d:=d) (k:=i) q0,gx (d:=d) (k:=j) q0,gxs (d:=d) (k:=j) q0,qh,Int.toNat_natCast,gswp,c,w1p i q0]
    · rw [qx b];have a : decide ((i : Int) < (j : Int)) = false:=Qb q0;exact Kg (by simp only [q2e,a,Q1])
theorem quw {a b n : Nat} (hb : b≤n) (f : a < b) {d : Array T} (hd : AllP n P d) : q1f q d.toList (a : Int) (b : Int) = some (Sort.reverseRange d a b).toList:=by
  have g:=hd.2.1;have c : w64 ((b : Int) - 1) = ((b - 1 : Nat) : Int):=by rw [Q5 q0];omega
  unfold q1f Sort.reverseRange;rw [c,quv n _ a (b - 1) d rfl hd q0 q0];rfl
theorem qf9 (j : Kz q lt P) {n : Nat} {d : Array T} (hd : AllP n P d) {a b s : Nat} (f : a < n) (hb : b < n) (hs : s≤1000) : Uj q d.toList (a : Int) (b : Int) (s : Int) = some (((Sort.order2 lt d a b s).1 : Int),((Sort.order2 lt d a b s).2.1 : Int),((Sort.order2 lt d a b s).2.2 : Int))∧(Sort.order2 lt d a b s).1 < n∧(Sort.order2 lt d a b s).2.1 < n∧(Sort.order2 lt d a b s).2.2≤s + 1:=by
  have h:=hd.1;obtain ⟨r,g,l⟩:=j d[b]! d[a]! (hd.2.2 _ hb) (hd.2.2 _ f);unfold Uj Sort.order2;rw [gx (d:=d) (k:=b) q0,gx (d:=d) (k:=a) q0];simp only [qh,g,l];by_cases c : lt d[b]! d[a]! = true
  · rw [qs c];simp only [c,Q2,w1p s q0];exact ⟨trivial,hb,f,q0⟩
  · rw [qx c];have : lt d[b]! d[a]! = false:=by simpa using c
    simp only [this,Q1];exact ⟨trivial,f,hb,q0⟩
theorem qet (f : Kz q lt P) {n : Nat} {d : Array T} (hd : AllP n P d) {a b c s : Nat} (l : a < n) (hb : b < n) (p : c < n) (hs : s≤900) : Ui q d.toList (a : Int) (b : Int) (c : Int) (s : Int) = some (((Sort.median lt d a b c s).1 : Int),((Sort.median lt d a b c s).2 : Int))∧(Sort.median lt d a b c s).1 < n∧(Sort.median lt d a b c s).2≤s + 3:=by
  obtain ⟨h,o,b1,c1⟩:=qf9 f hd l hb (s:=s) q0;obtain ⟨k,m,r,c2⟩:=qf9 f hd b1 p (s:=(Sort.order2 lt d a b s).2.2) q0;obtain ⟨j,t,g,c3⟩:=qf9 f hd o m (s:=(Sort.order2 lt d (Sort.order2 lt d a b s).2.1 c (Sort.order2 lt d a b s).2.2).2.2) q0;unfold Ui Sort.median;simp only [h,k,j,qh];exact ⟨trivial,g,q0⟩
theorem qes (h : Kz q lt P) {n : Nat} {d : Array T} (hd : AllP n P d) {a s : Nat} (l : 1≤a) (f : a + 1 < n) (hs : s≤900) : U7 q d.toList (a : Int) (s : Int) = some (((Sort.medianAdjacent lt d a s).1 : Int),((Sort.medianAdjacent lt d a s).2 : Int))∧(Sort.medianAdjacent lt d a s).1 < n∧(Sort.medianAdjacent lt d a s).2≤s + 3:=by
  have m:=hd.2.1;obtain ⟨g,k,j⟩:=qet h hd (a:=a - 1) (b:=a) (c:=a + 1) (s:=s) q0 q0 f hs;have e : w64 ((a : Int) - 1) = ((a - 1 : Nat) : Int):=by rw [Q5 q0];omega
  unfold U7 Sort.medianAdjacent;rw [e,w1p a q0,g];exact ⟨rfl,k,j⟩
def qeb : Sort.Hint→Int
  | .unknown=>0
  | .increasing=>1
  | .decreasing=>2
theorem qox (u : Kz q lt P) {n : Nat} {d : Array T} (hd : AllP n P d) {a b : Nat} (an : a < b) (hb : b≤n) : q28 d.toList (a : Int) (b : Int) q = some (((Sort.choosePivot lt d a b).1 : Int),qeb (Sort.choosePivot lt d a b).2):=by
  have hn:=hd.2.1;have e0 : w64 ((b : Int) - (a : Int)) = ((b - a : Nat) : Int):=wsub q0 q0
  have e1 : w64 (Int.tdiv ((b - a : Nat) : Int) 4) = (((b - a) / 4 : Nat) : Int):=by
    rw [Int.tdiv_eq_ediv_of_nonneg q0,Q5 q0];omega
  have y : ∀ k : Nat,k≤3→w64 ((a : Int) + (w64 ((((b - a) / 4 : Nat) : Int) * (k : Int)))) = ((a + (b - a) / 4 * k : Nat) : Int):=by
    intro k hk;have : (b - a) / 4 * k≤(b - a) / 4 * 3:=Nat.mul_le_mul_left _ hk;have e : ((((b - a) / 4 : Nat) : Int) * (k : Int)) = (((b - a) / 4 * k : Nat) : Int):=by push_cast;rfl
    rw [e,Q5 (x:=(((b - a) / 4 * k : Nat) : Int)) q0,Q5 q0];omega
  have o:=y 1 q0;have g:=y 2 q0;have m:=y 3 q0
  have f : ∀ r : Nat × Nat,(cond (((r.2 : Int)) == 0) (some ((r.1 : Int),(1 : Int))) (cond (((r.2 : Int)) == 12) (some ((r.1 : Int),(2 : Int))) (some ((r.1 : Int),(0 : Int))))) = some ((r.1 : Int),qeb (if r.2 = 0 then Sort.Hint.increasing else if r.2 = 12 then Sort.Hint.decreasing else Sort.Hint.unknown)):=by
    intro r;by_cases v : r.2 = 0
    · have : ((r.2 : Int) == 0) = true:=by simp [v]
      simp only [this,Q2,qs v];rfl
    · have t0 : ((r.2 : Int) == 0) = false:=by simp;omega
      by_cases j : r.2 = 12
      · have : ((r.2 : Int) == 12) = true:=by simp;omega
        simp only [t0,this,Q2,Q1,qx v,qs j];rfl
      · have : ((r.2 : Int) == 12) = false:=by simp;omega
        simp only [t0,this,Q1,qx v,qx j];rfl
  unfold q28 Sort.choosePivot;simp only [e0,e1];by_cases h8 : b - a ≥ 8
  · have w : decide (((b - a : Nat) : Int) ≥ 8) = true:=Q9 q0;by_cases l : b - a ≥ 50
    · have h : decide (((b - a : Nat) : Int) ≥ 50) = true:=Q9 q0;obtain ⟨z,y1,z1⟩:=qes u hd (a:=a + (b - a) / 4 * 1) (s:=0) q0 q0 q0;obtain ⟨x2,y2,z2⟩:=qes u hd (a:=a + (b - a) / 4 * 2) (s:=(Sort.medianAdjacent lt d (a + (b - a) / 4 * 1) 0).2) q0 q0 q0;obtain ⟨x3,y3,z3⟩:=qes u hd (a:=a + (b - a) / 4 * 3) (s:=(Sort.medianAdjacent lt d (a + (b - a) / 4 * 2) (Sort.medianAdjacent lt d (a + (b - a) / 4 * 1) 0).2).2) q0 q0 q0;obtain ⟨t,y4,z4⟩:=qet u hd y1 y2 y3 (s:=(Sort.medianAdjacent lt d (a + (b - a) / 4 * 3) (Sort.medianAdjacent lt d (a + (b - a) / 4 * 2) (Sort.medianAdjacent lt d (a + (b - a) / 4 * 1) 0).2).2).2) q0;simp only [qs h8,qs l,w,h,Q2];have g1 : w64 ((a : Int) + (w64 ((((b - a) / 4 : Nat) : Int) * 1))) = _:=o;have p : w64 ((a : Int) + (w64 ((((b - a) / 4 : Nat) : Int) * 2))) = _:=g;have g3 : w64 ((a : Int) + (w64 ((((b - a) / 4 : Nat) : Int) * 3))) = _:=m;have z : U7 q d.toList ((a + (b - a) / 4 * 1 : Nat) : Int) 0 = _:=z;rw [g1,p,g3];simp only [z,x2,x3,t,qh];exact f _
    · have h : decide (((b - a : Nat) : Int) ≥ 50) = false:=Qb q0;obtain ⟨t,y4,z4⟩:=qet u hd (a:=a + (b - a) / 4 * 1) (b:=a + (b - a) / 4 * 2) (c:=a + (b - a) / 4 * 3) (s:=0) q0 q0 q0 q0;simp only [qs h8,qx l,w,h,Q2,Q1];have g1 : w64 ((a : Int) + (w64 ((((b - a) / 4 : Nat) : Int) * 1))) = _:=o;have p : w64 ((a : Int) + (w64 ((((b - a) / 4 : Nat) : Int) * 2))) = _:=g;have g3 : w64 ((a : Int) + (w64 ((((b - a) / 4 : Nat) : Int) * 3))) = _:=m;have t : Ui q d.toList ((a + (b - a) / 4 * 1 : Nat) : Int) ((a + (b - a) / 4 * 2 : Nat) : Int) ((a + (b - a) / 4 * 3 : Nat) : Int) 0 = _:=t;rw [g1,p,g3];simp only [t,qh];exact f _
  · have w : decide (((b - a : Nat) : Int) ≥ 8) = false:=Qb q0;simp only [qx h8,w,Q1];have p : w64 ((a : Int) + (w64 ((((b - a) / 4 : Nat) : Int) * 2))) = _:=g;rw [p];simp only [qh];exact f (a + (b - a) / 4 * 2,0)
end
end Go.Sh
namespace Go.Sh
open Go Go.Am
theorem q1x (n : Int) : IntKind.u64.wrap n = n % 18446744073709551616:=by simp [IntKind.wrap,IntKind.bits,IntKind.signed]
theorem q11m (n : Int) : IntKind.u8.wrap n = n % 256:=by simp [IntKind.wrap,IntKind.bits,IntKind.signed]
theorem xorU (a b : Nat) (d : a < 18446744073709551616) (hb : b < 18446744073709551616) : xorI .u64 (a : Int) (b : Int) = ((a ^^^ b : Nat) : Int):=by
  have c : a ^^^ b < 2 ^ 64:=Nat.xor_lt_two_pow q0 q0;unfold xorI;rw [q1x];show ((BitVec.ofInt 64 (a : Int) ^^^ BitVec.ofInt 64 (b : Int)).toNat : Int) % _ = _;rw [BitVec.ofInt_natCast,BitVec.ofInt_natCast,BitVec.toNat_xor,BitVec.toNat_ofNat,BitVec.toNat_ofNat,Nat.mod_eq_of_lt (a:=a) q0,Nat.mod_eq_of_lt (a:=b) q0];omega
theorem andU (a b : Nat) (d : a < 18446744073709551616) (hb : b < 18446744073709551616) : andI .u64 (a : Int) (b : Int) = ((a &&& b : Nat) : Int):=by
  have c : a &&& b≤a:=Nat.and_le_left;unfold andI;rw [q1x];show ((BitVec.ofInt 64 (a : Int) &&& BitVec.ofInt 64 (b : Int)).toNat : Int) % _ = _;rw [BitVec.ofInt_natCast,BitVec.ofInt_natCast,BitVec.toNat_and,BitVec.toNat_ofNat,BitVec.toNat_ofNat,Nat.mod_eq_of_lt (a:=a) q0,Nat.mod_eq_of_lt (a:=b) q0];omega
theorem q11p (X : Nat) (c : X < 18446744073709551616) : q2f (X : Int) = some ((Sort.xorNextN X : Nat) : Int):=by
  obtain ⟨A,a⟩ : ∃ A : Nat,A = X ^^^ (X * 8192 % 18446744073709551616):=⟨_,rfl⟩
  obtain ⟨B,b⟩ : ∃ B : Nat,B = A ^^^ (A / 128):=⟨_,rfl⟩
  have k : A < 18446744073709551616:=by rw [a];exact Nat.xor_lt_two_pow (n:=64) q0 q0
  have g : B < 18446744073709551616:=by rw [b];exact Nat.xor_lt_two_pow (n:=64) q0 q0
  have h : xorI .u64 (X : Int) (IntKind.u64.wrap ((X : Int) * 2 ^ 13)) = (A : Int):=by
    rw [q1x,show ((X : Int) * 2 ^ 13 % 18446744073709551616) = ((X * 8192 % 18446744073709551616 : Nat) : Int) by omega,xorU _ _ c q0,a]
  have d : xorI .u64 (A : Int) (Int.fdiv (A : Int) (2 ^ 7)) = (B : Int):=by
    rw [Int.fdiv_eq_ediv_of_nonneg _ qn,show ((A : Int) / 2 ^ 7) = ((A / 128 : Nat) : Int) by omega,xorU _ _ k q0,b]
  have f : xorI .u64 (B : Int) (IntKind.u64.wrap ((B : Int) * 2 ^ 17)) = ((B ^^^ (B * 131072 % 18446744073709551616) : Nat) : Int):=by
    rw [q1x,show ((B : Int) * 2 ^ 17 % 18446744073709551616) = ((B * 131072 % 18446744073709551616 : Nat) : Int) by omega,xorU _ _ g q0]
  have j : Sort.xorNextN X = B ^^^ (B * 131072 % 18446744073709551616):=by unfold Sort.xorNextN;simp only [];rw [← a,← b]
  unfold q2f;rw [h,d,f,j]
theorem q114 : ∀ k : Nat,k < 256→q4o q52 (k : Int) = some ((Sort.bitsLen k : Nat) : Int):=by
  have key : ∀ k : Fin 256,(q52[k.1]?).map (fun b=>b.toNat) = some (Sort.bitsLen k.1):=by decide +kernel
  intro k c;have:=key ⟨k,c⟩;unfold q4o;rw [qs q0,Int.toNat_natCast];simp only [Y3] at this ⊢;obtain ⟨b,a,d⟩:=this;exact ⟨b,a,by rw [d]⟩
theorem qgu (n k : Nat) (h : 2 ^ k≤n) : Sort.bitsLen n = Sort.bitsLen (n / 2 ^ k) + k:=by
  have hp : 0 < 2 ^ k:=Nat.two_pow_pos k;apply Nat.le_antisymm
  · rw [Sort.bitsLen_le_iff];have:=Sort.lt_two_pow_bitsLen (n / 2 ^ k);rw [Nat.pow_add];exact (Nat.div_lt_iff_lt_mul hp).1 this
  · have b : k < Sort.bitsLen n:=by
      rcases Nat.lt_or_ge k (Sort.bitsLen n) with a | a
      · exact a
      · have:=(Sort.bitsLen_le_iff n k).1 a;omega
    have : Sort.bitsLen (n / 2 ^ k)≤Sort.bitsLen n - k:=by
      rw [Sort.bitsLen_le_iff,Nat.div_lt_iff_lt_mul hp,← Nat.pow_add,Nat.sub_add_cancel q0];exact Sort.lt_two_pow_bitsLen n
    omega
theorem qjl (n : Nat) (j : n≤1000000) : q16 (n : Int) = some ((Sort.bitsLen n : Nat) : Int):=by
  unfold q16 q3j;have d : decide ((n : Int) ≥ 4294967296) = false:=Qb q0;simp only [d,Q1,qh]
  have fin : ∀ m s : Nat,m < 256→s≤16→(q4o q52 (IntKind.u8.wrap (m : Int))).bind (fun b=>some (w64 ((s : Int) + (w64 b)))) = some ((Sort.bitsLen m + s : Nat) : Int):=by
    intro m s f hs;rw [q11m,show ((m : Int) % 256) = (m : Int) by omega,q114 m f];have : Sort.bitsLen m≤8:=(Sort.bitsLen_le_iff m 8).2 q0;rw [qh,Q5 (x:=((Sort.bitsLen m : Nat) : Int)) q0,Q5 q0];congr 1;omega
  by_cases g : n ≥ 65536
  · have c : decide ((n : Int) ≥ 65536) = true:=Q9 q0;have e : Int.fdiv (n : Int) (2 ^ 16) = ((n / 65536 : Nat) : Int):=by rw [Int.fdiv_eq_ediv_of_nonneg _ qn];omega
    have a : decide (((n / 65536 : Nat) : Int) ≥ 256) = false:=Qb q0;have w : w64 (0 + 16) = ((16 : Nat) : Int):=by rw [Q5 q0];rfl
    simp only [c,Q2,qh,e,a,Q1,w];rw [fin (n / 65536) 16 q0 q0,qh,qgu n 16 q0]
  · have c : decide ((n : Int) ≥ 65536) = false:=Qb q0;simp only [c,Q1,qh];by_cases h : n ≥ 256
    · have a : decide ((n : Int) ≥ 256) = true:=Q9 q0;have e : Int.fdiv (n : Int) (2 ^ 8) = ((n / 256 : Nat) : Int):=by rw [Int.fdiv_eq_ediv_of_nonneg _ qn];omega
      have w : w64 (0 + 8) = ((8 : Nat) : Int):=by rw [Q5 q0];rfl
      simp only [a,Q2,qh,e,w];rw [fin (n / 256) 8 q0 q0,qh,qgu n 8 q0]
    · have a : decide ((n : Int) ≥ 256) = false:=Qb q0;simp only [a,Q1,qh];have:=fin n 0 q0 q0;exact congrArg (fun o=>Option.bind o some) this
theorem qs1 (n : Nat) (a : n≤1000000) : q2b (n : Int) = some ((1 <<< Sort.bitsLen n : Nat) : Int):=by
  unfold q2b;rw [q1x,show ((n : Int) % 18446744073709551616) = (n : Int) by omega,qjl n a];have b : Sort.bitsLen n≤20:=(Sort.bitsLen_le_iff n 20).2 q0;have h : (2 : Nat) ^ Sort.bitsLen n≤2 ^ 20:=Nat.pow_le_pow_right qn b;have e : min (Sort.bitsLen n) IntKind.u64.bits = Sort.bitsLen n:=Nat.min_eq_left (by show _≤64;omega);simp only [qh,shlK];rw [qx q0,Int.toNat_natCast,e,q1x,Nat.one_shiftLeft,qh,show ((1 : Int) * (2 : Int) ^ Sort.bitsLen n) = ((2 ^ Sort.bitsLen n : Nat) : Int) by push_cast;omega];generalize (2 : Nat) ^ Sort.bitsLen n = p at h;congr 1;omega
section
variable {T : Type} [Inhabited T] {P : T→Prop} {lt : T→T→Bool} {q : T→T→Option Int}
theorem qd6 {a b n : Nat} (hb : b≤n) (h8 : 8≤b - a) {d : Array T} (hd : AllP n P d) (k : Nat) (hk : k≤2) (r : UInt64) :
    Uh (a : Int) (b : Int) ((1 <<< Sort.bitsLen (b - a) : Nat) : Int) (((a + (b - a) / 4 * 2 - 1 + k : Nat) : Int),d.toList,((r.toNat : Nat) : Int)) =
      some (.inl (((a + (b - a) / 4 * 2 - 1 + k + 1 : Nat) : Int),(Sort.breakStep a (b - a) (1 <<< Sort.bitsLen (b - a)) (r,d) (a + (b - a) / 4 * 2 - 1 + k)).2.toList,(((Sort.breakStep a (b - a) (1 <<< Sort.bitsLen (b - a)) (r,d) (a + (b - a) / 4 * 2 - 1 + k)).1.toNat : Nat) : Int)))∧
      AllP n P (Sort.breakStep a (b - a) (1 <<< Sort.bitsLen (b - a)) (r,d) (a + (b - a) / 4 * 2 - 1 + k)).2:=by
  have af:=hd.1;have hn:=hd.2.1;have l : r.toNat < 18446744073709551616:=r.toNat_lt;have y : w64 ((b : Int) - (a : Int)) = ((b - a : Nat) : Int):=wsub q0 q0
  have e1 : w64 (Int.tdiv ((b - a : Nat) : Int) 4) = (((b - a) / 4 : Nat) : Int):=by
    rw [Int.tdiv_eq_ediv_of_nonneg q0,Q5 q0];omega
  have e2 : w64 ((((b - a) / 4 : Nat) : Int) * 2) = (((b - a) / 4 * 2 : Nat) : Int):=by rw [Q5 q0];omega
  have e3 : w64 ((a : Int) + (((b - a) / 4 * 2 : Nat) : Int)) = ((a + (b - a) / 4 * 2 : Nat) : Int):=by rw [Q5 q0];omega
  have z : w64 (((a + (b - a) / 4 * 2 : Nat) : Int) + 1) = ((a + (b - a) / 4 * 2 + 1 : Nat) : Int):=w1p _ q0;have h0 : decide (((a + (b - a) / 4 * 2 - 1 + k : Nat) : Int)≤((a + (b - a) / 4 * 2 + 1 : Nat) : Int)) = true:=Q9 q0;have w:=q11p r.toNat l;have u : Sort.xorNextN r.toNat < 18446744073709551616:=Sort.xorNextN_lt _ l;have h : Sort.bitsLen (b - a)≤20:=(Sort.bitsLen_le_iff _ 20).2 q0;have g : (2 : Nat) ^ Sort.bitsLen (b - a)≤2 ^ 20:=Nat.pow_le_pow_right qn h;have hp1 : 0 < (2 : Nat) ^ Sort.bitsLen (b - a):=Nat.two_pow_pos _;have x:=Sort.two_pow_bitsLen_le (n:=b - a) q0;have c : (1 : Nat) <<< Sort.bitsLen (b - a) = 2 ^ Sort.bitsLen (b - a):=Nat.one_shiftLeft _
  have em : IntKind.u64.wrap (((1 <<< Sort.bitsLen (b - a) : Nat) : Int) - 1) = ((1 <<< Sort.bitsLen (b - a) - 1 : Nat) : Int):=by
    rw [q1x,c];generalize (2 : Nat) ^ Sort.bitsLen (b - a) = p at g hp1;omega
  have f : (Sort.xorNextN r.toNat) &&& (1 <<< Sort.bitsLen (b - a) - 1) < 2 ^ Sort.bitsLen (b - a):=by
    rw [c];have : (Sort.xorNextN r.toNat) &&& (2 ^ Sort.bitsLen (b - a) - 1)≤2 ^ Sort.bitsLen (b - a) - 1:=Nat.and_le_right;omega
  have s:=andU (Sort.xorNextN r.toNat) (1 <<< Sort.bitsLen (b - a) - 1) u (by rw [c];omega);unfold Sort.breakStep;simp only [Sort.xorNext_toNat];generalize hm : (Sort.xorNextN r.toNat) &&& (1 <<< Sort.bitsLen (b - a) - 1) = m at f s;have v : m < 2 * (b - a):=by omega
  have ew : w64 (m : Int) = (m : Int):=Q5 q0
  have q : (cond (decide ((m : Int) ≥ ((b - a : Nat) : Int))) (some (w64 ((m : Int) - ((b - a : Nat) : Int)))) (some (m : Int))) = some (((if m ≥ b - a then m - (b - a) else m) : Nat) : Int):=by
    by_cases j : m ≥ b - a
    · have t : decide ((m : Int) ≥ ((b - a : Nat) : Int)) = true:=Q9 q0;rw [t,Q2,qs j,wsub j q0]
    · have t : decide ((m : Int) ≥ ((b - a : Nat) : Int)) = false:=Qb q0;rw [t,Q1,qx j]
  have ho : (if m ≥ b - a then m - (b - a) else m) < b - a:=by split <;> omega
  generalize (if m ≥ b - a then m - (b - a) else m) = o at q ho;have eo : w64 ((a : Int) + (o : Int)) = ((a + o : Nat) : Int):=by rw [Q5 q0];omega
  refine ⟨?_,hd.swp q0 q0⟩;simp only [Uh,y,e1,e2,e3,z,h0,Q2,w,qh,em,s,ew,q,eo,gx (d:=d) (k:=a + o) q0,gx (d:=d) (k:=a + (b - a) / 4 * 2 - 1 + k) q0,gxs (d:=d) (k:=a + o) q0,Int.toNat_natCast,gswp,w1p (a + (b - a) / 4 * 2 - 1 + k) q0]
theorem qnx {a b n : Nat} (hb : b≤n) (y : a < b) {d : Array T} (hd : AllP n P d) : q17 q d.toList (a : Int) (b : Int) = some (Sort.breakPatterns d a b).toList:=by
  have z:=hd.2.1;have j : w64 ((b : Int) - (a : Int)) = ((b - a : Nat) : Int):=wsub q0 q0;unfold q17 Sort.breakPatterns;simp only [j];by_cases c : b - a ≥ 8
  · have t : decide (((b - a : Nat) : Int) ≥ 8) = true:=Q9 q0;rw [t,Q2,qs c,qs1 _ q0,qh]
    have o : w64 (Int.tdiv ((b - a : Nat) : Int) 4) = (((b - a) / 4 : Nat) : Int):=by
      rw [Int.tdiv_eq_ediv_of_nonneg q0,Q5 q0];omega
    have g : w64 ((((b - a) / 4 : Nat) : Int) * 2) = (((b - a) / 4 * 2 : Nat) : Int):=by rw [Q5 q0];omega
    have k : w64 ((a : Int) + (((b - a) / 4 * 2 : Nat) : Int)) = ((a + (b - a) / 4 * 2 : Nat) : Int):=by rw [Q5 q0];omega
    have w : w64 (((a + (b - a) / 4 * 2 : Nat) : Int) - 1) = ((a + (b - a) / 4 * 2 - 1 : Nat) : Int):=by rw [Q5 q0];omega
    have v : IntKind.u64.wrap ((b - a : Nat) : Int) = (((UInt64.ofNat (b - a)).toNat : Nat) : Int):=by
      rw [q1x,UInt64.toNat_ofNat'];omega
    rw [o,g,k,w,v];obtain ⟨l,r⟩:=qd6 hb c hd 0 q0 (UInt64.ofNat (b - a));obtain ⟨h,p⟩:=qd6 hb c r 1 q0 (Sort.breakStep a (b - a) (1 <<< Sort.bitsLen (b - a)) (UInt64.ofNat (b - a),d) (a + (b - a) / 4 * 2 - 1 + 0)).1;obtain ⟨m,x⟩:=qd6 hb c p 2 q0 (Sort.breakStep a (b - a) (1 <<< Sort.bitsLen (b - a)) ((Sort.breakStep a (b - a) (1 <<< Sort.bitsLen (b - a)) (UInt64.ofNat (b - a),d) (a + (b - a) / 4 * 2 - 1 + 0)).1,(Sort.breakStep a (b - a) (1 <<< Sort.bitsLen (b - a)) (UInt64.ofNat (b - a),d) (a + (b - a) / 4 * 2 - 1 + 0)).2) (a + (b - a) / 4 * 2 - 1 + 1)).1;simp only [Nat.add_zero,Prod.eta] at l h m r p x;rw [Ke l,Ke h,Ke m]
    have f : Uh (T:=T) (a : Int) (b : Int) ((1 <<< Sort.bitsLen (b - a) : Nat) : Int) (((a + (b - a) / 4 * 2 - 1 + 2 + 1 : Nat) : Int),(Sort.breakStep a (b - a) (1 <<< Sort.bitsLen (b - a)) (Sort.breakStep a (b - a) (1 <<< Sort.bitsLen (b - a)) (Sort.breakStep a (b - a) (1 <<< Sort.bitsLen (b - a)) (UInt64.ofNat (b - a),d) (a + (b - a) / 4 * 2 - 1)) (a + (b - a) / 4 * 2 - 1 + 1)) (a + (b - a) / 4 * 2 - 1 + 2)).2.toList,(((Sort.breakStep a (b - a) (1 <<< Sort.bitsLen (b - a)) (Sort.breakStep a (b - a) (1 <<< Sort.bitsLen (b - a)) (Sort.breakStep a (b - a) (1 <<< Sort.bitsLen (b - a)) (UInt64.ofNat (b - a),d) (a + (b - a) / 4 * 2 - 1)) (a + (b - a) / 4 * 2 - 1 + 1)) (a + (b - a) / 4 * 2 - 1 + 2)).1.toNat : Nat) : Int)) = some (.inr (Sort.breakStep a (b - a) (1 <<< Sort.bitsLen (b - a)) (Sort.breakStep a (b - a) (1 <<< Sort.bitsLen (b - a)) (Sort.breakStep a (b - a) (1 <<< Sort.bitsLen (b - a)) (UInt64.ofNat (b - a),d) (a + (b - a) / 4 * 2 - 1)) (a + (b - a) / 4 * 2 - 1 + 1)) (a + (b - a) / 4 * 2 - 1 + 2)).2.toList):=by
      have u : w64 (((a + (b - a) / 4 * 2 : Nat) : Int) + 1) = ((a + (b - a) / 4 * 2 + 1 : Nat) : Int):=w1p _ q0;have s : decide (((a + (b - a) / 4 * 2 - 1 + 2 + 1 : Nat) : Int)≤((a + (b - a) / 4 * 2 + 1 : Nat) : Int)) = false:=Qb q0;simp only [Uh,j,o,g,k,u,s,Q1]
    rw [Kg f];rfl
  · have t : decide (((b - a : Nat) : Int) ≥ 8) = false:=Qb q0;rw [t,Q1,qx c]
end
end Go.Sh
