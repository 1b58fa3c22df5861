/- Pl1 Pl2 Pl3 Pg0 Pg1 Pg2 Pg3 -/
import Derived.Test.YtiejlbckgihckaaGreatK8
import Derived.Sort.AssemblyPlain
import Derived.Sort.LotD5
namespace Go.Sh
open Go Go.Am
def has (s : List qi) (x : Int) : Prop:=∃ t∈s,t.Lo≤x∧x < t.Hi
def Can (s : List qi) : Prop:=(∀ t∈s,t.Lo < t.Hi)∧s.Pairwise (fun a b=>a.Hi < b.Lo)
def vld (t : qi) : Prop:=t.Lo < t.Hi∧-1000000≤t.Lo∧t.Hi≤1000000
instance (t : qi) : Decidable (vld t):=by unfold vld;exact inferInstance
def Good (s : List qi) : Prop:=(∀ t∈s,vld t)∧s.Pairwise (fun a b=>a.Hi < b.Lo)
theorem Good.can {s : List qi} (h : Good s) : Can s:=⟨fun t a=>(h.1 t a).1,h.2⟩
theorem q1m (x : Int) : ¬ has [] x:=by rintro ⟨t,h,_⟩;cases h
theorem Zs {a : qi} {s : List qi} {x : Int} : has (a::s) x↔(a.Lo≤x∧x < a.Hi)∨has s x:=by
  constructor
  · rintro ⟨t,b,h⟩;rcases List.mem_cons.1 b with rfl | b
    · exact .inl h
    · exact .inr ⟨t,b,h⟩
  · rintro (h | ⟨t,b,h⟩)
    · exact ⟨a,qc,h⟩
    · exact ⟨t,by simp [b],h⟩
theorem qqi {a b : List qi} {x : Int} : has (a ++ b) x↔has a x∨has b x:=by
  induction a with
  | nil=>simp [q1m]
  | cons t r ih=>simp only [List.cons_append,Zs,ih,or_assoc]
theorem Can.tail {a : qi} {s : List qi} (h : Can (a::s)) : Can s:=⟨fun t b=>h.1 t (by simp [b]),(List.pairwise_cons.1 h.2).2⟩
theorem Can.lt {a : qi} {s : List qi} (h : Can (a::s)) : ∀ t∈s,a.Hi < t.Lo:=(List.pairwise_cons.1 h.2).1
theorem Can.tail_gt {a : qi} {s : List qi} (h : Can (a::s)) {x : Int} (b : has s x) : a.Hi < x:=by
  obtain ⟨t,c,f,d⟩:=b;have:=h.lt t c;omega
theorem q7d : ∀ {s t : List qi},Can s→Can t→(∀ x,has s x↔has t x)→s = t
  | [],[],_,_,_=>rfl
  | [],b::t,_,c,h=>absurd ((h b.Lo).2 (Zs.2 (.inl ⟨Int.le_refl _,c.1 b qc⟩))) (q1m _)
  | a::s,[],hs,_,h=>absurd ((h a.Lo).1 (Zs.2 (.inl ⟨Int.le_refl _,hs.1 a qc⟩))) (q1m _)
  | a::s,b::t,hs,c,h=>by
    have m:=hs.1 a qc
    have hb:=c.1 b qc
    have lo : ∀ {a b : qi} {s t : List qi},Can (a::s)→Can (b::t)→(∀ x,has (a::s) x↔has (b::t) x)→b.Lo≤a.Lo:=by
      intro a b s t hs c h;rcases Zs.1 ((h a.Lo).1 (Zs.2 (.inl ⟨Int.le_refl _,hs.1 a qc⟩))) with d | d
      · exact d.1
      · have:=c.tail_gt d;have:=c.1 b qc;omega
    have j : a.Lo = b.Lo:=Int.le_antisymm (lo c hs fun x=>(h x).symm) (lo hs c h)
    have hi : ∀ {a b : qi} {s t : List qi},Can (a::s)→Can (b::t)→(∀ x,has (a::s) x↔has (b::t) x)→a.Lo = b.Lo→b.Hi≤a.Hi:=by
      intro a b s t hs c h e;have m:=hs.1 a qc;have hb:=c.1 b qc;refine Int.not_lt.1 fun k=>?_;rcases Zs.1 ((h a.Hi).2 (Zs.2 (.inl ⟨q0,k⟩))) with d | d
      · omega
      · have:=hs.tail_gt d;omega
    have l : a.Hi = b.Hi:=Int.le_antisymm (hi c hs (fun x=>(h x).symm) j.symm) (hi hs c h j)
    have e : a = b:=by cases a;cases b;simp at j l;simp [j,l]
    subst e
    congr 1
    refine q7d hs.tail c.tail fun x=>⟨fun g=>?_,fun g=>?_⟩
    · have d:=hs.tail_gt g
      rcases Zs.1 ((h x).1 (Zs.2 (.inr g))) with f | f
      · omega
      · exact f
    · have d:=c.tail_gt g
      rcases Zs.1 ((h x).2 (Zs.2 (.inr g))) with f | f
      · omega
      · exact f
theorem qms (t : qi) : q39 t = some (decide (vld t)):=by
  unfold q39 vld;by_cases c : t.Lo < t.Hi <;> by_cases b : -1000000≤t.Lo <;> by_cases a : t.Hi≤1000000 <;> simp [c,b,a]
open Classical in
noncomputable def Yk (s : List qi) : Int:=if 400 < s.length then 4 else if Good s then 0 else 8
def qfr (s : List qi) (k : Nat) : Prop:=(∀ i (h : i < s.length),i < k→vld s[i])∧∀ i (h : i + 1 < s.length),i + 1 < k→s[i].Hi < s[i+1].Lo
theorem qq8 {s : List qi} (h : qfr s s.length) : Good s:=by
  refine ⟨fun t b=>?_,?_⟩
  · obtain ⟨i,hi,rfl⟩:=List.mem_iff_getElem.1 b;exact h.1 i hi hi
  · have key : ∀ i j (hi : i < s.length) (a : j < s.length),i < j→s[i].Hi < s[j].Lo:=by
      intro i j hi a d
      induction j with
      | zero=>omega
      | succ j ih=>
        have c:=h.2 j a a;by_cases e : i = j
        · subst e;exact c
        · have f:=ih q0 q0;have g:=(h.1 j q0 q0).1;omega
    rw [List.pairwise_iff_getElem];exact key
theorem Good.get {s : List qi} (h : Good s) (i : Nat) (hi : i < s.length) : vld s[i]:=h.1 _ (Y3 hi)
theorem Good.nxt {s : List qi} (h : Good s) (i j : Nat) (hi : i < s.length) (b : j < s.length) (a : i < j) : s[i].Hi < s[j].Lo:=List.pairwise_iff_getElem.1 h.2 i j hi b a
theorem qcs (s : List qi) : q37 s = some (Yk s):=by
  unfold q37 Yk;by_cases n : 400 < s.length
  · have : decide ((s.length : Int) > 400) = true:=by simp;omega
    simp [this,n]
  · have hd : decide ((s.length : Int) > 400) = false:=by simp;omega
    simp only [hd,n,if_false,Q3];have:=Zu (f:=q21 s) (σ:=Unit) (fun k _=>(k : Int)) s.length (fun k _=>qfr s k) (fun b=>(b = .inl ()∧Good s)∨(b = .inr 8∧¬ Good s)) ?_ ?_ (k0:=0) (c0:=()) q0 ⟨fun i _ h=>q0,fun i _ h=>q0⟩
    · obtain ⟨b,l,g⟩:=this;have l : loop (q21 s) 0 = some b:=l;rw [l];rcases g with ⟨rfl,g⟩ | ⟨rfl,g⟩ <;> simp [g]
    · intro k _ m d;have hb : decide ((k : Int) < (s.length : Int)) = true:=by simp;omega
      simp only [q21,hb,Q1,K7 m,qm,qms];have bad : ¬ Good s→∃ b,(some (Sum.inr (Sum.inr 8)) : Option (Int ⊕ (Unit ⊕ Int))) = some (.inr b)∧((b = .inl ()∧Good s)∨(b = .inr 8∧¬ Good s)):=fun h=>⟨_,rfl,.inr ⟨rfl,h⟩⟩
      by_cases a : vld s[k]
      · simp only [a,decide_true,Bool.not_true,Q3];by_cases o : k = 0
        · subst o;refine .inl ⟨(),by simp [Q9],⟨fun i hi h=>?_,fun i hi h=>q0⟩⟩
          (obtain rfl : i = 0:=by omega)
          exact a
        · obtain ⟨j,rfl⟩ : ∃ j,k = j + 1:=⟨k - 1,q0⟩
          have hp : decide (((j + 1 : Nat) : Int) > 0) = true:=Qe q0
          have p : idx s (w64 (((j + 1 : Nat) : Int) - 1)) = some (s[j]'(q0)):=by
            rw [Q9 q0];exact Jd q0 q0
          simp only [hp,Q1,p,qm];by_cases c : s[j].Hi < s[j+1].Lo
          · have : decide (s[j].Hi ≥ s[j+1].Lo) = false:=by simp;omega
            simp only [this,Q3];rw [Q9 q0];refine .inl ⟨(),rfl,⟨fun i hi h=>?_,fun i hi h=>?_⟩⟩
            · by_cases e : i = j + 1
              · subst e;exact a
              · exact d.1 i hi q0
            · by_cases e : i = j
              · subst e;exact c
              · exact d.2 i hi q0
          · have : decide (s[j].Hi ≥ s[j+1].Lo) = true:=by simp;omega
            simp only [this,Q1];exact .inr (bad fun h=>c (h.nxt j (j + 1) q0 m q0))
      · simp only [a,decide_false,Bool.not_false,Q1,qm];exact .inr (bad fun h=>a (h.get k m))
    · intro _ d;have hb : decide ((s.length : Int) < (s.length : Int)) = false:=by simp
      simp only [q21,hb,Q3];exact ⟨_,rfl,.inl ⟨rfl,qq8 d⟩⟩
theorem qtt : qkb = q39:=rfl
theorem qtr (s : List qi) : qeo s = q21 s:=by
  funext a;unfold qeo q21;cases h : idx s a <;> simp [qtt]
theorem qts (s : List qi) : qav s = some (Yk s):=by
  rw [← qcs];unfold qav q37;rw [qtr]
open Classical in
theorem qk9 (s : List qi) (x : Int) (l : s.length≤1000000) : qaw s x = some (decide (has s x)):=by
  have:=Zu (f:=q81 s x) (σ:=Unit) (fun k _=>(k : Int)) s.length (fun k _=>∀ i (h : i < s.length),i < k→¬ (s[i].Lo≤x∧x < s[i].Hi)) (fun b=>(b = .inl ()∧¬ has s x)∨(b = .inr true∧has s x)) ?_ ?_ (k0:=0) (c0:=()) q0 (fun i _ h=>q0)
  · obtain ⟨b,c,a⟩:=this;have c : loop (q81 s x) 0 = some b:=c;unfold qaw;rw [c];rcases a with ⟨rfl,a⟩ | ⟨rfl,a⟩ <;> simp [a]
  · intro k _ g d;have hb : decide ((k : Int) < (s.length : Int)) = true:=Qe q0;simp only [q81,hb,Q1,K7 g,qm];by_cases c : s[k].Lo≤x <;> by_cases a : x < s[k].Hi
    · exact .inr ⟨.inr true,by simp [c,a],.inr ⟨rfl,s[k],Y3 g,c,a⟩⟩
    all_goals
      refine .inl ⟨(),by simp [c,a];exact Q9 q0,fun i hi h=>?_⟩
      by_cases e : i = k
      · subst e;omega
      · exact d i hi q0
  · intro _ d;have hb : decide ((s.length : Int) < (s.length : Int)) = false:=Qm q0;simp only [q81,hb,Q3];refine ⟨_,rfl,.inl ⟨rfl,?_⟩⟩;rintro ⟨t,j,h⟩;obtain ⟨i,hi,rfl⟩:=List.mem_iff_getElem.1 j;exact d i hi hi h
end Go.Sh
namespace Go.Sh
open Go Go.Am
theorem qqs (out : List Int) (v : Int) (b : Nat) (hb : b≤out.length) :
    (cpyw (out ++ [0]) (b + 1,(out ++ [0]).length - (b + 1)) ((((out ++ [0]).drop b).take ((out ++ [0]).length - b)))).set b v = out.take b ++ v::out.drop b:=by
  have j : ((out ++ [0]).drop b).take ((out ++ [0]).length - b) = (out ++ [0]).drop b:=List.take_of_length_le qc;rw [j];unfold cpyw splice;have d : (min ((out ++ [0]).drop b).length ((out ++ [0]).length - (b + 1))) = out.length - b:=by simp;omega
  simp only [d]
  have h : ((out ++ [0]).drop b).take (out.length - b) = out.drop b:=by
    rw [List.drop_append_of_le_length hb,List.take_append_of_le_length qc];exact List.take_of_length_le qc
  rw [h]
  have f : (out ++ [0]).drop (b + 1 + (out.drop b).length) = []:=by
    apply List.drop_of_length_le;simp;omega
  rw [f,List.append_nil]
  have a : ∃ y,(out ++ [0]).take (b + 1) = out.take b ++ [y]:=by
    refine ⟨(out ++ [0])[b]'(by simp;omega),?_⟩;rw [List.take_succ_eq_append_getElem (by simp;omega),List.take_append_of_le_length hb]
  obtain ⟨y,c⟩:=a
  have key : ∀ (xs ys : List Int) (y v : Int),(xs ++ (y::ys)).set xs.length v = xs ++ v::ys:=by
    intro xs ys y v
    induction xs with
    | nil=>rfl
    | cons x xs ih=>simp [ih]
  have g : (out.take b).length = b:=by simp;omega
  rw [c,List.append_assoc];have:=key (out.take b) (out.drop b) y v;rw [g] at this;exact this
def Z2 (l out : List Int) : Prop:=out.Pairwise (· < ·)∧∀ x,x∈out↔x∈l
theorem qza (a : Int × List Int) (l : List Int) (i : Nat) (hi : i < l.length) (r : a.1 = i) (o : a.2.length≤1000000) (hs : a.2.Pairwise (· < ·)) :
    ∃ b : Int,loop (q85 a l) (a.2.length : Int) = some b∧∃ k : Nat,b = k∧k≤a.2.length∧(∀ j (h : j < a.2.length),k≤j→l[i] < a.2[j])∧(∀ j (h : j < a.2.length),j < k→a.2[j]≤l[i]):=by
  refine qr7 (fun b : Int=>∃ k : Nat,b = k∧k≤a.2.length∧(∀ j (h : j < a.2.length),k≤j→l[i] < a.2[j])) (fun b=>b.toNat) _ ?_ ⟨a.2.length,rfl,q0,fun j h g=>q0⟩;rintro b ⟨k,rfl,q,c⟩
  cases k with
  | zero=>
    refine .inr ⟨0,?_,0,rfl,q0,c,fun j h g=>q0⟩;simp [q85]
  | succ k=>
    have p : decide (((k + 1 : Nat) : Int) > 0) = true:=Qe q0;have n : idx a.2 (w64 (((k + 1 : Nat) : Int) - 1)) = some (a.2[k]'(q0)):=by rw [Q9 q0];exact Jd q0 q0
    have m : idx l a.1 = some l[i]:=by rw [r];exact K7 hi
    have f : k < a.2.length:=by omega
    by_cases d : a.2[k] > l[i]
    · refine .inl ⟨(k : Int),?_,⟨k,rfl,q0,fun j h g=>?_⟩,qc⟩
      · simp only [q85,p,n,m,Q1,qm,d,decide_true];rw [Q9 q0];congr 2;omega
      · by_cases e : j = k
        · subst e;exact d
        · exact c j h q0
    · refine .inr ⟨((k + 1 : Nat) : Int),?_,k + 1,rfl,q,c,fun j h g=>?_⟩
      · simp only [q85,p,n,m,Q1,qm,d,decide_false,Q3]
      · by_cases e : j = k
        · subst e;omega
        · have : a.2[j] < a.2[k]:=List.pairwise_iff_getElem.1 hs j k h f q0;omega
theorem qmk {l out : List Int} {v : Int} {i : Nat} (hi : i < l.length) (c : l[i] = v) (h : Z2 (l.take i) out) (a : List Int) (hs : a.Pairwise (· < ·)) (b : ∀ x,x∈a↔x∈out∨x = v) : Z2 (l.take (i + 1)) a:=by
  refine ⟨hs,fun x=>?_⟩;rw [b,h.2,List.take_succ_eq_append_getElem hi];simp [c]
theorem qlz (l : List Int) (hl : l.length≤1000000) : ∃ t,q5e l = some t∧Z2 l t∧t.length≤l.length:=by
  have:=Zu (f:=q84 l) (σ:=List Int) (fun k c=>((k : Int),c)) l.length (fun k c=>Z2 (l.take k) c∧c.length≤k) (fun t=>Z2 l t∧t.length≤l.length) ?_ ?_ (k0:=0) (c0:=[]) q0 ⟨⟨.nil,qc⟩,qc⟩
  · obtain ⟨b,g,o⟩:=this;have g : loop (q84 l) (0,[]) = some b:=g;exact ⟨b,by unfold q5e;rw [g];rfl,o⟩
  · intro k c hk a;obtain ⟨a,ak⟩:=a;have hb : decide ((k : Int) < (l.length : Int)) = true:=Qe q0;obtain ⟨b,r,j,rfl,hj,q,p⟩:=qza ((k : Int),c) l k hk rfl (by simp;omega) a.1;simp only at hj q p r;refine .inl ?_;simp only [q84,hb,Q1,r,qm,K7 hk];have hw : w64 ((k : Int) + 1) = ((k + 1 : Nat) : Int):=by rw [Q9 q0];omega
    by_cases n : 0 < j∧∃ h : j - 1 < c.length,c[j-1] = l[k]
    · obtain ⟨w,d,he⟩:=n;have v : decide ((j : Int) > 0) = true:=Qe q0;have g : idx c (w64 ((j : Int) - 1)) = some (c[j-1]):=by rw [Q9 q0];exact Jd q0 d
      refine ⟨c,by simp only [v,g,Q1,qm,he,beq_self_eq_true,hw],?_,q0⟩;refine qmk hk rfl a c a.1 fun x=>⟨.inl,?_⟩
      rintro (h | rfl)
      · exact h
      · rw [← he];exact Y3 d
    · have hc : (cond (decide ((j : Int) > 0)) ((idx c (w64 ((j : Int) - 1))).bind fun s=>some (s == l[k])) (some false)) = some false:=by
        by_cases w : 0 < j
        · have d : j - 1 < c.length:=by omega
          have v : decide ((j : Int) > 0) = true:=Qe q0;have g : idx c (w64 ((j : Int) - 1)) = some (c[j-1]):=by rw [Q9 q0];exact Jd q0 d
          simp only [v,g,Q1,qm];have : c[j-1]≠l[k]:=fun e=>n ⟨w,d,e⟩;simp [this]
        · have v : decide ((j : Int) > 0) = false:=Qm q0;simp only [v,Q3]
      have ab : app 8 c [0] = some (c ++ [0]):=Z4 (by simp;omega)
      have af : sub2 (c ++ [0]).length (w64 ((j : Int) + 1)) ((c ++ [0]).length : Int) = some (j + 1,(c ++ [0]).length - (j + 1)):=by
        rw [Q9 q0];unfold sub2;rw [ql ⟨q0,by simp;omega,q0⟩];congr 2
      have ac : sub2 (c ++ [0]).length (j : Int) ((c ++ [0]).length : Int) = some (j,(c ++ [0]).length - j):=by
        unfold sub2;rw [ql ⟨q0,by simp;omega,q0⟩];congr 2
      simp only [hc,qm,Q3,ab,af,ac]
      have u : j < (cpyw (c ++ [0]) (j + 1,(c ++ [0]).length - (j + 1)) (((c ++ [0]).drop j).take ((c ++ [0]).length - j))).length:=by
        rw [qp6 (by simp;omega)];simp;omega
      rw [K7 u];simp only [qm,Int.toNat_natCast,qqs c l[k] j hj,hw];refine ⟨_,rfl,?_,by simp;omega⟩;refine qmk hk rfl a _ ?_ fun x=>?_
      · rw [List.pairwise_append];refine ⟨a.1.sublist (List.take_sublist _ _),?_,?_⟩
        · rw [List.pairwise_cons];refine ⟨fun y hy=>?_,a.1.sublist (List.drop_sublist _ _)⟩;obtain ⟨i,hi,rfl⟩:=List.mem_iff_getElem.1 hy;rw [List.getElem_drop];exact q _ _ q0
        · intro y hy z hz;obtain ⟨i,hi,rfl⟩:=List.mem_iff_getElem.1 hy;rw [List.getElem_take];simp at hi;have g:=p i q0 q0;have o : c[i]≠l[k]∧c[i] < l[k]∨c[i] = l[k]:=by omega
          have h3 : c[i] < l[k]:=by
            rcases o with o | o
            · exact o.2
            · exfalso;by_cases e : i = j - 1
              · subst e;exact n ⟨q0,q0,o⟩
              · have : c[i] < c[j-1]'(q0):=List.pairwise_iff_getElem.1 a.1 i (j-1) q0 q0 q0;have:=p (j-1) q0 q0;omega
          rcases List.mem_cons.1 hz with rfl | hz
          · exact h3
          · obtain ⟨m,hm,rfl⟩:=List.mem_iff_getElem.1 hz;rw [List.getElem_drop];simp at hm;have:=q (j + m) q0 q0;omega
      · constructor
        · intro h;rcases List.mem_append.1 h with h | h
          · exact .inl (List.mem_of_mem_take h)
          · rcases List.mem_cons.1 h with h | h
            · exact .inr h
            · exact .inl (List.mem_of_mem_drop h)
        · rintro (h | rfl)
          · rw [← List.take_append_drop j c] at h;rcases List.mem_append.1 h with h | h
            · exact List.mem_append_left _ h
            · exact List.mem_append_right _ (List.mem_cons_of_mem _ h)
          · simp
  · intro c a;have hb : decide ((l.length : Int) < (l.length : Int)) = false:=Qm q0;simp only [q84,hb,Q3];refine ⟨_,rfl,by simpa using a.1,a.2⟩
def ends (s : List qi) : List Int:=s.flatMap fun t=>[t.Lo,t.Hi]
theorem qal {s : List qi} {x : Int} : x∈ends s↔∃ t∈s,x = t.Lo∨x = t.Hi:=by simp [ends]
theorem qpd {s : List qi} {k : Nat} (h : k < s.length) : ends (s.take (k + 1)) = ends (s.take k) ++ [s[k].Lo,s[k].Hi]:=by
  unfold ends;rw [List.take_succ_eq_append_getElem h,List.flatMap_append];simp
theorem qac (s : List qi) : (ends s).length = 2 * s.length:=by
  induction s with
  | nil=>rfl
  | cons t r ih=>simp only [ends,List.flatMap_cons,List.length_append,List.length_cons,List.length_nil] at ih ⊢;omega
theorem qhc (s : List qi) (c0 : List Int) (hs : s.length≤100000) (g : c0.length≤200000) : loop (q80 s) (0,c0) = some (c0 ++ ends s):=by
  have:=Zu (f:=q80 s) (σ:=List Int) (fun k c=>((k : Int),c)) s.length (fun k c=>c = c0 ++ ends (s.take k)) (fun t=>t = c0 ++ ends s) ?_ ?_ (k0:=0) (c0:=c0) q0 (by simp [ends])
  · obtain ⟨b,d,rfl⟩:=this;exact d
  · rintro k c a rfl;have hb : decide ((k : Int) < (s.length : Int)) = true:=Qe q0;refine .inl ⟨c0 ++ ends (s.take (k + 1)),?_,rfl⟩;simp only [q80,hb,Q1,K7 a,qm];rw [Z4 (by simp [qac];omega),Q9 q0,qpd a];simp
  · rintro c rfl;have hb : decide ((s.length : Int) < (s.length : Int)) = false:=Qm q0;simp [q80]
theorem qpc (p q : List qi) (hp : p.length≤100000) (c : q.length≤100000) : ∃ t,qep p q = some t∧Z2 (ends p ++ ends q) t∧t.length≤2 * (p.length + q.length):=by
  have a : loop (qk8 q) (0,ends p) = some (ends p ++ ends q):=qhc q (ends p) c (by rw [qac];omega);obtain ⟨t,f,d,b⟩:=qlz (ends p ++ ends q) (by simp [qac];omega);refine ⟨t,?_,d,by simp [qac] at b;omega⟩;unfold qep;rw [qhc p [] hp qc];simp only [List.nil_append,qm,a,f]
end Go.Sh
namespace Go.Sh
open Go Go.Am
def addS (c : List qi) (a b : Int) : List qi:=match c.getLast? with
  | some t=>if t.Hi = a then c.dropLast ++ [{Lo:=t.Lo,Hi:=b}] else c ++ [{Lo:=a,Hi:=b}]
  | none=>[{Lo:=a,Hi:=b}]
theorem qfs (a b : Int) : addS [] a b = [{Lo:=a,Hi:=b}]:=rfl
theorem q9x {c : List qi} {t : qi} {b : Int} : addS (c ++ [t]) t.Hi b = c ++ [{Lo:=t.Lo,Hi:=b}]:=by simp [addS]
theorem q9y {c : List qi} {t : qi} {a b : Int} (h : t.Hi≠a) : addS (c ++ [t]) a b = (c ++ [t]) ++ [{Lo:=a,Hi:=b}]:=by simp [addS,h]
theorem qbh {α : Type} (c : List α) : c = []∨∃ d t,c = d ++ [t]:=by
  rcases List.eq_nil_or_concat c with h | ⟨d,t,h⟩
  · exact .inl h
  · exact .inr ⟨d,t,by simpa using h⟩
theorem qcn {d : List qi} {t : qi} : Can (d ++ [t])↔Can d∧t.Lo < t.Hi∧∀ s∈d,s.Hi < t.Lo:=by
  unfold Can;constructor
  · rintro ⟨b,a⟩;rw [List.pairwise_append] at a;exact ⟨⟨fun s hs=>b s (by simp [hs]),a.1⟩,b t qc,fun s hs=>a.2.2 s hs t qc⟩
  · rintro ⟨⟨b,a⟩,g,f⟩;refine ⟨fun s hs=>?_,?_⟩
    · rcases List.mem_append.1 hs with hs | hs
      · exact b s hs
      · simp at hs;subst hs;exact g
    · rw [List.pairwise_append];exact ⟨a,qc,fun s hs u c=>by simp at c;subst c;exact f s hs⟩
theorem qdn {d : List qi} {t : qi} {x : Int} : has (d ++ [t]) x↔has d x∨(t.Lo≤x∧x < t.Hi):=by
  rw [qqi,Zs];simp [q1m]
theorem qft {c : List qi} {a b : Int} (j : Can c) (h : ∀ t∈c,t.Hi≤a) (f : a < b) :
    Can (addS c a b)∧(∀ x,has (addS c a b) x↔has c x∨(a≤x∧x < b))∧(∀ t∈addS c a b,t.Hi≤b)∧(addS c a b).length≤c.length + 1∧
    (∀ t∈addS c a b,(t.Lo = a∨∃ u∈c,t.Lo = u.Lo)∧(t.Hi = b∨∃ u∈c,t.Hi = u.Hi)):=by
  rcases qbh c with rfl | ⟨d,t,rfl⟩
  · rw [qfs];refine ⟨⟨by simpa using f,qc⟩,fun x=>?_,qc,qc,qc⟩;rw [Zs];simp [q1m]
  · have g:=qcn.1 j;have k : t.Hi≤a:=h t qc;by_cases e : t.Hi = a
    · subst e;rw [q9x];refine ⟨qcn.2 ⟨g.1,by simp;omega,g.2.2⟩,fun x=>?_,fun s hs=>?_,qc,fun s hs=>?_⟩
      · rw [qdn,qdn];by_cases hd : has d x <;> simp only [hd,true_or,false_or] <;> omega
      · rcases List.mem_append.1 hs with hs | hs
        · have:=h s (by simp [hs]);omega
        · simp at hs;subst hs;simp
      · rcases List.mem_append.1 hs with hs | hs
        · exact ⟨.inr ⟨s,by simp [hs],rfl⟩,.inr ⟨s,by simp [hs],rfl⟩⟩
        · simp at hs;subst hs;exact ⟨.inr ⟨t,qc,rfl⟩,.inl rfl⟩
    · rw [q9y e];refine ⟨qcn.2 ⟨j,f,fun s hs=>?_⟩,fun x=>?_,fun s hs=>?_,qc,fun s hs=>?_⟩
      · rcases List.mem_append.1 hs with hs | hs
        · have:=g.2.2 s hs;simp only;omega
        · simp at hs;subst hs;simp only;omega
      · rw [qdn]
      · rcases List.mem_append.1 hs with hs | hs
        · have:=h s hs;omega
        · simp at hs;subst hs;simp
      · rcases List.mem_append.1 hs with hs | hs
        · exact ⟨.inr ⟨s,hs,rfl⟩,.inr ⟨s,hs,rfl⟩⟩
        · simp at hs;subst hs;exact ⟨.inl rfl,.inl rfl⟩
theorem ql1 {d : List qi} {t u : qi} : (d ++ [t]).set d.length u = d ++ [u]:=by
  induction d with
  | nil=>rfl
  | cons x d ih=>simp [ih]
structure qc4 (cuts : List Int) (ins : List Bool) (k : Nat) (c : List qi) : Prop where
  can : Can c
  pts : ∀ x,has c x↔∃ i,∃ (h : i + 1 < cuts.length) (h' : i < ins.length),i < k∧ins[i] = true∧cuts[i]≤x∧x < cuts[i + 1]
  hi : ∀ t∈c,∃ (h : k < cuts.length),t.Hi≤cuts[k]
  len : c.length≤k
  ends : ∀ t∈c,t.Lo∈cuts∧t.Hi∈cuts
theorem qnz (a : List Int) (g : List Bool) (hs : a.Pairwise (· < ·)) (hl : a.length≤1000000) (hi : a.length≤g.length + 1) :
    ∃ c,qen a g = some c∧qc4 a g (a.length - 1) c:=by
  have:=Zu (f:=q7z a g) (σ:=List qi) (fun k c=>((k : Int),c)) (a.length - 1) (fun k c=>qc4 a g k c) (fun c=>qc4 a g (a.length - 1) c) ?_ ?_ (k0:=0) (c0:=[]) q0
    ⟨⟨qc,qc⟩,fun x=>⟨fun h=>absurd h (q1m x),fun ⟨i,_,_,h,_⟩=>q0⟩,qc,qc,qc⟩
  · obtain ⟨b,m,n⟩:=this;have m : loop (q7z a g) (0,[]) = some b:=m;exact ⟨b,by unfold qen;rw [m];rfl,n⟩
  · intro k c hk j;have hw : w64 ((k : Int) + 1) = ((k + 1 : Nat) : Int):=by rw [Q9 q0];omega
    have l : k + 1 < a.length:=by omega
    have q : k < a.length:=by omega
    have aa : k < g.length:=by omega
    have hb : decide (((k + 1 : Nat) : Int) < (a.length : Int)) = true:=Qe q0;refine .inl ?_;simp only [q7z,hw,hb,Q1,K7 aa,K7 l,K7 q,qm];have aj : a[k] < a[k+1]:=List.pairwise_iff_getElem.1 hs k (k+1) q l q0;have ab : ∀ t∈c,t.Hi≤a[k]:=fun t r=>(j.hi t r).2
    cases af : g[k] with
    | false=>
      refine ⟨c,qc,j.can,fun x=>?_,fun t r=>⟨l,by have:=ab t r;omega⟩,by have:=j.len;omega,j.ends⟩;rw [j.pts];constructor
      · rintro ⟨i,m,n,h3,o⟩;exact ⟨i,m,n,q0,o⟩
      · rintro ⟨i,m,n,h3,o⟩;by_cases e : i = k
        · subst e;rw [af] at o;simp at o
        · exact ⟨i,m,n,q0,o⟩
    | true=>
      have p : (cond (!true) (some c) ((cond (decide ((c.length : Int) > 0)) ((idx c (w64 ((c.length : Int) - 1))).bind fun w=>some (w.Hi == a[k])) (some false)).bind fun v=>cond v ((idx c (w64 ((c.length : Int) - 1))).bind fun ae=>some (c.set (w64 ((c.length : Int) - 1)).toNat ({Lo:=ae.Lo,Hi:=a[k+1]} : qi))) ((app 16 c [({Lo:=a[k],Hi:=a[k+1]} : qi)]).bind fun ac=>some ac))) = some (addS c a[k] a[k+1]):=by
        have z : ∀ y,app 16 c [y] = some (c ++ [y]):=fun y=>Z4 (by have:=j.len;simp;omega);rcases qbh c with rfl | ⟨d,t,rfl⟩
        · simp [z,addS]
        · have h0 : decide ((((d ++ [t]).length : Nat) : Int) > 0) = true:=Qe (by rw [List.length_append,List.length_singleton];omega);have ah:=j.len;have ad : (((d ++ [t]).length : Nat) : Int) = d.length + 1:=by simp
          have ar : d.length + 1≤k:=by simpa using ah
          have m : w64 (((d ++ [t]).length : Int) - 1) = (d.length : Int):=by rw [ad,Q9 q0];omega
          have n : idx (d ++ [t]) (d.length : Int) = some t:=by rw [K7 qc];simp
          simp only [Bool.not_true,Q3,h0,Q1,m,n,qm,Int.toNat_natCast,ql1,z];by_cases e : t.Hi = a[k]
          · simp [e,← q9x]
          · have e' : (t.Hi == a[k]) = false:=by simpa using e
            simp only [e',Q3,q9y e]
      rw [p];obtain ⟨a1,a2,a3,a4,a5⟩:=qft j.can ab aj;refine ⟨_,rfl,a1,fun x=>?_,fun t r=>⟨l,a3 t r⟩,by have:=j.len;omega,fun t r=>?_⟩
      · rw [a2,j.pts];constructor
        · rintro (⟨i,m,n,h3,o⟩ | h)
          · exact ⟨i,m,n,q0,o⟩
          · exact ⟨k,l,aa,q0,af,h⟩
        · rintro ⟨i,m,n,h3,o⟩;by_cases e : i = k
          · subst e;exact .inr o.2
          · exact .inl ⟨i,m,n,q0,o⟩
      · obtain ⟨b1,s⟩:=a5 t r;constructor
        · rcases b1 with b1 | ⟨u,hu,b1⟩
          · rw [b1];exact Y3 q
          · rw [b1];exact (j.ends u hu).1
        · rcases s with s | ⟨u,hu,s⟩
          · rw [s];exact Y3 l
          · rw [s];exact (j.ends u hu).2
  · intro c j;refine ⟨c,?_,j⟩
    have hw : decide (w64 (((a.length - 1 : Nat) : Int) + 1) < (a.length : Int)) = false:=by
      rw [Q9 q0];exact Qm q0
    simp only [q7z,hw,Q3]
def Y5 (kind : Int) (a b : Prop) : Prop:=(kind = 1∧a∧b)∨(kind = 2∧(a∨b))∨(kind≠1∧kind≠2∧a∧¬ b)
open Classical in
theorem qql (kind : Int) (a b : Prop) : qeq kind (decide a) (decide b) = some (decide (Y5 kind a b)):=by
  unfold qeq Y5;by_cases f : kind = 1
  · subst f;by_cases c : a <;> by_cases hb : b <;> simp [c,hb]
  · by_cases d : kind = 2
    · subst d;by_cases c : a <;> by_cases hb : b <;> simp [c,hb]
    · have h : (kind == 1) = false:=by simpa using f
      have g : (kind == 2) = false:=by simpa using d
      by_cases c : a <;> by_cases hb : b <;> simp [c,hb,f,d,h,g]
theorem qb6 {c : List Int} (hs : c.Pairwise (· < ·)) {p : List qi} (m : ∀ x∈ends p,x∈c) {i : Nat} (h : i + 1 < c.length) {x : Int} (s : c[i]≤x) (r : x < c[i + 1]) : has p x↔has p c[i]:=by
  have mono : ∀ a b (k : a < c.length) (hb : b < c.length),c[a] < c[b]→a < b:=by
    intro a b k hb q;refine Nat.not_le.1 fun l=>?_;by_cases e : a = b
    · subst e;omega
    · have:=List.pairwise_iff_getElem.1 hs b a hb k q0;omega
  have d : ∀ a b (k : a < c.length) (hb : b < c.length),a≤b→c[a]≤c[b]:=by
    intro a b k hb l;by_cases e : a = b
    · subst e;omega
    · have:=List.pairwise_iff_getElem.1 hs a b k hb q0;omega
  constructor
  · rintro ⟨t,f,o,n⟩;refine ⟨t,f,?_,q0⟩;obtain ⟨j,g,e⟩:=List.mem_iff_getElem.1 (m t.Lo (qal.2 ⟨t,f,.inl rfl⟩));have:=mono j (i + 1) g h q0;have:=d j i g q0 q0;omega
  · rintro ⟨t,f,o,n⟩;refine ⟨t,f,q0,?_⟩;obtain ⟨j,g,e⟩:=List.mem_iff_getElem.1 (m t.Hi (qal.2 ⟨t,f,.inr rfl⟩));have:=mono i j q0 g q0;have:=d (i + 1) j h g q0;omega
theorem qif {c : List Int} (hs : c.Pairwise (· < ·)) {p : List qi} (g : ∀ x∈ends p,x∈c) {x : Int} (h : has p x) : ∃ i,∃ (h : i + 1 < c.length),c[i]≤x∧x < c[i + 1]:=by
  obtain ⟨t,k,v,u⟩:=h;obtain ⟨a,m,s⟩:=List.mem_iff_getElem.1 (g t.Lo (qal.2 ⟨t,k,.inl rfl⟩));obtain ⟨b,hb,r⟩:=List.mem_iff_getElem.1 (g t.Hi (qal.2 ⟨t,k,.inr rfl⟩))
  have key : ∀ n j (l : j < c.length),j + n = b→c[j]≤x→∃ i,∃ (h : i + 1 < c.length),c[i]≤x∧x < c[i + 1]:=by
    intro n
    induction n with
    | zero=>intro j l e f;simp at e;subst e;omega
    | succ n ih=>
      intro j l e f;by_cases o : x < c[j+1]'(q0)
      · exact ⟨j,q0,f,o⟩
      · exact ih (j + 1) q0 q0 q0
  have q : a≤b:=by
    refine Nat.not_lt.1 fun d=>?_;have:=List.pairwise_iff_getElem.1 hs b a hb m d;omega
  exact key (b - a) a m q0 q0
structure qc6 (kind : Int) (p q out : List qi) : Prop where
  can : Can out
  pts : ∀ x,has out x↔Y5 kind (has p x) (has q x)
  ends : ∀ t∈out,(t.Lo∈ends p∨t.Lo∈ends q)∧(t.Hi∈ends p∨t.Hi∈ends q)
  len : out.length≤2 * (p.length + q.length)
open Classical in
theorem qqy (a : List Int) (p q : List qi) (kind : Int) (j : a.length≤1000000) (hp : p.length≤100000) (h : q.length≤100000) :
    loop (q82 a p q kind) (0,[]) = some (a.map fun x=>decide (Y5 kind (has p x) (has q x))):=by
  have:=Zu (f:=q82 a p q kind) (σ:=List Bool) (fun k c=>((k : Int),c)) a.length (fun k c=>c = (a.take k).map fun x=>decide (Y5 kind (has p x) (has q x))) (fun t=>t = a.map fun x=>decide (Y5 kind (has p x) (has q x))) ?_ ?_ (k0:=0) (c0:=[]) q0 qc
  · obtain ⟨b,g,rfl⟩:=this;exact g
  · rintro k c d rfl;have hb : decide ((k : Int) < (a.length : Int)) = true:=Qe q0;refine .inl ⟨_,?_,rfl⟩;simp only [q82,hb,Q1,K7 d,qm,qk9 p _ (by omega : p.length≤1000000),qk9 q _ (by omega : q.length≤1000000),qql];rw [Z4 (by simp;omega),Q9 q0,List.take_succ_eq_append_getElem d,List.map_append];rfl
  · rintro c rfl;have hb : decide ((a.length : Int) < (a.length : Int)) = false:=Qm q0;simp [q82]
open Classical in
theorem qqz (kind : Int) (p q : List qi) (hp : p.length≤100000) (o : q.length≤100000) : ∃ out,qax kind p q = some out∧qc6 kind p q out:=by
  obtain ⟨d,v,⟨hs,l⟩,s⟩:=qpc p q hp o;obtain ⟨c,u,k⟩:=qnz d (d.map fun x=>decide (Y5 kind (has p x) (has q x))) hs q0 (by rw [List.length_map];omega);refine ⟨c,?_,k.can,fun x=>?_,fun t w=>?_,by have:=k.len;omega⟩
  · unfold qax;rw [v];simp only [qm,qqy d p q kind q0 hp o,u]
  · have mp : ∀ x∈ends p,x∈d:=fun x n=>(l x).2 (List.mem_append_left _ n);have mq : ∀ x∈ends q,x∈d:=fun x n=>(l x).2 (List.mem_append_right _ n);rw [k.pts];constructor
    · rintro ⟨i,g,y,_,r,j,f⟩;simp only [List.getElem_map,decide_eq_true_eq] at r;rw [qb6 hs mp g j f,qb6 hs mq g j f];exact r
    · intro h
      have m : has p x∨has q x:=by
        rcases h with ⟨_,h,_⟩ | ⟨_,h⟩ | ⟨_,_,h,_⟩
        · exact .inl h
        · exact h
        · exact .inl h
      obtain ⟨i,g,j,f⟩ : ∃ i,∃ (h : i + 1 < d.length),d[i]≤x∧x < d[i + 1]:=m.elim (qif hs mp) (qif hs mq);refine ⟨i,g,by rw [List.length_map];omega,q0,?_,j,f⟩;simp only [List.getElem_map,decide_eq_true_eq];rw [← qb6 hs mp g j f,← qb6 hs mq g j f];exact h
  · obtain ⟨a,b⟩:=k.ends t w;exact ⟨List.mem_append.1 ((l _).1 a),List.mem_append.1 ((l _).1 b)⟩
end Go.Sh
namespace Go.Sh
open Go Go.Am
def q4x : ByteArray:=⟨#[0,1,2,2,3,3,3,3,4,4,4,4,4,4,4,4,5,5,5,5,5,5,5,5,5,5,5,5,5,5,5,5,6,6,6,6,6,6,6,6,6,6,6,6,6,6,6,6,6,6,6,6,6,6,6,6,6,6,6,6,6,6,6,6,7,7,7,7,7,7,7,7,7,7,7,7,7,7,7,7,7,7,7,7,7,7,7,7,7,7,7,7,7,7,7,7,7,7,7,7,7,7,7,7,7,7,7,7,7,7,7,7,7,7,7,7,7,7,7,7,7,7,7,7,7,7,7,7,8,8,8,8,8,8,8,8,8,8,8,8,8,8,8,8,8,8,8,8,8,8,8,8,8,8,8,8,8,8,8,8,8,8,8,8,8,8,8,8,8,8,8,8,8,8,8,8,8,8,8,8,8,8,8,8,8,8,8,8,8,8,8,8,8,8,8,8,8,8,8,8,8,8,8,8,8,8,8,8,8,8,8,8,8,8,8,8,8,8,8,8,8,8,8,8,8,8,8,8,8,8,8,8,8,8,8,8,8,8,8,8,8,8,8,8,8,8,8,8,8,8,8,8,8,8,8,8]⟩
noncomputable def q3k (p0 : Int) : Option Int:=
  (cond (decide (p0 ≥ 4294967296)) (some (Int.fdiv p0 (2 ^ 32),32)) (some (p0,0))).bind fun b3=>(cond (decide (b3.1 ≥ 65536)) (some (Int.fdiv b3.1 (2 ^ 16),w64 (b3.2 + 16))) (some (b3.1,b3.2))).bind fun b6=>(cond (decide (b6.1 ≥ 256)) (some (Int.fdiv b6.1 (2 ^ 8),w64 (b6.2 + 8))) (some (b6.1,b6.2))).bind fun b9=>(q4g q4x (IntKind.wrap .u8 b9.1)).bind fun v10=>some (w64 (b9.2 + (w64 v10)))
noncomputable def q1a (p0 : Int) : Option Int:=
  (q3k p0).bind fun r1=>some r1
noncomputable def U6 {T : Type} (p1 : Int) (q1 : T→T→Option Int) (a459 : Int × List T) : Option ((Int × List T) ⊕ (List T)):=
  (cond (decide (a459.1 > p1)) ((idx a459.2 a459.1).bind fun v484=>(idx a459.2 (w64 (a459.1 - 1))).bind fun v486=>(q1 v484 v486).bind fun r488=>some (decide (r488 < 0))) (some false)).bind fun c469=>cond c469 ((idx a459.2 (w64 (a459.1 - 1))).bind fun v498=>(idx a459.2 a459.1).bind fun v500=>(idx a459.2 a459.1).bind fun _=>(idx (a459.2.set a459.1.toNat v498) (w64 (a459.1 - 1))).bind fun _=>some (.inl (w64 (a459.1 - 1),(a459.2.set a459.1.toNat v498).set (w64 (a459.1 - 1)).toNat v500))) (some (.inr a459.2))
noncomputable def q1e {T : Type} (p2 : Int) (p1 : Int) (q1 : T→T→Option Int) (a278 : Int × List T) : Option ((Int × List T) ⊕ (List T)):=
  cond (decide (a278.1 < p2)) (((loop (U6 p1 q1) (a278.1,a278.2)).bind fun x0=>some x0).bind fun b370=>some (.inl (w64 (a278.1 + 1),b370))) (some (.inr a278.2))
noncomputable def q2j {T : Type} (q1 : T→T→Option Int) (p0 : List T) (p1 : Int) (p2 : Int) : Option (List T):=
  (loop (q1e p2 p1 q1) (w64 (p1 + 1),p0)).bind fun x0=>some x0
noncomputable def U9 {T : Type} (p2 : Int) (p3 : Int) (q1 : T→T→Option Int) (a197 : Int × List T) : Option ((Int × List T) ⊕ (List T)):=
  cond (decide ((w64 ((w64 (2 * a197.1)) + 1)) ≥ p2)) (some (.inr a197.2)) ((cond (decide ((w64 ((w64 ((w64 (2 * a197.1)) + 1)) + 1)) < p2)) ((idx a197.2 (w64 (p3 + (w64 ((w64 (2 * a197.1)) + 1))))).bind fun v226=>(idx a197.2 (w64 ((w64 (p3 + (w64 ((w64 (2 * a197.1)) + 1)))) + 1))).bind fun v228=>(q1 v226 v228).bind fun r230=>some (decide (r230 < 0))) (some false)).bind fun c207=>(cond c207 (some (w64 ((w64 ((w64 (2 * a197.1)) + 1)) + 1))) (some (w64 ((w64 (2 * a197.1)) + 1)))).bind fun b234=>(idx a197.2 (w64 (p3 + a197.1))).bind fun v235=>(idx a197.2 (w64 (p3 + b234))).bind fun v237=>(q1 v235 v237).bind fun r239=>cond (!(decide (r239 < 0))) (some (.inr a197.2)) ((idx a197.2 (w64 (p3 + b234))).bind fun v241=>(idx a197.2 (w64 (p3 + a197.1))).bind fun v243=>(idx a197.2 (w64 (p3 + a197.1))).bind fun _=>(idx (a197.2.set (w64 (p3 + a197.1)).toNat v241) (w64 (p3 + b234))).bind fun _=>some (.inl (b234,(a197.2.set (w64 (p3 + a197.1)).toNat v241).set (w64 (p3 + b234)).toNat v243))))
noncomputable def Uw {T : Type} (q1 : T→T→Option Int) (p0 : List T) (p1 : Int) (p2 : Int) (p3 : Int) : Option (List T):=
  (loop (U9 p2 p3 q1) (p1,p0)).bind fun x0=>some x0
noncomputable def q1c {T : Type} (q1 : T→T→Option Int) (p2 : Int) (p1 : Int) (a123 : Int × List T) : Option ((Int × List T) ⊕ (List T)):=
  cond (decide (a123.1 ≥ 0)) ((Uw q1 a123.2 a123.1 (w64 (p2 - p1)) p1).bind fun e132=>(Qu e132.length a123.2.length).bind fun _=>some (.inl (w64 (a123.1 - 1),e132))) (some (.inr a123.2))
noncomputable def q1d {T : Type} (p1 : Int) (q1 : T→T→Option Int) (a191 : Int × List T) : Option ((Int × List T) ⊕ (List T)):=
  cond (decide (a191.1 ≥ 0)) ((idx a191.2 (w64 (p1 + a191.1))).bind fun v208=>(idx a191.2 p1).bind fun v210=>(idx a191.2 p1).bind fun _=>(idx (a191.2.set p1.toNat v208) (w64 (p1 + a191.1))).bind fun _=>(Uw q1 ((a191.2.set p1.toNat v208).set (w64 (p1 + a191.1)).toNat v210) 0 a191.1 p1).bind fun e216=>(Qu e216.length ((a191.2.set p1.toNat v208).set (w64 (p1 + a191.1)).toNat v210).length).bind fun _=>some (.inl (w64 (a191.1 - 1),e216))) (some (.inr a191.2))
noncomputable def q2i {T : Type} (q1 : T→T→Option Int) (p0 : List T) (p1 : Int) (p2 : Int) : Option (List T):=
  (loop (q1c q1 p2 p1) (w64 (Int.tdiv (w64 ((w64 (p2 - p1)) - 1)) 2),p0)).bind fun b126=>(loop (q1d p1 q1) (w64 ((w64 (p2 - p1)) - 1),b126)).bind fun x0=>some x0
noncomputable def q2k (p0 : Int) : Option Int:=
  (q1a (IntKind.wrap .u64 p0)).bind fun r1=>(shlK .u64 1 r1).bind fun q3=>some q3
noncomputable def q2o (p0 : Int) : Option Int:=
  some (xorI .u64 (xorI .u64 (xorI .u64 p0 (IntKind.wrap .u64 (p0 * (2 ^ 13)))) (Int.fdiv (xorI .u64 p0 (IntKind.wrap .u64 (p0 * (2 ^ 13)))) (2 ^ 7))) (IntKind.wrap .u64 ((xorI .u64 (xorI .u64 p0 (IntKind.wrap .u64 (p0 * (2 ^ 13)))) (Int.fdiv (xorI .u64 p0 (IntKind.wrap .u64 (p0 * (2 ^ 13)))) (2 ^ 7))) * (2 ^ 17))))
noncomputable def Un {T : Type} (p1 : Int) (p2 : Int) (r101 : Int) (a153 : Int × List T × Int) : Option ((Int × List T × Int) ⊕ (List T)):=
  cond (decide (a153.1≤(w64 ((w64 (p1 + (w64 ((w64 (Int.tdiv (w64 (p2 - p1)) 4)) * 2)))) + 1)))) ((q2o a153.2.2).bind fun e168=>(cond (decide ((w64 (andI .u64 e168 (IntKind.wrap .u64 (r101 - 1)))) ≥ (w64 (p2 - p1)))) (some (w64 ((w64 (andI .u64 e168 (IntKind.wrap .u64 (r101 - 1)))) - (w64 (p2 - p1))))) (some (w64 (andI .u64 e168 (IntKind.wrap .u64 (r101 - 1)))))).bind fun b172=>(idx a153.2.1 (w64 (p1 + b172))).bind fun v173=>(idx a153.2.1 a153.1).bind fun v175=>(idx a153.2.1 a153.1).bind fun _=>(idx (a153.2.1.set a153.1.toNat v173) (w64 (p1 + b172))).bind fun _=>some (.inl (w64 (a153.1 + 1),(a153.2.1.set a153.1.toNat v173).set (w64 (p1 + b172)).toNat v175,e168))) (some (.inr a153.2.1))
noncomputable def q1b {T : Type} (_ : T→T→Option Int) (p0 : List T) (p1 : Int) (p2 : Int) : Option (List T):=
  cond (decide ((w64 (p2 - p1)) ≥ 8)) ((q2k (w64 (p2 - p1))).bind fun r101=>(loop (Un p1 p2 r101) (w64 ((w64 (p1 + (w64 ((w64 (Int.tdiv (w64 (p2 - p1)) 4)) * 2)))) - 1),p0,IntKind.wrap .u64 (w64 (p2 - p1)))).bind fun x0=>some x0) (some p0)
noncomputable def Up {T : Type} (q1 : T→T→Option Int) (p0 : List T) (p1 : Int) (p2 : Int) (p3 : Int) : Option (Int × Int × Int):=
  (idx p0 p2).bind fun v101=>(idx p0 p1).bind fun v103=>(q1 v101 v103).bind fun r105=>cond (decide (r105 < 0)) (some (p2,p1,w64 (p3 + 1))) (some (p1,p2,p3))
noncomputable def Uo {T : Type} (q1 : T→T→Option Int) (p0 : List T) (p1 : Int) (p2 : Int) (p3 : Int) (p4 : Int) : Option (Int × Int):=
  (Up q1 p0 p1 p2 p4).bind fun e101=>(Up q1 p0 e101.2.1 p3 e101.2.2).bind fun e103=>(Up q1 p0 e101.1 e103.1 e103.2.2).bind fun e105=>some (e105.2.1,e105.2.2)
noncomputable def U7 {T : Type} (q1 : T→T→Option Int) (p0 : List T) (p1 : Int) (p2 : Int) : Option (Int × Int):=
  (Uo q1 p0 (w64 (p1 - 1)) p1 (w64 (p1 + 1)) p2).bind fun e101=>some (e101.1,e101.2)
noncomputable def q2h {T : Type} (p0 : List T) (p1 : Int) (p2 : Int) (p3 : T→T→Option Int) : Option (Int × Int):=
  (cond (decide ((w64 (p2 - p1)) ≥ 8)) ((cond (decide ((w64 (p2 - p1)) ≥ 50)) ((U7 p3 p0 (w64 (p1 + (w64 ((w64 (Int.tdiv (w64 (p2 - p1)) 4)) * 1)))) 0).bind fun e25=>(U7 p3 p0 (w64 (p1 + (w64 ((w64 (Int.tdiv (w64 (p2 - p1)) 4)) * 2)))) e25.2).bind fun e27=>(U7 p3 p0 (w64 (p1 + (w64 ((w64 (Int.tdiv (w64 (p2 - p1)) 4)) * 3)))) e27.2).bind fun e29=>some (e25.1,e27.1,e29.1,e29.2)) (some (w64 (p1 + (w64 ((w64 (Int.tdiv (w64 (p2 - p1)) 4)) * 1))),w64 (p1 + (w64 ((w64 (Int.tdiv (w64 (p2 - p1)) 4)) * 2))),w64 (p1 + (w64 ((w64 (Int.tdiv (w64 (p2 - p1)) 4)) * 3))),0))).bind fun b24=>(Uo p3 p0 b24.1 b24.2.1 b24.2.2.1 b24.2.2.2).bind fun e31=>some (e31.1,e31.2)) (some (w64 (p1 + (w64 ((w64 (Int.tdiv (w64 (p2 - p1)) 4)) * 2))),0))).bind fun b15=>cond (b15.2 == 0) (some (b15.1,1)) (cond (b15.2 == 12) (some (b15.1,2)) (some (b15.1,0)))
noncomputable def q2n {T : Type} (a119 : Int × Int × List T) : Option ((Int × Int × List T) ⊕ (List T)):=
  cond (decide (a119.1 < a119.2.1)) ((idx a119.2.2 a119.2.1).bind fun v123=>(idx a119.2.2 a119.1).bind fun v125=>(idx a119.2.2 a119.1).bind fun _=>(idx (a119.2.2.set a119.1.toNat v123) a119.2.1).bind fun _=>some (.inl (w64 (a119.1 + 1),w64 (a119.2.1 - 1),(a119.2.2.set a119.1.toNat v123).set a119.2.1.toNat v125))) (some (.inr a119.2.2))
noncomputable def q1j {T : Type} (_ : T→T→Option Int) (p0 : List T) (p1 : Int) (p2 : Int) : Option (List T):=
  (loop q2n (p1,w64 (p2 - 1),p0)).bind fun x0=>some x0
noncomputable def Uq {T : Type} (p2 : Int) (a438 : Int × Int × List T) (q1 : T→T→Option Int) (a681 : Int) : Option ((Int) ⊕ (Int)):=
  (cond (decide (a681 < p2)) ((idx a438.2.2 a681).bind fun v707=>(idx a438.2.2 (w64 (a681 - 1))).bind fun v709=>(q1 v707 v709).bind fun r711=>some (!(decide (r711 < 0)))) (some false)).bind fun c691=>cond c691 (some (.inl (w64 (a681 + 1)))) (some (.inr a681))
noncomputable def Ur {T : Type} (q1 : T→T→Option Int) (a838 : Int × List T) : Option ((Int × List T) ⊕ (List T)):=
  cond (decide (a838.1 ≥ 1)) ((idx a838.2 a838.1).bind fun v856=>(idx a838.2 (w64 (a838.1 - 1))).bind fun v858=>(q1 v856 v858).bind fun r860=>cond (!(decide (r860 < 0))) (some (.inr a838.2)) ((idx a838.2 (w64 (a838.1 - 1))).bind fun v862=>(idx a838.2 a838.1).bind fun v864=>(idx a838.2 a838.1).bind fun _=>(idx (a838.2.set a838.1.toNat v862) (w64 (a838.1 - 1))).bind fun _=>some (.inl (w64 (a838.1 - 1),(a838.2.set a838.1.toNat v862).set (w64 (a838.1 - 1)).toNat v864)))) (some (.inr a838.2))
noncomputable def Us {T : Type} (p2 : Int) (q1 : T→T→Option Int) (b684 : Int) (a928 : Int × List T) : Option ((Int × List T) ⊕ (Int × List T)):=
  cond (decide (a928.1 < p2)) ((idx a928.2 a928.1).bind fun v946=>(idx a928.2 (w64 (a928.1 - 1))).bind fun v948=>(q1 v946 v948).bind fun r950=>cond (!(decide (r950 < 0))) (some (.inr (b684,a928.2))) ((idx a928.2 (w64 (a928.1 - 1))).bind fun v952=>(idx a928.2 a928.1).bind fun v954=>(idx a928.2 a928.1).bind fun _=>(idx (a928.2.set a928.1.toNat v952) (w64 (a928.1 - 1))).bind fun _=>some (.inl (w64 (a928.1 + 1),(a928.2.set a928.1.toNat v952).set (w64 (a928.1 - 1)).toNat v954)))) (some (.inr (b684,a928.2)))
noncomputable def J0 {T : Type} (p2 : Int) (q1 : T→T→Option Int) (p1 : Int) (a438 : Int × Int × List T) : Option ((Int × Int × List T) ⊕ ((List T) ⊕ (Bool × List T))):=
  cond (decide (a438.2.1 < 5)) (((loop (Uq p2 a438 q1) a438.1).bind fun b684=>cond (b684 == p2) (some (.inr (true,a438.2.2))) (cond (decide ((w64 (p2 - p1)) < 50)) (some (.inr (false,a438.2.2))) ((idx a438.2.2 (w64 (b684 - 1))).bind fun v713=>(idx a438.2.2 b684).bind fun v715=>(idx a438.2.2 b684).bind fun _=>(idx (a438.2.2.set b684.toNat v713) (w64 (b684 - 1))).bind fun _=>(cond (decide ((w64 (b684 - p1)) ≥ 2)) ((loop (Ur q1) (w64 (b684 - 1),(a438.2.2.set b684.toNat v713).set (w64 (b684 - 1)).toNat v715)).bind fun x0=>some x0) (some ((a438.2.2.set b684.toNat v713).set (w64 (b684 - 1)).toNat v715))).bind fun b779=>cond (decide ((w64 (p2 - b684)) ≥ 2)) ((loop (Us p2 q1 b684) (w64 (b684 + 1),b779)).bind fun x0=>some (.inl x0)) (some (.inl (b684,b779))))) : Option ((Int × List T) ⊕ (Bool × List T))).bind fun m621=>(match m621 with | .inl b622=>some (.inl (b622.1,w64 (a438.2.1 + 1),b622.2)) | .inr x1=>some (.inr (.inr x1)))) (some (.inr (.inl a438.2.2)))
noncomputable def U8 {T : Type} (q1 : T→T→Option Int) (p0 : List T) (p1 : Int) (p2 : Int) : Option (Bool × List T):=
  (loop (J0 p2 q1 p1) (w64 (p1 + 1),0,p0) : Option ((List T) ⊕ (Bool × List T))).bind fun m439=>(match m439 with | .inl b441=>some (false,b441) | .inr x1=>some x1)
noncomputable def Ut {T : Type} (a318 : Int × Int × List T) (p1 : Int) (q1 : T→T→Option Int) (a378 : Int) : Option ((Int) ⊕ (Int)):=
  (cond (decide (a378≤a318.2.1)) ((idx a318.2.2 p1).bind fun v403=>(idx a318.2.2 a378).bind fun v405=>(q1 v403 v405).bind fun r407=>some (!(decide (r407 < 0)))) (some false)).bind fun c388=>cond c388 (some (.inl (w64 (a378 + 1)))) (some (.inr a378))
noncomputable def Uu {T : Type} (b381 : Int) (a318 : Int × Int × List T) (p1 : Int) (q1 : T→T→Option Int) (a463 : Int) : Option ((Int) ⊕ (Int)):=
  (cond (decide (b381≤a463)) ((idx a318.2.2 p1).bind fun v487=>(idx a318.2.2 a463).bind fun v489=>(q1 v487 v489).bind fun r491=>some (decide (r491 < 0))) (some false)).bind fun c473=>cond c473 (some (.inl (w64 (a463 - 1)))) (some (.inr a463))
noncomputable def q1h {T : Type} (p1 : Int) (q1 : T→T→Option Int) (a318 : Int × Int × List T) : Option ((Int × Int × List T) ⊕ (Int × List T)):=
  (loop (Ut a318 p1 q1) a318.1).bind fun b381=>(loop (Uu b381 a318 p1 q1) a318.2.1).bind fun b466=>cond (decide (b381 > b466)) (some (.inr (b381,a318.2.2))) ((idx a318.2.2 b466).bind fun v493=>(idx a318.2.2 b381).bind fun v495=>(idx a318.2.2 b381).bind fun _=>(idx (a318.2.2.set b381.toNat v493) b466).bind fun _=>some (.inl (w64 (b381 + 1),w64 (b466 - 1),(a318.2.2.set b381.toNat v493).set b466.toNat v495)))
noncomputable def q1g {T : Type} (q1 : T→T→Option Int) (p0 : List T) (p1 : Int) (p2 : Int) (p3 : Int) : Option (Int × List T):=
  (idx p0 p3).bind fun v101=>(idx p0 p1).bind fun v103=>(idx p0 p1).bind fun _=>(idx (p0.set p1.toNat v101) p3).bind fun _=>(loop (q1h p1 q1) (w64 (p1 + 1),w64 (p2 - 1),(p0.set p1.toNat v101).set p3.toNat v103)).bind fun b321=>some (b321.1,b321.2)
noncomputable def q2l {T : Type} (p2 : Int) (p0 : List T) (p1 : Int) (v101 : T) (p3 : Int) (v103 : T) (q1 : T→T→Option Int) (a163 : Int) : Option ((Int) ⊕ (Int)):=
  (cond (decide (a163≤(w64 (p2 - 1)))) ((idx ((p0.set p1.toNat v101).set p3.toNat v103) a163).bind fun v187=>(idx ((p0.set p1.toNat v101).set p3.toNat v103) p1).bind fun v189=>(q1 v187 v189).bind fun r191=>some (decide (r191 < 0))) (some false)).bind fun c173=>cond c173 (some (.inl (w64 (a163 + 1)))) (some (.inr a163))
noncomputable def q2m {T : Type} (b166 : Int) (p0 : List T) (p1 : Int) (v101 : T) (p3 : Int) (v103 : T) (q1 : T→T→Option Int) (a249 : Int) : Option ((Int) ⊕ (Int)):=
  (cond (decide (b166≤a249)) ((idx ((p0.set p1.toNat v101).set p3.toNat v103) a249).bind fun v274=>(idx ((p0.set p1.toNat v101).set p3.toNat v103) p1).bind fun v276=>(q1 v274 v276).bind fun r278=>some (!(decide (r278 < 0)))) (some false)).bind fun c259=>cond c259 (some (.inl (w64 (a249 - 1)))) (some (.inr a249))
noncomputable def Jb {T : Type} (a514 : Int × Int × List T) (p1 : Int) (q1 : T→T→Option Int) (a572 : Int) : Option ((Int) ⊕ (Int)):=
  (cond (decide (a572≤a514.2.1)) ((idx a514.2.2 a572).bind fun v596=>(idx a514.2.2 p1).bind fun v598=>(q1 v596 v598).bind fun r600=>some (decide (r600 < 0))) (some false)).bind fun c582=>cond c582 (some (.inl (w64 (a572 + 1)))) (some (.inr a572))
noncomputable def Jc {T : Type} (b575 : Int) (a514 : Int × Int × List T) (p1 : Int) (q1 : T→T→Option Int) (a658 : Int) : Option ((Int) ⊕ (Int)):=
  (cond (decide (b575≤a658)) ((idx a514.2.2 a658).bind fun v683=>(idx a514.2.2 p1).bind fun v685=>(q1 v683 v685).bind fun r687=>some (!(decide (r687 < 0)))) (some false)).bind fun c668=>cond c668 (some (.inl (w64 (a658 - 1)))) (some (.inr a658))
noncomputable def q1i {T : Type} (p1 : Int) (q1 : T→T→Option Int) (a514 : Int × Int × List T) : Option ((Int × Int × List T) ⊕ (Int × List T)):=
  (loop (Jb a514 p1 q1) a514.1).bind fun b575=>(loop (Jc b575 a514 p1 q1) a514.2.1).bind fun b661=>cond (decide (b575 > b661)) (some (.inr (b661,a514.2.2))) ((idx a514.2.2 b661).bind fun v689=>(idx a514.2.2 b575).bind fun v691=>(idx a514.2.2 b575).bind fun _=>(idx (a514.2.2.set b575.toNat v689) b661).bind fun _=>some (.inl (w64 (b575 + 1),w64 (b661 - 1),(a514.2.2.set b575.toNat v689).set b661.toNat v691)))
noncomputable def q1f {T : Type} (q1 : T→T→Option Int) (p0 : List T) (p1 : Int) (p2 : Int) (p3 : Int) : Option (Int × Bool × List T):=
  (idx p0 p3).bind fun v101=>(idx p0 p1).bind fun v103=>(idx p0 p1).bind fun _=>(idx (p0.set p1.toNat v101) p3).bind fun _=>(loop (q2l p2 p0 p1 v101 p3 v103 q1) (w64 (p1 + 1))).bind fun b166=>(loop (q2m b166 p0 p1 v101 p3 v103 q1) (w64 (p2 - 1))).bind fun b252=>cond (decide (b166 > b252)) ((idx ((p0.set p1.toNat v101).set p3.toNat v103) p1).bind fun v288=>(idx ((p0.set p1.toNat v101).set p3.toNat v103) b252).bind fun v290=>(idx ((p0.set p1.toNat v101).set p3.toNat v103) b252).bind fun _=>(idx (((p0.set p1.toNat v101).set p3.toNat v103).set b252.toNat v288) p1).bind fun _=>some (b252,true,(((p0.set p1.toNat v101).set p3.toNat v103).set b252.toNat v288).set p1.toNat v290)) ((idx ((p0.set p1.toNat v101).set p3.toNat v103) b252).bind fun v296=>(idx ((p0.set p1.toNat v101).set p3.toNat v103) b166).bind fun v298=>(idx ((p0.set p1.toNat v101).set p3.toNat v103) b166).bind fun _=>(idx (((p0.set p1.toNat v101).set p3.toNat v103).set b166.toNat v296) b252).bind fun _=>(loop (q1i p1 q1) (w64 (b166 + 1),w64 (b252 - 1),(((p0.set p1.toNat v101).set p3.toNat v103).set b166.toNat v296).set b252.toNat v298)).bind fun b517=>(idx b517.2 p1).bind fun v697=>(idx b517.2 b517.1).bind fun v699=>(idx b517.2 b517.1).bind fun _=>(idx (b517.2.set b517.1.toNat v697) p1).bind fun _=>some (b517.1,false,(b517.2.set b517.1.toNat v697).set p1.toNat v699))
noncomputable def Zo {T : Type} (q1 : T→T→Option Int) (rec : List T→Int→Int→Int→Option (List T)) (a309 : Int × Int × Int × Bool × Bool × List T) : Option ((Int × Int × Int × Bool × Bool × List T) ⊕ (List T)):=
  cond (decide ((w64 (a309.2.1 - a309.1))≤12)) ((q2j q1 a309.2.2.2.2.2 a309.1 a309.2.1).bind fun e318=>(Qu e318.length a309.2.2.2.2.2.length).bind fun _=>some (.inr e318)) (cond (a309.2.2.1 == 0) ((q2i q1 a309.2.2.2.2.2 a309.1 a309.2.1).bind fun e328=>(Qu e328.length a309.2.2.2.2.2.length).bind fun _=>some (.inr e328)) ((cond (!a309.2.2.2.1) ((q1b q1 a309.2.2.2.2.2 a309.1 a309.2.1).bind fun e341=>(Qu e341.length a309.2.2.2.2.2.length).bind fun _=>some (w64 (a309.2.2.1 - 1),e341)) (some (a309.2.2.1,a309.2.2.2.2.2))).bind fun b340=>(q2h b340.2 a309.1 a309.2.1 q1).bind fun r346=>(cond (r346.2 == 2) ((q1j q1 b340.2 a309.1 a309.2.1).bind fun e356=>(Qu e356.length b340.2.length).bind fun _=>some (w64 ((w64 (a309.2.1 - 1)) - (w64 (r346.1 - a309.1))),1,e356)) (some (r346.1,r346.2,b340.2))).bind fun b355=>(cond a309.2.2.2.1 (some a309.2.2.2.2.1) (some false)).bind fun c361=>(cond c361 (some (b355.2.1 == 1)) (some false)).bind fun c365=>(cond c365 ((U8 q1 b355.2.2 a309.1 a309.2.1).bind fun e378=>(Qu e378.2.length b355.2.2.length).bind fun _=>cond e378.1 (some (.inr e378.2)) (some (.inl e378.2))) (some (.inl b355.2.2)) : Option ((List T) ⊕ (List T))).bind fun m376=>(match m376 with | .inl b377=>(cond (decide (a309.1 > 0)) ((idx b377 (w64 (a309.1 - 1))).bind fun v405=>(idx b377 b355.1).bind fun v407=>(q1 v405 v407).bind fun r409=>some (!(decide (r409 < 0)))) (some false)).bind fun c389=>cond c389 ((q1g q1 b377 a309.1 a309.2.1 b355.1).bind fun e416=>(Qu e416.2.length b377.length).bind fun _=>some (.inl (e416.1,a309.2.1,b340.1,a309.2.2.2.1,a309.2.2.2.2.1,e416.2))) ((q1f q1 b377 a309.1 a309.2.1 b355.1).bind fun e421=>(Qu e421.2.2.length b377.length).bind fun _=>cond (decide ((w64 (e421.1 - a309.1)) < (w64 (a309.2.1 - e421.1)))) ((rec e421.2.2 a309.1 e421.1 b340.1).bind fun e426=>(Qu e426.length e421.2.2.length).bind fun _=>some (.inl (w64 (e421.1 + 1),a309.2.1,b340.1,decide ((w64 (e421.1 - a309.1)) ≥ (w64 (Int.tdiv (w64 (a309.2.1 - a309.1)) 8))),e421.2.1,e426))) ((rec e421.2.2 (w64 (e421.1 + 1)) a309.2.1 b340.1).bind fun e431=>(Qu e431.length e421.2.2.length).bind fun _=>some (.inl (a309.1,e421.1,b340.1,decide ((w64 (a309.2.1 - e421.1)) ≥ (w64 (Int.tdiv (w64 (a309.2.1 - a309.1)) 8))),e421.2.1,e431)))) | .inr x1=>some (.inr x1))))
noncomputable def Uv {T : Type} (rec : List T→Int→Int→Int→Option (List T)) (q1 : T→T→Option Int) (p0 : List T) (p1 : Int) (p2 : Int) (p3 : Int) : Option (List T):=
  (loop (Zo q1 rec) (p1,p2,p3,true,true,p0)).bind fun x0=>some x0
noncomputable def Zc {T : Type} : Nat→(T→T→Option Int)→List T→Int→Int→Int→Option (List T)
  | 0,_,_,_,_,_=>none
  | n + 1,q1,p0,p1,p2,p3=>Uv (Zc n q1) q1 p0 p1 p2 p3
noncomputable def q2g {T : Type} (q1 : T→T→Option Int) (p0 : List T) : Option (List T):=
  (q1a (IntKind.wrap .u64 (p0.length : Int))).bind fun r101=>(lim (fun n=>Zc n q1 p0 0 (p0.length : Int) r101)).bind fun e103=>(Qu e103.length p0.length).bind fun _=>some e103
end Go.Sh
namespace Go.Sh
open Go Go.Am
section
variable {T : Type} [Inhabited T] {P : T→Prop} {lt : T→T→Bool} {q : T→T→Option Int}
def Kt (q : T→T→Option Int) (lt : T→T→Bool) (P : T→Prop) : Prop:=∀ x y,P x→P y→∃ r,q x y = some r∧decide (r < 0) = lt x y
def AllP (n : Nat) (P : T→Prop) (d : Array T) : Prop:=d.size = n∧n≤1000000∧∀ i,i < n→P d[i]!
theorem gx {d : Array T} {k : Nat} (h : k < d.size) : idx d.toList (k : Int) = some d[k]!:=by
  simp [idx,h]
theorem gxs {d : Array T} {k : Nat} {i : Nat} {v : T} (h : k < d.size) : idx (d.toList.set i v) (k : Int) = some (d.setIfInBounds i v)[k]!:=by
  have : d.toList.set i v = (d.setIfInBounds i v).toList:=by simp
  rw [this];exact gx (by simpa using h)
theorem gswp {d : Array T} {i j : Nat} : (d.toList.set i d[j]!).set j d[i]! = (Sort.swp d i j).toList:=by simp [Sort.swp]
theorem AllP.swp {n : Nat} {d : Array T} (h : AllP n P d) {a b : Nat} (l : a < n) (hb : b < n) : AllP n P (Sort.swp d a b):=by
  obtain ⟨j,f,c⟩:=h;refine ⟨by rw [Sort.swp_size];exact j,f,fun k g=>?_⟩;rw [Sort.swp_get d q0 q0]
  repeat' split
  all_goals first | exact c _ l | exact c _ hb | exact c _ g
theorem AllP.perm {n : Nat} {d c : Array T} (h : AllP n P d) {a b : Nat} (_ : a≤b) (hb : b≤n) (hp : Sort.PermIn a b d c) : AllP n P c:=by
  obtain ⟨m,j,g⟩:=h;refine ⟨by rw [hp.1];exact m,j,fun k l=>?_⟩;by_cases f : k < a∨b≤k
  · rw [hp.2.1 k f];exact g k l
  · exact Sort.permIn_all d c a b P q0 hp (fun i hi o=>g i q0) k q0 q0
theorem w1m (j : Nat) (h : j < 2000000) : w64 (((j + 1 : Nat) : Int) - 1) = (j : Int):=by rw [Q9 q0];omega
theorem w1p (j : Nat) (h : j < 2000000) : w64 ((j : Int) + 1) = ((j + 1 : Nat) : Int):=by rw [Q9 q0];omega
theorem wsub {a b : Nat} (h : a≤b) (c : b < 2000000) : w64 ((b : Int) - (a : Int)) = ((b - a : Nat) : Int):=by rw [Q9 q0];omega
theorem qil (l : Kt q lt P) (a n : Nat) : ∀ (j : Nat) (d : Array T),AllP n P d→j < n→loop (U6 (a : Int) q) ((j : Int),d.toList) = some (Sort.insInner lt a j d).toList∧AllP n P (Sort.insInner lt a j d)
  | 0,d,hd,hj=>by
    have c : decide (((0 : Nat) : Int) > (a : Int)) = false:=Qm q0
    refine ⟨Kl ?_,hd⟩
    simp only [U6,c,Q3,qm];rfl
  | j + 1,d,hd,hj=>by
    have p:=hd.1
    have s:=hd.2.1
    unfold Sort.insInner
    by_cases o : j + 1 > a
    · have c : decide (((j + 1 : Nat) : Int) > (a : Int)) = true:=Qe q0
      obtain ⟨r,m,h⟩:=l d[j + 1]! d[j]! (hd.2.2 _ hj) (hd.2.2 _ q0)
      by_cases f : lt d[j + 1]! d[j]! = true
      · rw [ql (by simp [o,f])]
        have g:=qil l a n j _ (hd.swp (a:=j + 1) (b:=j) hj q0) q0
        refine ⟨?_,g.2⟩
        rw [Y2 (a':=((j : Int),(Sort.swp d (j + 1) j).toList)) ?_]
        · exact g.1
        · simp only [U6,c,Q1,gx (d:=d) (k:=j + 1) q0,w1m j q0,gx (d:=d) (k:=j) q0,gxs (d:=d) (k:=j) q0,qm,m,h,f,Int.toNat_natCast,gswp]
      · rw [qn (by simp [f])]
        refine ⟨Kl ?_,hd⟩
        simp only [U6,c,Q1,gx (d:=d) (k:=j + 1) q0,w1m j q0,gx (d:=d) (k:=j) q0,qm,m,h,f,Q3]
    · rw [qn (by simp [o])]
      have c : decide (((j + 1 : Nat) : Int) > (a : Int)) = false:=Qm q0
      refine ⟨Kl ?_,hd⟩
      simp only [U6,c,Q3,qm]
theorem qqr (h : Kt q lt P) (a b n : Nat) (hb : b≤n) : ∀ (m i : Nat) (d : Array T),b - i = m→AllP n P d→i≤1000001→loop (q1e (b : Int) (a : Int) q) ((i : Int),d.toList) = some (Sort.insOuter lt a b i d).toList:=by
  intro m
  induction m with
  | zero=>
    intro i d f hd hi;unfold Sort.insOuter;rw [qn q0];have c : decide ((i : Int) < (b : Int)) = false:=Qm q0;exact Kl (by simp only [q1e,c,Q3])
  | succ m ih=>
    intro i d f hd hi;unfold Sort.insOuter;rw [ql q0];have c : decide ((i : Int) < (b : Int)) = true:=Qe q0;obtain ⟨j,g⟩:=qil h a n i d hd q0;have:=hd.2.1;rw [Y2 (a':=(((i + 1 : Nat) : Int),(Sort.insInner lt a i d).toList)) ?_]
    · exact ih (i + 1) _ q0 g q0
    · simp only [q1e,c,Q1,j,qm,w1p i q0]
theorem qqt (f : Kt q lt P) {a b n : Nat} (hb : b≤n) (c : a≤b) {d : Array T} (hd : AllP n P d) : q2j q d.toList (a : Int) (b : Int) = some (Sort.insertionSort lt d a b).toList:=by
  have:=hd.2.1;unfold q2j Sort.insertionSort;rw [w1p a q0,qqr f a b n hb _ (a + 1) d rfl hd q0];rfl
theorem qvv (hq : Kt q lt P) (hi first n : Nat) (hb : first + hi≤n) : ∀ (m root : Nat) (d : Array T),hi - root = m→AllP n P d→root≤1000000→(root < hi∨hi≤1)→loop (U9 (hi : Int) (first : Int) q) ((root : Int),d.toList) = some (Sort.siftDown lt hi first root d).toList∧AllP n P (Sort.siftDown lt hi first root d):=by
  intro m
  induction m using Nat.strongRecOn with
  | _ m ih=>
    intro root d hm hd hr an;have am:=hd.1;have hn:=hd.2.1;unfold Sort.siftDown;have y : w64 ((w64 (2 * (root : Int))) + 1) = ((2 * root + 1 : Nat) : Int):=by rw [Q9 (x:=2 * (root : Int)) q0,Q9 q0];omega
    by_cases hc : 2 * root + 1 ≥ hi
    · rw [dif_pos hc];have w : decide (((2 * root + 1 : Nat) : Int) ≥ (hi : Int)) = true:=Qe q0;refine ⟨Kl ?_,hd⟩;simp only [U9,y,w,Q1]
    · rw [dif_neg hc];have w : decide (((2 * root + 1 : Nat) : Int) ≥ (hi : Int)) = false:=Qm q0;have e2 : w64 (((2 * root + 1 : Nat) : Int) + 1) = ((2 * root + 2 : Nat) : Int):=w1p _ q0;have e3 : w64 ((first : Int) + ((2 * root + 1 : Nat) : Int)) = ((first + (2 * root + 1) : Nat) : Int):=by rw [Q9 q0];omega
      have e4 : w64 ((first : Int) + ((2 * root + 2 : Nat) : Int)) = ((first + (2 * root + 2) : Nat) : Int):=by rw [Q9 q0];omega
      have e5 : w64 ((first : Int) + (root : Int)) = ((first + root : Nat) : Int):=by rw [Q9 q0];omega
      have e6 : w64 (((first + (2 * root + 1) : Nat) : Int) + 1) = ((first + (2 * root + 2) : Nat) : Int):=w1p _ q0;have x1:=gx (d:=d) (k:=first + (2 * root + 1)) q0;have x0:=gx (d:=d) (k:=first + root) q0
      have child : ∀ c,(c = 2 * root + 1∨c = 2 * root + 2)→c < hi→
          (∀ (h : (cond (decide (((2 * root + 2 : Nat) : Int) < (hi : Int))) ((idx d.toList ((first + (2 * root + 1) : Nat) : Int)).bind fun j=>(idx d.toList ((first + (2 * root + 2) : Nat) : Int)).bind fun s=>(q j s).bind fun o=>some (decide (o < 0))) (some false)) = some (decide (c = 2 * root + 2))),
          (loop (U9 (hi : Int) (first : Int) q) ((root : Int),d.toList) = some (if (!lt d[first + root]! d[first + c]!) = true then d else Sort.siftDown lt hi first c (Sort.swp d (first + root) (first + c))).toList)∧AllP n P (if (!lt d[first + root]! d[first + c]!) = true then d else Sort.siftDown lt hi first c (Sort.swp d (first + root) (first + c)))):=by
        intro c z aa h
        have xc:=gx (d:=d) (k:=first + c) q0
        have xs:=fun v=>gxs (d:=d) (k:=first + c) (i:=first + root) (v:=v) q0
        obtain ⟨r,p,l⟩:=hq d[first + root]! d[first + c]! (hd.2.2 _ q0) (hd.2.2 _ q0)
        have hb : (cond (decide (c = 2 * root + 2)) (some ((2 * root + 2 : Nat) : Int)) (some ((2 * root + 1 : Nat) : Int))) = some (c : Int):=by
          rcases z with rfl | rfl
          · simp
          · simp
        have ec : w64 ((first : Int) + (c : Int)) = ((first + c : Nat) : Int):=by rw [Q9 q0];omega
        by_cases f : lt d[first + root]! d[first + c]! = true
        · have t:=ih (hi - c) q0 c _ rfl (hd.swp (a:=first + root) (b:=first + c) q0 q0) q0 (.inl aa)
          rw [qn (by simp [f])]
          refine ⟨?_,t.2⟩
          rw [Y2 (a':=((c : Int),(Sort.swp d (first + root) (first + c)).toList)) ?_]
          · exact t.1
          · simp only [U9,y,w,Q3,e2,e3,e6,h,qm,hb,e5,ec,x0,xc,xs,p,l,f,Bool.not_true,Int.toNat_natCast,gswp]
        · rw [ql (by simp [f])]
          refine ⟨Kl ?_,hd⟩
          simp only [U9,y,w,Q3,e2,e3,e6,h,qm,hb,e5,ec,x0,xc,p,l,f,Bool.not_false,Q1]
      by_cases g : 2 * root + 2 < hi
      · have x2:=gx (d:=d) (k:=first + (2 * root + 2)) q0;have u : decide (((2 * root + 2 : Nat) : Int) < (hi : Int)) = true:=Qe q0;obtain ⟨r,p,l⟩:=hq d[first + (2 * root + 1)]! d[first + (2 * root + 2)]! (hd.2.2 _ q0) (hd.2.2 _ q0);by_cases f : lt d[first + (2 * root + 1)]! d[first + (2 * root + 2)]! = true
        · rw [ql (by simp only [Bool.and_eq_true,decide_eq_true_eq];exact ⟨q0,f⟩)];have:=child (2 * root + 2) (.inr rfl) g (by simp only [u,Q1,x1,x2,qm,p,l,f,decide_true]);rw [dif_pos g];exact this
        · rw [qn (by simp only [Bool.and_eq_true,decide_eq_true_eq];rintro ⟨_,h⟩;exact f h)];have:=child (2 * root + 1) (.inl rfl) q0 (by simp only [u,Q1,x1,x2,qm,p,l,f];simp);exact this
      · have u : decide (((2 * root + 2 : Nat) : Int) < (hi : Int)) = false:=Qm q0;rw [qn (by simp only [Bool.and_eq_true,decide_eq_true_eq];rintro ⟨h,_⟩;omega)];have:=child (2 * root + 1) (.inl rfl) q0 (by simp only [u,Q3];simp);exact this
end
end Go.Sh
namespace Go.Sh
open Go Go.Am
section
variable {T : Type} [Inhabited T] {P : T→Prop} {lt : T→T→Bool} {q : T→T→Option Int}
theorem Ub {n : Nat} {d a : Array T} (h : AllP n P d) (b : AllP n P a) : Qu a.toList.length d.toList.length = some ():=by
  unfold Qu;rw [ql (by simp [h.1,b.1])]
theorem qi7 (b : Kt q lt P) (hi first n root : Nat) (hb : first + hi≤n) (d : Array T) (hd : AllP n P d) (f : root≤1000000) (a : root < hi∨hi≤1) : Uw q d.toList (root : Int) (hi : Int) (first : Int) = some (Sort.siftDown lt hi first root d).toList∧AllP n P (Sort.siftDown lt hi first root d):=by
  obtain ⟨g,c⟩:=qvv b hi first n hb _ root d rfl hd f a;exact ⟨by unfold Uw;rw [g];rfl,c⟩
theorem qig (j : Kt q lt P) (a b n : Nat) (hb : b≤n) (c : a≤b) : ∀ (k : Nat) (d : Array T),AllP n P d→(k≤b - a∨b - a = 0∧k≤1)→loop (q1c q (b : Int) (a : Int)) ((k : Int) - 1,d.toList) = some (Sort.heapBuild lt (b - a) a k d).toList∧AllP n P (Sort.heapBuild lt (b - a) a k d)
  | 0,d,hd,hk=>by
    have f : decide (((0 : Nat) : Int) - 1 ≥ 0) = false:=Qm q0
    refine ⟨Kl ?_,hd⟩
    simp only [q1c,f,Q3];rfl
  | k + 1,d,hd,hk=>by
    have o:=hd.2.1
    have e : (((k + 1 : Nat) : Int) - 1) = (k : Int):=by omega
    rw [e]
    have f : decide ((k : Int) ≥ 0) = true:=Qe q0
    obtain ⟨l,h⟩:=qi7 j (b - a) a n k q0 d hd q0 q0
    have g:=qig j a b n hb c k _ h q0
    refine ⟨?_,g.2⟩
    rw [Y2 (a':=((k : Int) - 1,(Sort.siftDown lt (b - a) a k d).toList)) ?_]
    · exact g.1
    · have m : w64 ((k : Int) - 1) = (k : Int) - 1:=Q9 q0
      simp only [q1c,f,Q1,wsub c (by omega : b < 2000000),l,qm,Ub hd h,m]
theorem qih (j : Kt q lt P) (a n : Nat) : ∀ (k : Nat) (d : Array T),AllP n P d→a + k≤n→loop (q1d (a : Int) q) ((k : Int) - 1,d.toList) = some (Sort.heapPop lt a k d).toList
  | 0,d,hd,hk=>by
    have g : decide (((0 : Nat) : Int) - 1 ≥ 0) = false:=Qm q0
    refine Kl ?_
    simp only [q1d,g,Q3];rfl
  | k + 1,d,hd,hk=>by
    have m:=hd.1
    have r:=hd.2.1
    have e : (((k + 1 : Nat) : Int) - 1) = (k : Int):=by omega
    rw [e]
    have g : decide ((k : Int) ≥ 0) = true:=Qe q0
    have c:=hd.swp (a:=a) (b:=a + k) q0 q0
    obtain ⟨f,h⟩:=qi7 j k a n 0 q0 _ c q0 q0
    have l:=qih j a n k _ h q0
    rw [Y2 (a':=((k : Int) - 1,(Sort.siftDown lt k a 0 (Sort.swp d a (a + k))).toList)) ?_]
    · exact l
    · have p : w64 ((k : Int) - 1) = (k : Int) - 1:=Q9 q0
      have o : w64 ((a : Int) + (k : Int)) = ((a + k : Nat) : Int):=by rw [Q9 q0];omega
      have f : Uw q (Sort.swp d a (a + k)).toList 0 (k : Int) (a : Int) = _:=f
      simp only [q1d,g,Q1,o,gx (d:=d) (k:=a) q0,gx (d:=d) (k:=a + k) q0,gxs (d:=d) (k:=a + k) q0,qm,Int.toNat_natCast,gswp,f,Ub c h,p]
theorem qqj (c : Kt q lt P) {a b n : Nat} (hb : b≤n) (f : a < b) {d : Array T} (hd : AllP n P d) : q2i q d.toList (a : Int) (b : Int) = some (Sort.heapSort lt d a b).toList:=by
  have m:=hd.2.1;have l : w64 ((b : Int) - (a : Int)) = ((b - a : Nat) : Int):=wsub q0 q0;have j : w64 (((b - a : Nat) : Int) - 1) = ((b - a : Nat) : Int) - 1:=Q9 q0
  have k : w64 (Int.tdiv (((b - a : Nat) : Int) - 1) 2) = (((b - a - 1) / 2 + 1 : Nat) : Int) - 1:=by
    rw [Int.tdiv_eq_ediv_of_nonneg q0,Q9 q0];omega
  obtain ⟨h,g⟩:=qig c a b n hb q0 ((b - a - 1) / 2 + 1) d hd q0;unfold q2i Sort.heapSort;rw [l,j,k,h,qm,qih c a n (b - a) _ g q0];rfl
theorem quj (n : Nat) : ∀ (m i j : Nat) (d : Array T),j - i = m→AllP n P d→j < n→i≤1000001→loop (q2n (T:=T)) ((i : Int),(j : Int),d.toList) = some (Sort.reverseLoop i j d).toList:=by
  intro m
  induction m using Nat.strongRecOn with
  | _ m ih=>
    intro i j d h hd g hi;have f:=hd.1;have l:=hd.2.1;unfold Sort.reverseLoop;by_cases b : i < j
    · rw [ql b];have a : decide ((i : Int) < (j : Int)) = true:=Qe q0;have c : w64 ((j : Int) - 1) = ((j - 1 : Nat) : Int):=by rw [Q9 q0];omega
      rw [Y2 (a':=(((i + 1 : Nat) : Int),((j - 1 : Nat) : Int),(Sort.swp d i j).toList)) ?_]
      · exact ih _ q0 _ _ _ rfl (hd.swp q0 g) q0 q0
      · simp only [q2n,a,Q1,gx (d:=d) (k:=i) q0,gx (d:=d) (k:=j) q0,gxs (d:=d) (k:=j) q0,qm,Int.toNat_natCast,gswp,c,w1p i q0]
    · rw [qn b];have a : decide ((i : Int) < (j : Int)) = false:=Qm q0;exact Kl (by simp only [q2n,a,Q3])
theorem quk {a b n : Nat} (hb : b≤n) (c : a < b) {d : Array T} (hd : AllP n P d) : q1j q d.toList (a : Int) (b : Int) = some (Sort.reverseRange d a b).toList:=by
  have g:=hd.2.1;have f : w64 ((b : Int) - 1) = ((b - 1 : Nat) : Int):=by rw [Q9 q0];omega
  unfold q1j Sort.reverseRange;rw [f,quj n _ a (b - 1) d rfl hd q0 q0];rfl
theorem qek (j : Kt q lt P) {n : Nat} {d : Array T} (hd : AllP n P d) {a b s : Nat} (f : a < n) (hb : b < n) (hs : s≤1000) : Up q d.toList (a : Int) (b : Int) (s : Int) = some (((Sort.order2 lt d a b s).1 : Int),((Sort.order2 lt d a b s).2.1 : Int),((Sort.order2 lt d a b s).2.2 : Int))∧(Sort.order2 lt d a b s).1 < n∧(Sort.order2 lt d a b s).2.1 < n∧(Sort.order2 lt d a b s).2.2≤s + 1:=by
  have h:=hd.1;obtain ⟨r,l,g⟩:=j d[b]! d[a]! (hd.2.2 _ hb) (hd.2.2 _ f);unfold Up Sort.order2;rw [gx (d:=d) (k:=b) q0,gx (d:=d) (k:=a) q0];simp only [qm,l,g];by_cases c : lt d[b]! d[a]! = true
  · rw [ql c];simp only [c,Q1,w1p s q0];exact ⟨trivial,hb,f,q0⟩
  · rw [qn c];have : lt d[b]! d[a]! = false:=by simpa using c
    simp only [this,Q3];exact ⟨trivial,f,hb,q0⟩
theorem qe2 (f : Kt q lt P) {n : Nat} {d : Array T} (hd : AllP n P d) {a b c s : Nat} (p : a < n) (hb : b < n) (m : c < n) (hs : s≤900) : Uo q d.toList (a : Int) (b : Int) (c : Int) (s : Int) = some (((Sort.median lt d a b c s).1 : Int),((Sort.median lt d a b c s).2 : Int))∧(Sort.median lt d a b c s).1 < n∧(Sort.median lt d a b c s).2≤s + 3:=by
  obtain ⟨h,o,b1,c1⟩:=qek f hd p hb (s:=s) q0;obtain ⟨g,j,r,c2⟩:=qek f hd b1 m (s:=(Sort.order2 lt d a b s).2.2) q0;obtain ⟨k,t,l,c3⟩:=qek f hd o j (s:=(Sort.order2 lt d (Sort.order2 lt d a b s).2.1 c (Sort.order2 lt d a b s).2.2).2.2) q0;unfold Uo Sort.median;simp only [h,g,k,qm];exact ⟨trivial,l,q0⟩
theorem qe1 (h : Kt q lt P) {n : Nat} {d : Array T} (hd : AllP n P d) {a s : Nat} (m : 1≤a) (f : a + 1 < n) (hs : s≤900) : U7 q d.toList (a : Int) (s : Int) = some (((Sort.medianAdjacent lt d a s).1 : Int),((Sort.medianAdjacent lt d a s).2 : Int))∧(Sort.medianAdjacent lt d a s).1 < n∧(Sort.medianAdjacent lt d a s).2≤s + 3:=by
  have l:=hd.2.1;obtain ⟨j,g,k⟩:=qe2 h hd (a:=a - 1) (b:=a) (c:=a + 1) (s:=s) q0 q0 f hs;have e : w64 ((a : Int) - 1) = ((a - 1 : Nat) : Int):=by rw [Q9 q0];omega
  unfold U7 Sort.medianAdjacent;rw [e,w1p a q0,j];exact ⟨rfl,g,k⟩
def qdo : Sort.Hint→Int
  | .unknown=>0
  | .increasing=>1
  | .decreasing=>2
theorem qor (j : Kt q lt P) {n : Nat} {d : Array T} (hd : AllP n P d) {a b : Nat} (af : a < b) (hb : b≤n) : q2h d.toList (a : Int) (b : Int) q = some (((Sort.choosePivot lt d a b).1 : Int),qdo (Sort.choosePivot lt d a b).2):=by
  have hn:=hd.2.1;have e0 : w64 ((b : Int) - (a : Int)) = ((b - a : Nat) : Int):=wsub q0 q0
  have e1 : w64 (Int.tdiv ((b - a : Nat) : Int) 4) = (((b - a) / 4 : Nat) : Int):=by
    rw [Int.tdiv_eq_ediv_of_nonneg q0,Q9 q0];omega
  have em : ∀ k : Nat,k≤3→w64 ((a : Int) + (w64 ((((b - a) / 4 : Nat) : Int) * (k : Int)))) = ((a + (b - a) / 4 * k : Nat) : Int):=by
    intro k hk;have : (b - a) / 4 * k≤(b - a) / 4 * 3:=Nat.mul_le_mul_left _ hk;have e : ((((b - a) / 4 : Nat) : Int) * (k : Int)) = (((b - a) / 4 * k : Nat) : Int):=by push_cast;rfl
    rw [e,Q9 (x:=(((b - a) / 4 * k : Nat) : Int)) q0,Q9 q0];omega
  have o:=em 1 q0;have g:=em 2 q0;have m:=em 3 q0
  have f : ∀ r : Nat × Nat,(cond (((r.2 : Int)) == 0) (some ((r.1 : Int),(1 : Int))) (cond (((r.2 : Int)) == 12) (some ((r.1 : Int),(2 : Int))) (some ((r.1 : Int),(0 : Int))))) = some ((r.1 : Int),qdo (if r.2 = 0 then Sort.Hint.increasing else if r.2 = 12 then Sort.Hint.decreasing else Sort.Hint.unknown)):=by
    intro r;by_cases v : r.2 = 0
    · have : ((r.2 : Int) == 0) = true:=by simp [v]
      simp only [this,Q1,ql v];rfl
    · have t0 : ((r.2 : Int) == 0) = false:=by simp;omega
      by_cases p : r.2 = 12
      · have : ((r.2 : Int) == 12) = true:=by simp;omega
        simp only [t0,this,Q1,Q3,qn v,ql p];rfl
      · have : ((r.2 : Int) == 12) = false:=by simp;omega
        simp only [t0,this,Q3,qn v,qn p];rfl
  unfold q2h Sort.choosePivot;simp only [e0,e1];by_cases z : b - a ≥ 8
  · have w : decide (((b - a : Nat) : Int) ≥ 8) = true:=Qe q0;by_cases t : b - a ≥ 50
    · have h : decide (((b - a : Nat) : Int) ≥ 50) = true:=Qe q0;obtain ⟨x1,y1,z1⟩:=qe1 j hd (a:=a + (b - a) / 4 * 1) (s:=0) q0 q0 q0;obtain ⟨x2,y2,z2⟩:=qe1 j hd (a:=a + (b - a) / 4 * 2) (s:=(Sort.medianAdjacent lt d (a + (b - a) / 4 * 1) 0).2) q0 q0 q0;obtain ⟨x3,y3,z3⟩:=qe1 j hd (a:=a + (b - a) / 4 * 3) (s:=(Sort.medianAdjacent lt d (a + (b - a) / 4 * 2) (Sort.medianAdjacent lt d (a + (b - a) / 4 * 1) 0).2).2) q0 q0 q0;obtain ⟨l,y4,z4⟩:=qe2 j hd y1 y2 y3 (s:=(Sort.medianAdjacent lt d (a + (b - a) / 4 * 3) (Sort.medianAdjacent lt d (a + (b - a) / 4 * 2) (Sort.medianAdjacent lt d (a + (b - a) / 4 * 1) 0).2).2).2) q0;simp only [ql z,ql t,w,h,Q1];have y : w64 ((a : Int) + (w64 ((((b - a) / 4 : Nat) : Int) * 1))) = _:=o;have u : w64 ((a : Int) + (w64 ((((b - a) / 4 : Nat) : Int) * 2))) = _:=g;have g3 : w64 ((a : Int) + (w64 ((((b - a) / 4 : Nat) : Int) * 3))) = _:=m;have x1 : U7 q d.toList ((a + (b - a) / 4 * 1 : Nat) : Int) 0 = _:=x1;rw [y,u,g3];simp only [x1,x2,x3,l,qm];exact f _
    · have h : decide (((b - a : Nat) : Int) ≥ 50) = false:=Qm q0;obtain ⟨l,y4,z4⟩:=qe2 j hd (a:=a + (b - a) / 4 * 1) (b:=a + (b - a) / 4 * 2) (c:=a + (b - a) / 4 * 3) (s:=0) q0 q0 q0 q0;simp only [ql z,qn t,w,h,Q1,Q3];have y : w64 ((a : Int) + (w64 ((((b - a) / 4 : Nat) : Int) * 1))) = _:=o;have u : w64 ((a : Int) + (w64 ((((b - a) / 4 : Nat) : Int) * 2))) = _:=g;have g3 : w64 ((a : Int) + (w64 ((((b - a) / 4 : Nat) : Int) * 3))) = _:=m;have l : Uo q d.toList ((a + (b - a) / 4 * 1 : Nat) : Int) ((a + (b - a) / 4 * 2 : Nat) : Int) ((a + (b - a) / 4 * 3 : Nat) : Int) 0 = _:=l;rw [y,u,g3];simp only [l,qm];exact f _
  · have w : decide (((b - a : Nat) : Int) ≥ 8) = false:=Qm q0;simp only [qn z,w,Q3];have u : w64 ((a : Int) + (w64 ((((b - a) / 4 : Nat) : Int) * 2))) = _:=g;rw [u];simp only [qm];exact f (a + (b - a) / 4 * 2,0)
end
end Go.Sh
namespace Go.Sh
open Go Go.Am
theorem q27 (n : Int) : IntKind.u64.wrap n = n % 18446744073709551616:=by simp [IntKind.wrap,IntKind.bits,IntKind.signed]
theorem q10w (n : Int) : IntKind.u8.wrap n = n % 256:=by simp [IntKind.wrap,IntKind.bits,IntKind.signed]
theorem xorU (a b : Nat) (c : a < 18446744073709551616) (hb : b < 18446744073709551616) : xorI .u64 (a : Int) (b : Int) = ((a ^^^ b : Nat) : Int):=by
  have d : a ^^^ b < 2 ^ 64:=Nat.xor_lt_two_pow q0 q0;unfold xorI;rw [q27];show ((BitVec.ofInt 64 (a : Int) ^^^ BitVec.ofInt 64 (b : Int)).toNat : Int) % _ = _;rw [BitVec.ofInt_natCast,BitVec.ofInt_natCast,BitVec.toNat_xor,BitVec.toNat_ofNat,BitVec.toNat_ofNat,Nat.mod_eq_of_lt (a:=a) q0,Nat.mod_eq_of_lt (a:=b) q0];omega
theorem andU (a b : Nat) (c : a < 18446744073709551616) (hb : b < 18446744073709551616) : andI .u64 (a : Int) (b : Int) = ((a &&& b : Nat) : Int):=by
  have d : a &&& b≤a:=Nat.and_le_left;unfold andI;rw [q27];show ((BitVec.ofInt 64 (a : Int) &&& BitVec.ofInt 64 (b : Int)).toNat : Int) % _ = _;rw [BitVec.ofInt_natCast,BitVec.ofInt_natCast,BitVec.toNat_and,BitVec.toNat_ofNat,BitVec.toNat_ofNat,Nat.mod_eq_of_lt (a:=a) q0,Nat.mod_eq_of_lt (a:=b) q0];omega
theorem q10z (X : Nat) (g : X < 18446744073709551616) : q2o (X : Int) = some ((Sort.xorNextN X : Nat) : Int):=by
  obtain ⟨A,a⟩ : ∃ A : Nat,A = X ^^^ (X * 8192 % 18446744073709551616):=⟨_,rfl⟩
  obtain ⟨B,b⟩ : ∃ B : Nat,B = A ^^^ (A / 128):=⟨_,rfl⟩
  have j : A < 18446744073709551616:=by rw [a];exact Nat.xor_lt_two_pow (n:=64) q0 q0
  have h : B < 18446744073709551616:=by rw [b];exact Nat.xor_lt_two_pow (n:=64) q0 q0
  have k : xorI .u64 (X : Int) (IntKind.u64.wrap ((X : Int) * 2 ^ 13)) = (A : Int):=by
    rw [q27,show ((X : Int) * 2 ^ 13 % 18446744073709551616) = ((X * 8192 % 18446744073709551616 : Nat) : Int) by omega,xorU _ _ g q0,a]
  have c : xorI .u64 (A : Int) (Int.fdiv (A : Int) (2 ^ 7)) = (B : Int):=by
    rw [Int.fdiv_eq_ediv_of_nonneg _ qw,show ((A : Int) / 2 ^ 7) = ((A / 128 : Nat) : Int) by omega,xorU _ _ j q0,b]
  have d : xorI .u64 (B : Int) (IntKind.u64.wrap ((B : Int) * 2 ^ 17)) = ((B ^^^ (B * 131072 % 18446744073709551616) : Nat) : Int):=by
    rw [q27,show ((B : Int) * 2 ^ 17 % 18446744073709551616) = ((B * 131072 % 18446744073709551616 : Nat) : Int) by omega,xorU _ _ h q0]
  have f : Sort.xorNextN X = B ^^^ (B * 131072 % 18446744073709551616):=by unfold Sort.xorNextN;simp only [];rw [← a,← b]
  unfold q2o;rw [k,c,d,f]
theorem q108 : ∀ k : Nat,k < 256→q4g q4x (k : Int) = some ((Sort.bitsLen k : Nat) : Int):=by
  have key : ∀ k : Fin 256,(q4x[k.1]?).map (fun b=>b.toNat) = some (Sort.bitsLen k.1):=by decide +kernel
  intro k a;have:=key ⟨k,a⟩;unfold q4g;rw [ql q0,Int.toNat_natCast];simp only [Kv] at this ⊢;obtain ⟨b,c,d⟩:=this;exact ⟨b,c,by rw [d]⟩
theorem qgb (n k : Nat) (h : 2 ^ k≤n) : Sort.bitsLen n = Sort.bitsLen (n / 2 ^ k) + k:=by
  have hp : 0 < 2 ^ k:=Nat.two_pow_pos k;apply Nat.le_antisymm
  · rw [Sort.bitsLen_le_iff];have:=Sort.lt_two_pow_bitsLen (n / 2 ^ k);rw [Nat.pow_add];exact (Nat.div_lt_iff_lt_mul hp).1 this
  · have b : k < Sort.bitsLen n:=by
      rcases Nat.lt_or_ge k (Sort.bitsLen n) with a | a
      · exact a
      · have:=(Sort.bitsLen_le_iff n k).1 a;omega
    have : Sort.bitsLen (n / 2 ^ k)≤Sort.bitsLen n - k:=by
      rw [Sort.bitsLen_le_iff,Nat.div_lt_iff_lt_mul hp,← Nat.pow_add,Nat.sub_add_cancel q0];exact Sort.lt_two_pow_bitsLen n
    omega
theorem qiw (n : Nat) (h : n≤1000000) : q1a (n : Int) = some ((Sort.bitsLen n : Nat) : Int):=by
  unfold q1a q3k;have f : decide ((n : Int) ≥ 4294967296) = false:=Qm q0;simp only [f,Q3,qm]
  have fin : ∀ m s : Nat,m < 256→s≤16→(q4g q4x (IntKind.u8.wrap (m : Int))).bind (fun b=>some (w64 ((s : Int) + (w64 b)))) = some ((Sort.bitsLen m + s : Nat) : Int):=by
    intro m s d hs;rw [q10w,show ((m : Int) % 256) = (m : Int) by omega,q108 m d];have : Sort.bitsLen m≤8:=(Sort.bitsLen_le_iff m 8).2 q0;rw [qm,Q9 (x:=((Sort.bitsLen m : Nat) : Int)) q0,Q9 q0];congr 1;omega
  by_cases j : n ≥ 65536
  · have c : decide ((n : Int) ≥ 65536) = true:=Qe q0;have e : Int.fdiv (n : Int) (2 ^ 16) = ((n / 65536 : Nat) : Int):=by rw [Int.fdiv_eq_ediv_of_nonneg _ qw];omega
    have a : decide (((n / 65536 : Nat) : Int) ≥ 256) = false:=Qm q0;have w : w64 (0 + 16) = ((16 : Nat) : Int):=by rw [Q9 q0];rfl
    simp only [c,Q1,qm,e,a,Q3,w];rw [fin (n / 65536) 16 q0 q0,qm,qgb n 16 q0]
  · have c : decide ((n : Int) ≥ 65536) = false:=Qm q0;simp only [c,Q3,qm];by_cases g : n ≥ 256
    · have a : decide ((n : Int) ≥ 256) = true:=Qe q0;have e : Int.fdiv (n : Int) (2 ^ 8) = ((n / 256 : Nat) : Int):=by rw [Int.fdiv_eq_ediv_of_nonneg _ qw];omega
      have w : w64 (0 + 8) = ((8 : Nat) : Int):=by rw [Q9 q0];rfl
      simp only [a,Q1,qm,e,w];rw [fin (n / 256) 8 q0 q0,qm,qgb n 8 q0]
    · have a : decide ((n : Int) ≥ 256) = false:=Qm q0;simp only [a,Q3,qm];have:=fin n 0 q0 q0;exact congrArg (fun o=>Option.bind o some) this
theorem qrr (n : Nat) (b : n≤1000000) : q2k (n : Int) = some ((1 <<< Sort.bitsLen n : Nat) : Int):=by
  unfold q2k;rw [q27,show ((n : Int) % 18446744073709551616) = (n : Int) by omega,qiw n b];have a : Sort.bitsLen n≤20:=(Sort.bitsLen_le_iff n 20).2 q0;have h : (2 : Nat) ^ Sort.bitsLen n≤2 ^ 20:=Nat.pow_le_pow_right qw a;have e : min (Sort.bitsLen n) IntKind.u64.bits = Sort.bitsLen n:=Nat.min_eq_left (by show _≤64;omega);simp only [qm,shlK];rw [qn q0,Int.toNat_natCast,e,q27,Nat.one_shiftLeft,qm,show ((1 : Int) * (2 : Int) ^ Sort.bitsLen n) = ((2 ^ Sort.bitsLen n : Nat) : Int) by push_cast;omega];generalize (2 : Nat) ^ Sort.bitsLen n = p at h;congr 1;omega
section
variable {T : Type} [Inhabited T] {P : T→Prop} {lt : T→T→Bool} {q : T→T→Option Int}
theorem qci {a b n : Nat} (hb : b≤n) (h8 : 8≤b - a) {d : Array T} (hd : AllP n P d) (k : Nat) (hk : k≤2) (r : UInt64) :
    Un (a : Int) (b : Int) ((1 <<< Sort.bitsLen (b - a) : Nat) : Int) (((a + (b - a) / 4 * 2 - 1 + k : Nat) : Int),d.toList,((r.toNat : Nat) : Int)) =
      some (.inl (((a + (b - a) / 4 * 2 - 1 + k + 1 : Nat) : Int),(Sort.breakStep a (b - a) (1 <<< Sort.bitsLen (b - a)) (r,d) (a + (b - a) / 4 * 2 - 1 + k)).2.toList,(((Sort.breakStep a (b - a) (1 <<< Sort.bitsLen (b - a)) (r,d) (a + (b - a) / 4 * 2 - 1 + k)).1.toNat : Nat) : Int)))∧
      AllP n P (Sort.breakStep a (b - a) (1 <<< Sort.bitsLen (b - a)) (r,d) (a + (b - a) / 4 * 2 - 1 + k)).2:=by
  have v:=hd.1;have hn:=hd.2.1;have s : r.toNat < 18446744073709551616:=r.toNat_lt;have e0 : w64 ((b : Int) - (a : Int)) = ((b - a : Nat) : Int):=wsub q0 q0
  have e1 : w64 (Int.tdiv ((b - a : Nat) : Int) 4) = (((b - a) / 4 : Nat) : Int):=by
    rw [Int.tdiv_eq_ediv_of_nonneg q0,Q9 q0];omega
  have w : w64 ((((b - a) / 4 : Nat) : Int) * 2) = (((b - a) / 4 * 2 : Nat) : Int):=by rw [Q9 q0];omega
  have e3 : w64 ((a : Int) + (((b - a) / 4 * 2 : Nat) : Int)) = ((a + (b - a) / 4 * 2 : Nat) : Int):=by rw [Q9 q0];omega
  have e4 : w64 (((a + (b - a) / 4 * 2 : Nat) : Int) + 1) = ((a + (b - a) / 4 * 2 + 1 : Nat) : Int):=w1p _ q0;have z : decide (((a + (b - a) / 4 * 2 - 1 + k : Nat) : Int)≤((a + (b - a) / 4 * 2 + 1 : Nat) : Int)) = true:=Qe q0;have y:=q10z r.toNat s;have hX : Sort.xorNextN r.toNat < 18446744073709551616:=Sort.xorNextN_lt _ s;have h : Sort.bitsLen (b - a)≤20:=(Sort.bitsLen_le_iff _ 20).2 q0;have g : (2 : Nat) ^ Sort.bitsLen (b - a)≤2 ^ 20:=Nat.pow_le_pow_right qw h;have hp1 : 0 < (2 : Nat) ^ Sort.bitsLen (b - a):=Nat.two_pow_pos _;have x:=Sort.two_pow_bitsLen_le (n:=b - a) q0;have c : (1 : Nat) <<< Sort.bitsLen (b - a) = 2 ^ Sort.bitsLen (b - a):=Nat.one_shiftLeft _
  have em : IntKind.u64.wrap (((1 <<< Sort.bitsLen (b - a) : Nat) : Int) - 1) = ((1 <<< Sort.bitsLen (b - a) - 1 : Nat) : Int):=by
    rw [q27,c];generalize (2 : Nat) ^ Sort.bitsLen (b - a) = p at g hp1;omega
  have f : (Sort.xorNextN r.toNat) &&& (1 <<< Sort.bitsLen (b - a) - 1) < 2 ^ Sort.bitsLen (b - a):=by
    rw [c];have : (Sort.xorNextN r.toNat) &&& (2 ^ Sort.bitsLen (b - a) - 1)≤2 ^ Sort.bitsLen (b - a) - 1:=Nat.and_le_right;omega
  have q:=andU (Sort.xorNextN r.toNat) (1 <<< Sort.bitsLen (b - a) - 1) hX (by rw [c];omega);unfold Sort.breakStep;simp only [Sort.xorNext_toNat];generalize hm : (Sort.xorNextN r.toNat) &&& (1 <<< Sort.bitsLen (b - a) - 1) = m at f q;have u : m < 2 * (b - a):=by omega
  have ew : w64 (m : Int) = (m : Int):=Q9 q0
  have l : (cond (decide ((m : Int) ≥ ((b - a : Nat) : Int))) (some (w64 ((m : Int) - ((b - a : Nat) : Int)))) (some (m : Int))) = some (((if m ≥ b - a then m - (b - a) else m) : Nat) : Int):=by
    by_cases j : m ≥ b - a
    · have t : decide ((m : Int) ≥ ((b - a : Nat) : Int)) = true:=Qe q0;rw [t,Q1,ql j,wsub j q0]
    · have t : decide ((m : Int) ≥ ((b - a : Nat) : Int)) = false:=Qm q0;rw [t,Q3,qn j]
  have ho : (if m ≥ b - a then m - (b - a) else m) < b - a:=by split <;> omega
  generalize (if m ≥ b - a then m - (b - a) else m) = o at l ho;have eo : w64 ((a : Int) + (o : Int)) = ((a + o : Nat) : Int):=by rw [Q9 q0];omega
  refine ⟨?_,hd.swp q0 q0⟩;simp only [Un,e0,e1,w,e3,e4,z,Q1,y,qm,em,q,ew,l,eo,gx (d:=d) (k:=a + o) q0,gx (d:=d) (k:=a + (b - a) / 4 * 2 - 1 + k) q0,gxs (d:=d) (k:=a + o) q0,Int.toNat_natCast,gswp,w1p (a + (b - a) / 4 * 2 - 1 + k) q0]
theorem qno {a b n : Nat} (hb : b≤n) (v : a < b) {d : Array T} (hd : AllP n P d) : q1b q d.toList (a : Int) (b : Int) = some (Sort.breakPatterns d a b).toList:=by
  have z:=hd.2.1;have p : w64 ((b : Int) - (a : Int)) = ((b - a : Nat) : Int):=wsub q0 q0;unfold q1b Sort.breakPatterns;simp only [p];by_cases c : b - a ≥ 8
  · have t : decide (((b - a : Nat) : Int) ≥ 8) = true:=Qe q0;rw [t,Q1,ql c,qrr _ q0,qm]
    have r : w64 (Int.tdiv ((b - a : Nat) : Int) 4) = (((b - a) / 4 : Nat) : Int):=by
      rw [Int.tdiv_eq_ediv_of_nonneg q0,Q9 q0];omega
    have j : w64 ((((b - a) / 4 : Nat) : Int) * 2) = (((b - a) / 4 * 2 : Nat) : Int):=by rw [Q9 q0];omega
    have l : w64 ((a : Int) + (((b - a) / 4 * 2 : Nat) : Int)) = ((a + (b - a) / 4 * 2 : Nat) : Int):=by rw [Q9 q0];omega
    have u : w64 (((a + (b - a) / 4 * 2 : Nat) : Int) - 1) = ((a + (b - a) / 4 * 2 - 1 : Nat) : Int):=by rw [Q9 q0];omega
    have s : IntKind.u64.wrap ((b - a : Nat) : Int) = (((UInt64.ofNat (b - a)).toNat : Nat) : Int):=by
      rw [q27,UInt64.toNat_ofNat'];omega
    rw [r,j,l,u,s];obtain ⟨g,m⟩:=qci hb c hd 0 q0 (UInt64.ofNat (b - a));obtain ⟨o,h⟩:=qci hb c m 1 q0 (Sort.breakStep a (b - a) (1 <<< Sort.bitsLen (b - a)) (UInt64.ofNat (b - a),d) (a + (b - a) / 4 * 2 - 1 + 0)).1;obtain ⟨k,w⟩:=qci hb c h 2 q0 (Sort.breakStep a (b - a) (1 <<< Sort.bitsLen (b - a)) ((Sort.breakStep a (b - a) (1 <<< Sort.bitsLen (b - a)) (UInt64.ofNat (b - a),d) (a + (b - a) / 4 * 2 - 1 + 0)).1,(Sort.breakStep a (b - a) (1 <<< Sort.bitsLen (b - a)) (UInt64.ofNat (b - a),d) (a + (b - a) / 4 * 2 - 1 + 0)).2) (a + (b - a) / 4 * 2 - 1 + 1)).1;simp only [Nat.add_zero,Prod.eta] at g o k m h w;rw [Y2 g,Y2 o,Y2 k]
    have f : Un (T:=T) (a : Int) (b : Int) ((1 <<< Sort.bitsLen (b - a) : Nat) : Int) (((a + (b - a) / 4 * 2 - 1 + 2 + 1 : Nat) : Int),(Sort.breakStep a (b - a) (1 <<< Sort.bitsLen (b - a)) (Sort.breakStep a (b - a) (1 <<< Sort.bitsLen (b - a)) (Sort.breakStep a (b - a) (1 <<< Sort.bitsLen (b - a)) (UInt64.ofNat (b - a),d) (a + (b - a) / 4 * 2 - 1)) (a + (b - a) / 4 * 2 - 1 + 1)) (a + (b - a) / 4 * 2 - 1 + 2)).2.toList,(((Sort.breakStep a (b - a) (1 <<< Sort.bitsLen (b - a)) (Sort.breakStep a (b - a) (1 <<< Sort.bitsLen (b - a)) (Sort.breakStep a (b - a) (1 <<< Sort.bitsLen (b - a)) (UInt64.ofNat (b - a),d) (a + (b - a) / 4 * 2 - 1)) (a + (b - a) / 4 * 2 - 1 + 1)) (a + (b - a) / 4 * 2 - 1 + 2)).1.toNat : Nat) : Int)) = some (.inr (Sort.breakStep a (b - a) (1 <<< Sort.bitsLen (b - a)) (Sort.breakStep a (b - a) (1 <<< Sort.bitsLen (b - a)) (Sort.breakStep a (b - a) (1 <<< Sort.bitsLen (b - a)) (UInt64.ofNat (b - a),d) (a + (b - a) / 4 * 2 - 1)) (a + (b - a) / 4 * 2 - 1 + 1)) (a + (b - a) / 4 * 2 - 1 + 2)).2.toList):=by
      have y : w64 (((a + (b - a) / 4 * 2 : Nat) : Int) + 1) = ((a + (b - a) / 4 * 2 + 1 : Nat) : Int):=w1p _ q0;have x : decide (((a + (b - a) / 4 * 2 - 1 + 2 + 1 : Nat) : Int)≤((a + (b - a) / 4 * 2 + 1 : Nat) : Int)) = false:=Qm q0;simp only [Un,p,r,j,l,y,x,Q3]
    rw [Kl f];rfl
  · have t : decide (((b - a : Nat) : Int) ≥ 8) = false:=Qm q0;rw [t,Q3,qn c]
end
end Go.Sh
