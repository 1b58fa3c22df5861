/- St2 St3 St4 Sq1 Sq2 St5 St6 St7 St8 -/
import Derived.Test.YtgkialgkmjnfbaaGreatK12
namespace Go.Sh
open Go Go.Am
structure Abs (out : List qh) (lo0 hi0 : Int) (k : Nat) (c : Int × Int × List qh) : Prop where
  can : Can c.2.2
  sub : ∀ t∈c.2.2,t∈out.take k
  apart : ∀ t∈c.2.2,t.Hi < c.1∨c.2.1 < t.Lo
  lt : c.1 < c.2.1
  bnd : -1000000≤c.1∧c.2.1≤1000000
  pts : ∀ x,(has c.2.2 x∨(c.1≤x∧x < c.2.1))↔(has (out.take k) x∨(lo0≤x∧x < hi0))
  len : c.2.2.length≤k
theorem q13n (i : Int) (out : List qh) (a b : Int) (r : Good out) (hl : out.length≤1000) (hv : vld {Lo:=a,Hi:=b}) :
    ∃ c,loop (q67 (i,out)) (0,a,b,[]) = some c∧Abs out a b out.length c:=by
  obtain ⟨v1,v2,v3⟩:=hv;simp only at v1 v2 v3;refine Ku (f:=q67 (i,out)) (σ:=Int × Int × List qh) (fun k c=>((k : Int),c)) out.length (Abs out a b) (Abs out a b out.length) ?_ ?_ (k0:=0) (c0:=(a,b,[])) q7 ⟨⟨fun t h=>(by cases h),.nil⟩,fun t h=>(by cases h),fun t h=>(by cases h),v1,⟨v2,v3⟩,fun x=>qb,qb⟩
  · rintro k ⟨lo,hi,rest⟩ hk ⟨s1,o,p,y,s5,q,s7⟩;simp only at s1 o p y s5 q s7;have hb : decide ((k : Int) < (out.length : Int)) = true:=Q2 q7;have d : out.take (k + 1) = out.take k ++ [out[k]]:=List.take_succ_eq_append_getElem hk;have u:=r.1 _ (Ke hk);obtain ⟨g1,g2,g3⟩:=u
    have l : ∀ s∈rest,s.Hi < (out[k]).Lo∧s.Lo < s.Hi:=by
      intro s hs;obtain ⟨j,hj,rfl⟩:=List.mem_iff_getElem.1 (o s hs);simp only [List.length_take] at hj;rw [List.getElem_take];exact ⟨List.pairwise_iff_getElem.1 r.2 j k q7 hk q7,(r.1 _ (Ke _)).1⟩
    by_cases n : (out[k]).Hi < lo∨hi < (out[k]).Lo
    · refine .inl ⟨(lo,hi,rest ++ [out[k]]),?_,?_⟩
      · have e : (cond (decide ((out[k]).Hi < lo)) (some true) ((idx out (k : Int)).bind fun m=>some (decide (hi < m.Lo)))) = some true:=by
          rw [Qu hk];rcases n with h | h
          · rw [Q2 h];rfl
          · by_cases z : (out[k]).Hi < lo
            · rw [Q2 z];rfl
            · rw [Q4 z,qz,qn,Q2 h]
        simp only [q67,hb,Q1,Qu hk,qn] at e ⊢;rw [e,qn,Q1,Y9 (by simp;omega),Qb q7];rfl
      · refine ⟨qch.2 ⟨s1,g1,fun s hs=>(l s hs).1⟩,fun t g=>?_,fun t g=>?_,y,s5,fun x=>?_,by simp;omega⟩
        · rw [d];rcases List.mem_append.1 g with h | h
          · exact List.mem_append_left _ (o t h)
          · exact List.mem_append_right _ h
        · rcases List.mem_append.1 g with h | h
          · exact p t h
          · rw [List.mem_singleton] at h;subst h;exact n
        · rw [d,q45,q45];have:=q x;constructor
          · rintro ((h | h) | h)
            · rcases this.1 (.inl h) with h | h
              · exact .inl (.inl h)
              · exact .inr h
            · exact .inl (.inr h)
            · rcases this.1 (.inr h) with h | h
              · exact .inl (.inl h)
              · exact .inr h
          · rintro ((h | h) | h)
            · rcases this.2 (.inl h) with h | h
              · exact .inl (.inl h)
              · exact .inr h
            · exact .inl (.inr h)
            · rcases this.2 (.inr h) with h | h
              · exact .inl (.inl h)
              · exact .inr h
    · have w : ¬ (out[k]).Hi < lo:=fun h=>n (.inl h);have v : ¬ hi < (out[k]).Lo:=fun h=>n (.inr h);refine .inl ⟨(min lo (out[k]).Lo,max hi (out[k]).Hi,rest),?_,?_⟩
      · simp only [q67,hb,Q1,Qu hk,qn,Q4 w,qz,Q4 v];rw [Qb q7];rfl
      · refine ⟨s1,fun t g=>?_,fun t g=>?_,by simp only;omega,by simp only;omega,fun x=>?_,by simp only;omega⟩
        · rw [d];exact List.mem_append_left _ (o t g)
        · have:=l t g;have:=p t g;simp only;omega
        · rw [d,q45];have:=q x;have hm : (min lo (out[k]).Lo≤x∧x < max hi (out[k]).Hi)↔((lo≤x∧x < hi)∨((out[k]).Lo≤x∧x < (out[k]).Hi)):=by omega
          rw [show (has rest x∨(min lo (out[k]).Lo≤x∧x < max hi (out[k]).Hi))↔(has rest x∨(lo≤x∧x < hi))∨((out[k]).Lo≤x∧x < (out[k]).Hi) from by rw [hm,or_assoc],this,or_right_comm]
  · rintro ⟨lo,hi,rest⟩ hI;have hb : decide ((out.length : Int) < (out.length : Int)) = false:=Q4 q7;exact ⟨(lo,hi,rest),by simp only [q67,hb,qz],hI⟩
theorem q13o (lo hi : Int) (rest : List qh) (l : rest.length≤1000) : ∃ b : Int,loop (q68 (lo,hi,rest)) 0 = some b∧∃ k : Nat,b = k∧k≤rest.length∧(∀ j (h : j < rest.length),j < k→(rest[j]).Lo < lo)∧∀ (h : k < rest.length),lo≤(rest[k]).Lo:=by
  refine Ku (f:=q68 (lo,hi,rest)) (σ:=Unit) (fun k _=>(k : Int)) rest.length (fun k _=>∀ j (h : j < rest.length),j < k→(rest[j]).Lo < lo) _ ?_ ?_ (k0:=0) (c0:=()) q7 (fun j h g=>q7)
  · rintro k _ hk h;have hb : decide ((k : Int) < (rest.length : Int)) = true:=Q2 q7;by_cases a : (rest[k]).Lo < lo
    · refine .inl ⟨(),?_,fun j c d=>?_⟩
      · simp only [q68,hb,Q1,Qu hk,qn,Q2 a];rw [Qb q7];rfl
      · by_cases e : j = k
        · subst e;exact a
        · exact h j c q7
    · refine .inr ⟨(k : Int),?_,k,rfl,q7,h,fun _=>q7⟩;simp only [q68,hb,Q1,Qu hk,qn,Q4 a,qz]
  · rintro _ h;have hb : decide ((rest.length : Int) < (rest.length : Int)) = false:=Q4 q7;exact ⟨(rest.length : Int),by simp only [q68,hb,qz,qn],rest.length,rfl,q7,h,fun h=>q7⟩
theorem qq9 {rest : List qh} {lo hi : Int} {k : Nat} (f : Can rest) (o : lo < hi) (m : ∀ t∈rest,t.Hi < lo∨hi < t.Lo) (hk : k≤rest.length) (w : ∀ j (h : j < rest.length),j < k→(rest[j]).Lo < lo) (s : ∀ (h : k < rest.length),lo≤(rest[k]).Lo) :
    Can (rest.take k ++ [{Lo:=lo,Hi:=hi}] ++ rest.drop k)∧∀ x,has (rest.take k ++ [{Lo:=lo,Hi:=hi}] ++ rest.drop k) x↔has rest x∨(lo≤x∧x < hi):=by
  have d : rest = rest.take k ++ rest.drop k:=(List.take_append_drop k rest).symm;have c:=f.2;rw [d,List.pairwise_append] at c
  have v : ∀ t∈rest.take k,t.Hi < lo:=by
    intro t g;obtain ⟨j,q,rfl⟩:=List.mem_iff_getElem.1 g;simp only [List.length_take] at q;rw [List.getElem_take];have:=w j q7 q7;have:=f.1 _ (Ke (l:=rest) (n:=j) q7);rcases m _ (Ke (l:=rest) (n:=j) q7) with h | h <;> omega
  have u : ∀ t∈rest.drop k,hi < t.Lo:=by
    intro t g;obtain ⟨j,q,rfl⟩:=List.mem_iff_getElem.1 g;simp only [List.length_drop] at q;rw [List.getElem_drop];have p:=s q7
    have : lo≤(rest[k + j]).Lo:=by
      rcases Nat.eq_zero_or_pos j with rfl | h
      · exact p
      · have:=List.pairwise_iff_getElem.1 f.2 k (k + j) q7 q7 q7;have:=f.1 _ (Ke (l:=rest) (n:=k) q7);omega
    have:=f.1 _ (Ke (l:=rest) (n:=k + j) q7);rcases m _ (Ke (l:=rest) (n:=k + j) q7) with h | h <;> omega
  refine ⟨⟨fun t g=>?_,?_⟩,fun x=>?_⟩
  · simp only [List.mem_append,List.mem_singleton] at g;rcases g with (h | rfl) | h
    · exact f.1 t (List.mem_of_mem_take h)
    · exact o
    · exact f.1 t (List.mem_of_mem_drop h)
  · rw [List.pairwise_append,List.pairwise_append];refine ⟨⟨c.1,List.pairwise_singleton _ _,fun a r b hb=>?_⟩,c.2.1,fun a r b hb=>?_⟩
    · rw [List.mem_singleton] at hb;subst hb;exact v a r
    · rcases List.mem_append.1 r with h | h
      · exact c.2.2 a h b hb
      · rw [List.mem_singleton] at h;subst h;exact u b hb
  · have e : has rest x↔has (rest.take k) x∨has (rest.drop k) x:=by rw [← qd1,← d]
    have hs : has [({Lo:=lo,Hi:=hi} : qh)] x↔(lo≤x∧x < hi):=by rw [J2];simp [q1l]
    rw [qd1,qd1,e,hs,or_right_comm]
structure Uni (s out : List qh) : Prop where
  good : Good out
  pts : ∀ x,has out x↔has s x
  len : out.length≤s.length
theorem q13p (s : List qh) (hl : s.length≤400) (hv : ∀ t∈s,vld t) : ∃ out,q9a s = some out∧Uni s out:=by
  have:=Ku (f:=q9b s) (σ:=List qh) (fun k c=>((k : Int),c)) s.length (fun k c=>Uni (s.take k) c) (fun c=>Uni s c) ?_ ?_ (k0:=0) (c0:=[]) q7 ⟨⟨fun t h=>(by cases h),.nil⟩,fun x=>qb,qb⟩
  · obtain ⟨out,n,y⟩:=this;have n : loop (q9b s) (0,[]) = some out:=n;exact ⟨out,by unfold q9a;rw [n];rfl,y⟩
  · rintro k out hk ⟨g,pts,len⟩;have o : out.length≤k:=by simp only [List.length_take] at len;omega
    have hb : decide ((k : Int) < (s.length : Int)) = true:=Q2 q7;obtain ⟨⟨lo,hi,rest⟩,e1,v,p,q,l,j,u,z⟩:=q13n (k : Int) out (s[k]).Lo (s[k]).Hi g q7 (hv _ (Ke hk));simp only at v p q l j u z;obtain ⟨b,e2,a,rfl,b1,b2,b3⟩:=q13o lo hi rest q7;obtain ⟨c1,c2⟩:=qq9 v l q b1 b2 b3
    have m : ∀ t∈rest.take a ++ [{Lo:=lo,Hi:=hi}] ++ rest.drop a,vld t:=by
      intro t d;have r : ∀ t∈rest,vld t:=fun t d=>g.1 t (List.mem_of_mem_take (p t d));simp only [List.mem_append,List.mem_singleton] at d;rcases d with (h | rfl) | h
      · exact r t (List.mem_of_mem_take h)
      · exact ⟨l,j.1,j.2⟩
      · exact r t (List.mem_of_mem_drop h)
    refine .inl ⟨rest.take a ++ [{Lo:=lo,Hi:=hi}] ++ rest.drop a,?_,⟨m,c1.2⟩,fun x=>?_,?_⟩
    · have w1 : sub2 rest.length 0 (a : Int) = some (0,a):=by unfold sub2;rw [Q0 q7];simp
      have w2 : sub2 rest.length (a : Int) (rest.length : Int) = some (a,rest.length - a):=by unfold sub2;rw [Q0 q7];simp
      simp only [q9b,hb,Q1,Qu hk,qn,e1,e2,w1,w2];rw [Y9 (by simp;omega)];simp only [qn];rw [Y9 (by simp;omega)];simp only [qn];rw [Y9 (by simp;omega)];simp only [qn];rw [Qb q7];have d1 : (rest.drop 0).take a = rest.take a:=by simp
      have w : (rest.drop a).take (rest.length - a) = rest.drop a:=by rw [List.take_of_length_le qb]
      rw [d1,w,List.nil_append];rfl
    · rw [c2,u,List.take_length,pts,List.take_succ_eq_append_getElem hk,q45]
    · have : (s.take (k + 1)).length = k + 1:=by simp;omega
      rw [this];simp;omega
  · rintro out hI;have hb : decide ((s.length : Int) < (s.length : Int)) = false:=Q4 q7;exact ⟨out,by simp only [q9b,hb,qz],by rwa [List.take_length] at hI⟩
end Go.Sh
namespace Go.Sh
open Go Go.Am
def kf (p : Bool) : qr→Option (Int × qh):=cond p hk vk
def keyL (p : Bool) (l : List qr) : List (Int × qh):=l.filterMap (kf p)
theorem qd5 (p : Bool) (l : List qr) : (keyL p l).length≤l.length:=List.length_filterMap_le _ _
theorem ql4 {p : Bool} {l : List qr} {k : Nat} (h : k < l.length) : keyL p (l.take (k + 1)) = keyL p (l.take k) ++ (kf p l[k]).toList:=by
  rw [List.take_succ_eq_append_getElem h,keyL,List.filterMap_append];cases e : kf p l[k] <;> simp [keyL,e]
theorem ql5 {p : Bool} {l : List qr} (h : ∀ s∈l,SegV s) : ∀ k t,(k,t)∈keyL p l→vld t:=by
  cases p
  · exact qfc h
  · exact qhh h
theorem quu (l : List qr) (p : Bool) (h : l.length≤400) : loop (q93 l p) (0,[]) = some ((keyL p l).map (·.1)):=by
  have:=Ku (f:=q93 l p) (σ:=List Int) (fun k c=>((k : Int),c)) l.length (fun k c=>c = (keyL p (l.take k)).map (·.1)) (fun c=>c = (keyL p l).map (·.1)) ?_ ?_ (k0:=0) (c0:=[]) q7 (by simp [keyL])
  · obtain ⟨b,g,rfl⟩:=this;exact g
  · rintro k c hk rfl;have hb : decide ((k : Int) < (l.length : Int)) = true:=Q2 q7;have d : (keyL p (l.take k)).length≤400:=by have:=qd5 p (l.take k);simp at this;omega
    refine .inl ⟨_,?_,rfl⟩;rw [ql4 hk];simp only [q93,hb,Q1,Qu hk,qn];rw [Qb q7];by_cases e : (l[k]).A.Y = (l[k]).B.Y
    · have a : ((l[k]).A.Y == (l[k]).B.Y) = true:=by simpa using e
      rw [a]
      cases p with
      | true=>
        simp only [beq_self_eq_true,Q1];rw [Y9 (by simp;omega)];have : kf true l[k] = some ((l[k]).A.Y,{Lo:=min (l[k]).A.X (l[k]).B.X,Hi:=max (l[k]).A.X (l[k]).B.X}):=by show Go.Sh.hk _ = _;unfold Go.Sh.hk;rw [Q0 e]
        rw [this];simp
      | false=>
        have : kf false l[k] = none:=by show Go.Sh.vk _ = _;unfold Go.Sh.vk;rw [Q0 e]
        rw [this];simp
    · have a : ((l[k]).A.Y == (l[k]).B.Y) = false:=by simpa using e
      rw [a]
      cases p with
      | false=>
        simp only [beq_self_eq_true,Q1,qz];rw [Y9 (by simp;omega)];have : kf false l[k] = some ((l[k]).A.X,{Lo:=min (l[k]).A.Y (l[k]).B.Y,Hi:=max (l[k]).A.Y (l[k]).B.Y}):=by show Go.Sh.vk _ = _;unfold Go.Sh.vk;rw [Q3 e]
        rw [this];simp
      | true=>
        have : kf true l[k] = none:=by show Go.Sh.hk _ = _;unfold Go.Sh.hk;rw [Q3 e]
        rw [this];simp
  · rintro c rfl;have hb : decide ((l.length : Int) < (l.length : Int)) = false:=Q4 q7;exact ⟨_,by simp only [q93,hb,qz];rfl,by rw [List.take_length]⟩
theorem quw (l : List qr) (p : Bool) (y : l.length≤400) (x : ∀ s∈l,SegV s) (keys : List Int) (i : Nat) (hi : i < keys.length) (acc : List Kk) : loop (q95 l p keys ((i : Int),acc)) (0,[]) = some (Y7 (keyL p l) keys[i]):=by
  have:=Ku (f:=q95 l p keys ((i : Int),acc)) (σ:=List qh) (fun k c=>((k : Int),c)) l.length (fun k c=>c = Y7 (keyL p (l.take k)) keys[i]) (fun c=>c = Y7 (keyL p l) keys[i]) ?_ ?_ (k0:=0) (c0:=[]) q7 (by simp [keyL,Y7])
  · obtain ⟨b,u,rfl⟩:=this;exact u
  · rintro k c hk rfl;have hb : decide ((k : Int) < (l.length : Int)) = true:=Q2 q7;have r : (Y7 (keyL p (l.take k)) keys[i]).length≤400:=by have:=qd5 p (l.take k);have:=q2m (L:=keyL p (l.take k)) (k:=keys[i]);simp at *;omega
    obtain ⟨v,t,w⟩:=x _ (Ke hk);refine .inl ⟨_,?_,rfl⟩;rw [ql4 hk];simp only [q95,hb,Q1,Qu hk,Qu hi,qn];rw [Qb q7,show ((k : Int) + 1) = ((k + 1 : Nat) : Int) by omega];generalize keys[i] = key at *;generalize l[k] = s at *;obtain ⟨⟨j,d⟩,⟨bx,a⟩⟩:=s;simp only at v t w ⊢
    cases p with
    | true=>
      have m : kf true {A:={X:=j,Y:=d},B:={X:=bx,Y:=a}} = if d = a then some (d,{Lo:=min j bx,Hi:=max j bx}) else none:=rfl
      rw [m];by_cases e1 : d = key
      · subst e1;by_cases q : a = d
        · subst q;simp only [beq_self_eq_true,Q1,qn,if_true,Option.toList_some,qbr];rw [Y9 (by simp;omega)];rfl
        · have n : (a == d) = false:=by simpa using q
          have g : ¬ d = a:=fun h=>q h.symm;simp only [beq_self_eq_true,Q1,qn,n,qz,Bool.not_true,Q3 g,Option.toList_none,List.append_nil]
      · have o : (d == key) = false:=by simpa using e1
        simp only [o,Q1,qz,qn,Bool.not_true];by_cases g : d = a
        · rw [Q0 g,Option.toList_some,qbr,Q3 (fun h=>e1 h.symm),List.append_nil]
        · rw [Q3 g,Option.toList_none,List.append_nil]
    | false=>
      have m : kf false {A:={X:=j,Y:=d},B:={X:=bx,Y:=a}} = if d = a then none else some (j,{Lo:=min d a,Hi:=max d a}):=rfl
      rw [m];by_cases e1 : j = key
      · subst e1;by_cases q : bx = j
        · subst q;have g : ¬ d = a:=by omega
          simp only [beq_self_eq_true,Q1,qz,qn,Bool.not_false,Q3 g,Option.toList_some,qbr];rw [Y9 (by simp;omega)];simp
        · have n : (bx == j) = false:=by simpa using q
          have g : d = a:=by omega
          simp only [beq_self_eq_true,Q1,qz,qn,Bool.not_false,n,Q0 g,Option.toList_none,List.append_nil]
      · have o : (j == key) = false:=by simpa using e1
        simp only [o,Q1,qz,qn,Bool.not_false];by_cases g : d = a
        · rw [Q0 g,Option.toList_none,List.append_nil]
        · rw [Q3 g,Option.toList_some,qbr,Q3 (fun h=>e1 h.symm),List.append_nil]
  · rintro c rfl;have hb : decide ((l.length : Int) < (l.length : Int)) = false:=Q4 q7;exact ⟨_,by simp only [q95,hb,qz];rfl,by rw [List.take_length]⟩
noncomputable def uniS (s : List qh) : List qh:=(q9a s).getD []
theorem qpc {s : List qh} (c : s.length≤400) (b : ∀ t∈s,vld t) : q9a s = some (uniS s)∧Uni s (uniS s):=by
  obtain ⟨out,a,d⟩:=q13p s c b;have : uniS s = out:=by unfold uniS;rw [a];rfl
  rw [this];exact ⟨a,d⟩
noncomputable def q36 (L : List (Int × qh)) (k : Int) : Kk:={At:=k,Spans:=uniS (Y7 L k)}
theorem quv (l : List qr) (p : Bool) (j : l.length≤400) (h : ∀ s∈l,SegV s) (keys : List Int) (hs : keys.Pairwise (· < ·)) (hk : keys.length≤400) : loop (q94 keys l p) (0,[]) = some (keys.map (q36 (keyL p l))):=by
  have:=Ku (f:=q94 keys l p) (σ:=List Kk) (fun k c=>((k : Int),c)) keys.length (fun k c=>c = (keys.take k).map (q36 (keyL p l))) (fun c=>c = keys.map (q36 (keyL p l))) ?_ ?_ (k0:=0) (c0:=[]) q7 qb
  · obtain ⟨b,o,rfl⟩:=this;exact o
  · rintro k c hk rfl;have hb : decide ((k : Int) < (keys.length : Int)) = true:=Q2 q7;have r:=qd5 p l;have n:=q2m (L:=keyL p l) (k:=keys[k]);obtain ⟨q,_⟩:=qpc (s:=Y7 (keyL p l) keys[k]) q7 (fun t m=>ql5 h _ _ (q49.1 m))
    have a : (cond (decide ((k : Int) > 0)) ((idx keys (k : Int)).bind fun d=>(idx keys (w64 ((k : Int) - 1))).bind fun g=>some (d == g)) (some false)) = some false:=by
      cases k with
      | zero=>rfl
      | succ k=>
        rw [Q2 (show ((k + 1 : Nat) : Int) > 0 by omega),Q1,Qu hk,Qb q7,q5b (k:=k) q7 q7];have:=List.pairwise_iff_getElem.1 hs k (k + 1) q7 hk q7;have : (keys[k + 1] == keys[k]) = false:=by simp;omega
        simp only [qn,this]
    simp only [Qu hk,qn] at a;refine .inl ⟨_,?_,rfl⟩;simp only [q94,hb,Q1,a,qn,qz,quw l p j h keys k hk,q,Qu hk];rw [Y9 (by simp;omega),Qb q7,List.take_succ_eq_append_getElem hk,List.map_append];rfl
  · rintro c rfl;have hb : decide ((keys.length : Int) < (keys.length : Int)) = false:=Q4 q7;exact ⟨_,by simp only [q94,hb,qz];rfl,by rw [List.take_length]⟩
def asc (L : List Kk) : List (Int × List qh):=L.map fun x=>(x.At,x.Spans)
theorem qlg (l : List qr) (p : Bool) (o : l.length≤400) (d : ∀ s∈l,SegV s) : ∃ L,qdz l p = some L∧Rep (asc L) (onL (keyL p l))∧(L.map (·.At)).Pairwise (· < ·):=by
  have z:=qd5 p l;obtain ⟨keys,u,⟨m,r⟩,y⟩:=qop ((keyL p l).map (·.1)) (by simp;omega);simp only [List.length_map] at y;have g : ((keys.map (q36 (keyL p l))).map (·.At)) = keys:=by rw [List.map_map];exact List.map_id _
  have b : (asc (keys.map (q36 (keyL p l)))).map (·.1) = keys:=by simp [asc,q36,Function.comp_def]
  have n : ∀ k v,(k,v)∈asc (keys.map (q36 (keyL p l)))→v = uniS (Y7 (keyL p l) k):=by
    intro k v h;simp only [asc,List.map_map,List.mem_map,Function.comp,Prod.mk.injEq] at h;obtain ⟨a,_,rfl,rfl⟩:=h;rfl
  have j : ∀ k,Uni (Y7 (keyL p l) k) (uniS (Y7 (keyL p l) k)):=fun k=>(qpc (by have:=q2m (L:=keyL p l) (k:=k);omega) (fun t c=>ql5 d _ _ (q49.1 c))).2;refine ⟨keys.map (q36 (keyL p l)),?_,⟨?_,fun k v h=>?_,fun k v h=>?_,fun k v h x=>?_,fun k x h=>?_,?_,fun k h=>?_⟩,by rw [g];exact m⟩
  · unfold qdz;rw [quu l p o];simp only [qn,u,quv l p o d keys m q7]
  · rw [b];exact m.imp fun h e=>by omega
  · rw [n k v h];exact (j k).good
  · rw [n k v h];have:=(j k).len;have:=q2m (L:=keyL p l) (k:=k);omega
  · rw [n k v h,(j k).pts,qkw]
  · rw [b,r];obtain ⟨q,w,rfl,_⟩:=h;exact List.mem_map_of_mem (f:=(·.1)) w
  · simp [asc];omega
  · rw [b,r] at h;obtain ⟨⟨a,t⟩,c,rfl⟩:=List.mem_map.1 h;cases p
    · exact qjg d _ _ c
    · exact qo6 d _ _ c
end Go.Sh
namespace Go.Sh
open Go Go.Am
open Classical
def q38 (e n w s : Bool) : Bool:=(e || n || w || s) && !(e && !n && w && !s) && !(!e && n && !w && s)
noncomputable def arB (F G : Int→Int→Prop) (x y : Int) : Bool × Bool × Bool × Bool:=(decide (F y x),decide (G x y),decide (F y (x - 1)),decide (G x (y - 1)))
def Kv (F G : Int→Int→Prop) (x y : Int) : Prop:=q38 (decide (F y x)) (decide (G x y)) (decide (F y (x - 1))) (decide (G x (y - 1))) = true
def PtB (p : qa) : Prop:=-1000000≤p.X∧p.X≤1000000∧-1000000≤p.Y∧p.Y≤1000000
section
variable {F G : Int→Int→Prop}
theorem qeu {r : Y8} (b : Rep r.rows_ F) (a : Rep r.columns_ G) {p : qa} (hp : PtB p) : q4v r p = some (arB F G p.X p.Y):=by
  obtain ⟨d,g,j,c⟩:=hp;unfold q4v arB;have f:=b.getlen p.Y;have h:=a.getlen p.X;rw [Qb q7,Qb q7,q5a _ _ q7,q5a _ _ q7,q5a _ _ q7,q5a _ _ q7];simp only [qn,decide_eq_decide.2 (b.get _ _),decide_eq_decide.2 (a.get _ _)]
theorem qvn {r : Y8} (f : Rep r.rows_ F) (g : Rep r.columns_ G) {p : qa} (hp : PtB p) : qby r p = some (decide (Kv F G p.X p.Y)):=by
  unfold qby;rw [qeu f g hp];simp only [qn,arB]
  have e : decide (Kv F G p.X p.Y) = q38 (decide (F p.Y p.X)) (decide (G p.X p.Y)) (decide (F p.Y (p.X - 1))) (decide (G p.X (p.Y - 1))):=by
    unfold Kv;cases q38 (decide (F p.Y p.X)) (decide (G p.X p.Y)) (decide (F p.Y (p.X - 1))) (decide (G p.X (p.Y - 1))) <;> simp
  rw [e];generalize decide (F p.Y p.X) = a;generalize decide (G p.X p.Y) = b;generalize decide (F p.Y (p.X - 1)) = c;generalize decide (G p.X (p.Y - 1)) = d;revert a b c d;decide
theorem qzj {L : List Kk} {i : Nat} (hi : i < L.length) (x : Int) (p : (L[i]).Spans.length≤800) : loop (q62 L (i : Int) x) 0 = some (if has (L[i]).Spans x then .inr true else .inl ()):=by
  have:=Ku (f:=q62 L (i : Int) x) (σ:=Unit) (fun k _=>(k : Int)) (L[i]).Spans.length (fun k _=>∀ j (h : j < (L[i]).Spans.length),j < k→¬ ((L[i]).Spans[j].Lo≤x∧x < (L[i]).Spans[j].Hi)) (fun c=>c = if has (L[i]).Spans x then .inr true else .inl ()) ?_ ?_ (k0:=0) (c0:=()) q7 (fun j h o=>q7)
  · obtain ⟨b,a,rfl⟩:=this;exact a
  · rintro k _ hk h;have hb : decide ((k : Int) < ((L[i]).Spans.length : Int)) = true:=Q2 q7;by_cases d : (L[i]).Spans[k].Lo≤x∧x < (L[i]).Spans[k].Hi
    · refine .inr ⟨.inr true,?_,?_⟩
      · simp only [q62,Qu hi,qn,hb,Q1,Qu hk,Q2 d.1,Q2 d.2]
      · rw [Q0 ⟨_,Ke hk,d⟩]
    · refine .inl ⟨(),?_,fun j g n=>?_⟩
      · simp only [q62,Qu hi,qn,hb,Q1,Qu hk];rw [Qb q7];by_cases a : (L[i]).Spans[k].Lo≤x
        · simp only [Q2 a,Q1,qn,Q4 (fun l=>d ⟨a,l⟩),qz];rfl
        · simp only [Q4 a,qz,qn];rfl
      · by_cases e : j = k
        · subst e;exact d
        · exact h j g q7
  · rintro _ h;have hb : decide (((L[i]).Spans.length : Int) < ((L[i]).Spans.length : Int)) = false:=Q4 q7;refine ⟨.inl (),by simp only [q62,Qu hi,qn,hb,qz],?_⟩;rw [Q3];rintro ⟨t,m,a⟩;obtain ⟨j,g,rfl⟩:=List.mem_iff_getElem.1 m;exact h j g g a
theorem qcf {L : List Kk} {i : Nat} (hi : i < L.length) : (L[i].At,L[i].Spans)∈asc L:=List.mem_map.2 ⟨_,Ke hi,rfl⟩
theorem qe0 {L : List Kk} (h : Rep (asc L) F) (k x : Int) : q60 L k x = some (decide (F k x)):=by
  have r : L.length≤400:=by have:=h.cnt;simpa [asc] using this
  have:=Ku (f:=q61 L k x) (σ:=Unit) (fun j _=>(j : Int)) L.length (fun j _=>∀ i (hi : i < L.length),i < j→L[i].At = k→¬ F k x) (fun c=>c = if F k x then .inr true else .inl ()) ?_ ?_ (k0:=0) (c0:=()) q7 (fun j h u=>q7)
  · obtain ⟨b,n,rfl⟩:=this;have n : loop (q61 L k x) 0 = some (if F k x then .inr true else .inl ()):=n;unfold q60;rw [n];by_cases d : F k x
    · simp [d]
    · simp [d]
  · rintro j _ g o;have hb : decide ((j : Int) < (L.length : Int)) = true:=Q2 q7;by_cases e : L[j].At = k
    · have q : (L[j].At != k) = false:=by simp [e]
      have hs:=h.pts _ _ (qcf g) x;rw [e] at hs;simp only [q61,hb,Q1,Qu g,qn,q,qz,qzj g x (h.len _ _ (qcf g))];by_cases d : F k x
      · refine .inr ⟨.inr true,?_,by rw [Q0 d]⟩;rw [Q0 (hs.2 d)];rfl
      · refine .inl ⟨(),?_,fun i hi p m=>?_⟩
        · rw [Q3 (fun n=>d (hs.1 n)),Qb q7];rfl
        · exact d
    · have q : (L[j].At != k) = true:=by simp [e]
      refine .inl ⟨(),?_,fun i hi p m=>?_⟩
      · simp only [q61,hb,Q1,Qu g,qn,q];rw [Qb q7];rfl
      · by_cases O : i = j
        · subst O;exact absurd m e
        · exact o i hi q7 m
  · rintro _ o;have hb : decide ((L.length : Int) < (L.length : Int)) = false:=Q4 q7;refine ⟨.inl (),by simp only [q61,hb,qz],?_⟩;rw [Q3];intro d;obtain ⟨⟨a,v⟩,t,rfl⟩:=List.mem_map.1 (h.all _ _ d);obtain ⟨l,s,m⟩:=List.mem_map.1 t;obtain ⟨i,hi,rfl⟩:=List.mem_iff_getElem.1 s;cases m;exact o i hi hi rfl d
theorem qnn {L M : List Kk} (b : Rep (asc L) F) (a : Rep (asc M) G) {p : qa} (hp : PtB p) : qdu L M p = some (arB F G p.X p.Y):=by
  obtain ⟨d,f,g,c⟩:=hp;unfold qdu arB;rw [Qb q7,Qb q7,qe0 b,qe0 a,qe0 b,qe0 a];rfl
theorem qu5 {L M : List Kk} (f : Rep (asc L) F) (g : Rep (asc M) G) {p : qa} (hp : PtB p) : q4f L M p = some (decide (Kv F G p.X p.Y)):=by
  unfold q4f;rw [qnn f g hp];simp only [qn,arB]
  have e : decide (Kv F G p.X p.Y) = q38 (decide (F p.Y p.X)) (decide (G p.X p.Y)) (decide (F p.Y (p.X - 1))) (decide (G p.X (p.Y - 1))):=by
    unfold Kv;cases q38 (decide (F p.Y p.X)) (decide (G p.X p.Y)) (decide (F p.Y (p.X - 1))) (decide (G p.X (p.Y - 1))) <;> simp
  rw [e];generalize decide (F p.Y p.X) = a;generalize decide (G p.X p.Y) = b;generalize decide (F p.Y (p.X - 1)) = c;generalize decide (G p.X (p.Y - 1)) = d;revert a b c d;decide
theorem qf1 {s : List qh} (b : Can s) (x : Int) : (∃ t∈s,t.Lo = x)↔has s x∧¬ has s (x - 1):=by
  constructor
  · rintro ⟨t,a,rfl⟩;have:=b.1 t a;refine ⟨⟨t,a,q7,q7⟩,?_⟩;rintro ⟨u,g,f,d⟩;obtain ⟨i,hi,rfl⟩:=List.mem_iff_getElem.1 a;obtain ⟨j,c,rfl⟩:=List.mem_iff_getElem.1 g;rcases Nat.lt_trichotomy i j with h | h | h
    · have:=List.pairwise_iff_getElem.1 b.2 i j hi c h;omega
    · subst h;omega
    · have:=List.pairwise_iff_getElem.1 b.2 j i c hi h;omega
  · rintro ⟨⟨t,a,f,d⟩,k⟩;refine ⟨t,a,?_⟩;by_cases e : t.Lo = x
    · exact e
    · exact absurd ⟨t,a,q7,q7⟩ k
theorem qiu {s : List qh} (b : Can s) (x : Int) : (∃ t∈s,t.Hi = x)↔¬ has s x∧has s (x - 1):=by
  constructor
  · rintro ⟨t,a,rfl⟩;have:=b.1 t a;refine ⟨?_,⟨t,a,q7,q7⟩⟩;rintro ⟨u,g,f,d⟩;obtain ⟨i,hi,rfl⟩:=List.mem_iff_getElem.1 a;obtain ⟨j,c,rfl⟩:=List.mem_iff_getElem.1 g;rcases Nat.lt_trichotomy i j with h | h | h
    · have:=List.pairwise_iff_getElem.1 b.2 i j hi c h;omega
    · subst h;omega
    · have:=List.pairwise_iff_getElem.1 b.2 j i c hi h;omega
  · rintro ⟨k,⟨t,a,f,d⟩⟩;refine ⟨t,a,?_⟩;by_cases e : t.Hi = x
    · exact e
    · exact absurd ⟨t,a,q7,q7⟩ k
end
end Go.Sh
namespace Go.Sh
open Go Go.Am
theorem qyn : qbu = q44:=rfl
theorem qxo : q2d = q30:=by
  funext p0;simp only [q2d,q30,qyn]
  all_goals exact Qm
theorem qn6 : U8 = q1a:=by
  funext p0;simp only [U8,q1a,qxo]
  all_goals exact Qm
theorem qy0 : Uv = q28:=by
  funext p0;simp only [Uv,q28,qn6]
  all_goals exact Qm
theorem qyo : Uw = q2b:=by
  funext p0;simp only [Uw,q2b]
  all_goals exact Qm
theorem qxy : qa6 = U1:=by
  funext p1 q1 a459;simp only [qa6,U1]
  all_goals exact Qm
theorem qxx : qa5 = q1e:=by
  funext p2 p1 q1 a278;simp only [qa5,q1e,qxy]
  all_goals exact Qm
theorem qxw : qa4 = q27:=by
  funext q1 p0 p1 p2;simp only [qa4,q27,qxx]
  all_goals exact Qm
theorem qym : qbk = U5:=by
  funext p2 p3 q1 a197;simp only [qbk,U5]
  all_goals exact Qm
theorem qn8 : q73 = Ur:=by
  funext q1 p0 p1 p2 p3;simp only [q73,Ur,qym]
  all_goals exact Qm
theorem qxu : q9w = q1c:=by
  funext q1 p2 p1 a123;simp only [q9w,q1c,qn8]
  all_goals exact Qm
theorem qxv : q9x = q1d:=by
  funext p1 q1 a191;simp only [q9x,q1d,qn8]
  all_goals exact Qm
theorem qxt : q9v = q26:=by
  funext q1 p0 p1 p2;simp only [q9v,q26,qxu,qxv]
  all_goals exact Qm
theorem qy1 : q4m = Um:=by
  funext q1 p0 p1 p2 p3;simp only [q4m,Um]
  all_goals exact Qm
theorem qn7 : q6l = Ul:=by
  funext q1 p0 p1 p2 p3 p4;simp only [q6l,Ul,qy1]
  all_goals exact Qm
theorem qxz : q4j = U2:=by
  funext q1 p0 p1 p2;simp only [q4j,U2,qn7]
  all_goals exact Qm
theorem qxs : q9q = q25:=by
  funext p0 p1 p2 p3;simp only [q9q,q25,qn7,qxz]
  all_goals exact Qm
theorem qyl : qbg = q1k:=by
  funext a119;simp only [qbg,q1k]
  all_goals exact Qm
theorem qyk : qbf = q1j:=by
  funext q1 p0 p1 p2;simp only [qbf,q1j,qyl]
  all_goals exact Qm
theorem qy4 : qad = Un:=by
  funext p2 a438 q1 a681;simp only [qad,Un]
  all_goals exact Qm
theorem qy5 : qae = U3:=by
  funext q1 a838;simp only [qae,U3]
  all_goals exact Qm
theorem qy6 : qaf = Uo:=by
  funext p2 q1 b684 a928;simp only [qaf,Uo]
  all_goals exact Qm
theorem qy3 : q6q = Zv:=by
  funext p2 q1 p1 a438;have a : @q6q.match_1.{1} = @Zv.match_1.{1} qa:=by funext motive m f g;cases m <;> rfl
  unfold q6q Zv;rw [a];simp only [qy4,qy5,qy6]
theorem qy2 : q6p = Jn:=by
  funext q1 p0 p1 p2;have a : @q6p.match_1.{1} = @Jn.match_1.{1} qa:=by funext motive m f g;cases m <;> rfl
  unfold q6p Jn;rw [a];simp only [qy3]
theorem qya : qb7 = Up:=by
  funext a318 p1 q1 a378;simp only [qb7,Up]
  all_goals exact Qm
theorem qyb : qb8 = Uq:=by
  funext b381 a318 p1 q1 a463;simp only [qb8,Uq]
  all_goals exact Qm
theorem qy9 : qb6 = q1h:=by
  funext p1 q1 a318;simp only [qb6,q1h,qya,qyb]
  all_goals exact Qm
theorem qy8 : qb5 = q1g:=by
  funext q1 p0 p1 p2 p3;simp only [qb5,q1g,qy9]
  all_goals exact Qm
theorem qyc : qaq = q29:=by
  funext p2 p0 p1 v101 p3 v103 q1 a163;simp only [qaq,q29]
  all_goals exact Qm
theorem qyd : qar = q2a:=by
  funext b166 p0 p1 v101 p3 v103 q1 a249;simp only [qar,q2a]
  all_goals exact Qm
theorem qyf : qat = Jc:=by
  funext a514 p1 q1 a572;simp only [qat,Jc]
  all_goals exact Qm
theorem qyg : qau = Jd:=by
  funext b575 a514 p1 q1 a658;simp only [qau,Jd]
  all_goals exact Qm
theorem qye : qas = q1i:=by
  funext p1 q1 a514;simp only [qas,q1i,qyf,qyg]
  all_goals exact Qm
theorem qy7 : qap = q1f:=by
  funext q1 p0 p1 p2 p3;simp only [qap,q1f,qyc,qyd,qye]
  all_goals exact Qm
theorem qxr : q9m = Uk:=by
  funext p1 p2 r101 a153;simp only [q9m,Uk,qyo]
  all_goals exact Qm
theorem qxq : q9l = q1b:=by
  funext q1 p0 p1 p2;simp only [q9l,q1b,qy0,qxr]
  all_goals exact Qm
theorem qyi : q6x = Zk:=by
  funext q1 rec a412;have a : @q6x.match_1.{1} = @Zk.match_1.{1} qa:=by funext motive m f g;cases m <;> rfl
  unfold q6x Zk;rw [a];simp only [qxw,qxt,qxs,qyk,qy2,qy8,qy7,qxq]
theorem qyj : q6y = U4:=by
  funext rec q1 p0 p1 p2 p3;simp only [q6y,U4,qyi]
  all_goals exact Qm
theorem qyh : ∀ N q,q6w N q = Ze N q:=by
  intro N q
  induction N with
  | zero=>rfl
  | succ N ih=>
    funext a b c d;show q6y (q6w N q) q a b c d = U4 (Ze N q) q a b c d;rw [ih,qyj]
theorem qxp : q6i = q24:=by
  funext q1 p0;simp only [q6i,q24,qn6,qyh]
  all_goals exact Qm
end Go.Sh
namespace Go.Sh
open Go Go.Am
theorem qss : qbu = q44:=rfl
theorem qrt : q2d = q30:=by
  funext p0;simp only [q2d,q30,qss]
  all_goals exact Qm
theorem qjr : U8 = q1a:=by
  funext p0;simp only [U8,q1a,qrt]
  all_goals exact Qm
theorem qs5 : Uv = q28:=by
  funext p0;simp only [Uv,q28,qjr]
  all_goals exact Qm
theorem qst : Uw = q2b:=by
  funext p0;simp only [Uw,q2b]
  all_goals exact Qm
theorem qs3 : qa3 = U1:=by
  funext p1 q1 a459;simp only [qa3,U1]
  all_goals exact Qm
theorem qs2 : qa2 = q1e:=by
  funext p2 p1 q1 a278;simp only [qa2,q1e,qs3]
  all_goals exact Qm
theorem qs1 : qa1 = q27:=by
  funext q1 p0 p1 p2;simp only [qa1,q27,qs2]
  all_goals exact Qm
theorem qsr : qbj = U5:=by
  funext p2 p3 q1 a197;simp only [qbj,U5]
  all_goals exact Qm
theorem qjt : q72 = Ur:=by
  funext q1 p0 p1 p2 p3;simp only [q72,Ur,qsr]
  all_goals exact Qm
theorem qrz : q9t = q1c:=by
  funext q1 p2 p1 a123;simp only [q9t,q1c,qjt]
  all_goals exact Qm
theorem qs0 : q9u = q1d:=by
  funext p1 q1 a191;simp only [q9u,q1d,qjt]
  all_goals exact Qm
theorem qry : q9s = q26:=by
  funext q1 p0 p1 p2;simp only [q9s,q26,qrz,qs0]
  all_goals exact Qm
theorem qs6 : q4l = Um:=by
  funext q1 p0 p1 p2 p3;simp only [q4l,Um]
  all_goals exact Qm
theorem qjs : q6k = Ul:=by
  funext q1 p0 p1 p2 p3 p4;simp only [q6k,Ul,qs6]
  all_goals exact Qm
theorem qs4 : q4i = U2:=by
  funext q1 p0 p1 p2;simp only [q4i,U2,qjs]
  all_goals exact Qm
theorem qrx : q9p = q25:=by
  funext p0 p1 p2 p3;simp only [q9p,q25,qjs,qs4]
  all_goals exact Qm
theorem qsq : qbe = q1k:=by
  funext a119;simp only [qbe,q1k]
  all_goals exact Qm
theorem qsp : qbd = q1j:=by
  funext q1 p0 p1 p2;simp only [qbd,q1j,qsq]
  all_goals exact Qm
theorem qs9 : qaa = Un:=by
  funext p2 a438 q1 a681;simp only [qaa,Un]
  all_goals exact Qm
theorem qsa : qab = U3:=by
  funext q1 a838;simp only [qab,U3]
  all_goals exact Qm
theorem qsb : qac = Uo:=by
  funext p2 q1 b684 a928;simp only [qac,Uo]
  all_goals exact Qm
theorem qs8 : q6o = Zv:=by
  funext p2 q1 p1 a438;have a : @q6o.match_1.{1} = @Zv.match_1.{1} qj:=by funext motive m f g;cases m <;> rfl
  unfold q6o Zv;rw [a];simp only [qs9,qsa,qsb]
theorem qs7 : q6n = Jn:=by
  funext q1 p0 p1 p2;have a : @q6n.match_1.{1} = @Jn.match_1.{1} qj:=by funext motive m f g;cases m <;> rfl
  unfold q6n Jn;rw [a];simp only [qs8]
theorem qsf : qb3 = Up:=by
  funext a318 p1 q1 a378;simp only [qb3,Up]
  all_goals exact Qm
theorem qsg : qb4 = Uq:=by
  funext b381 a318 p1 q1 a463;simp only [qb4,Uq]
  all_goals exact Qm
theorem qse : qb2 = q1h:=by
  funext p1 q1 a318;simp only [qb2,q1h,qsf,qsg]
  all_goals exact Qm
theorem qsd : qb1 = q1g:=by
  funext q1 p0 p1 p2 p3;simp only [qb1,q1g,qse]
  all_goals exact Qm
theorem qsh : qak = q29:=by
  funext p2 p0 p1 v101 p3 v103 q1 a163;simp only [qak,q29]
  all_goals exact Qm
theorem qsi : qal = q2a:=by
  funext b166 p0 p1 v101 p3 v103 q1 a249;simp only [qal,q2a]
  all_goals exact Qm
theorem qsk : qan = Jc:=by
  funext a514 p1 q1 a572;simp only [qan,Jc]
  all_goals exact Qm
theorem qsl : qao = Jd:=by
  funext b575 a514 p1 q1 a658;simp only [qao,Jd]
  all_goals exact Qm
theorem qsj : qam = q1i:=by
  funext p1 q1 a514;simp only [qam,q1i,qsk,qsl]
  all_goals exact Qm
theorem qsc : qaj = q1f:=by
  funext q1 p0 p1 p2 p3;simp only [qaj,q1f,qsh,qsi,qsj]
  all_goals exact Qm
theorem qrw : q9k = Uk:=by
  funext p1 p2 r101 a153;simp only [q9k,Uk,qst]
  all_goals exact Qm
theorem qrv : q9j = q1b:=by
  funext q1 p0 p1 p2;simp only [q9j,q1b,qs5,qrw]
  all_goals exact Qm
theorem qsn : q6u = Zk:=by
  funext q1 rec a412;have a : @q6u.match_1.{1} = @Zk.match_1.{1} qj:=by funext motive m f g;cases m <;> rfl
  unfold q6u Zk;rw [a];simp only [qs1,qry,qrx,qsp,qs7,qsd,qsc,qrv]
theorem qso : q6v = U4:=by
  funext rec q1 p0 p1 p2 p3;simp only [q6v,U4,qsn]
  all_goals exact Qm
theorem qsm : ∀ N q,q6t N q = Ze N q:=by
  intro N q
  induction N with
  | zero=>rfl
  | succ N ih=>
    funext a b c d;show q6v (q6t N q) q a b c d = U4 (Ze N q) q a b c d;rw [ih,qso]
theorem qru : q4h = q24:=by
  funext q1 p0;simp only [q4h,q24,qjr,qsm]
  all_goals exact Qm
end Go.Sh
namespace Go.Sh
open Go Go.Am
theorem qed {α : Type} {lt : α→α→Prop} (hs : ∀ a b,lt a b→¬ lt b a) : ∀ {s t : List α},s.Pairwise lt→t.Pairwise lt→(∀ x,x∈s↔x∈t)→s = t
  | [],[],_,_,_=>rfl
  | [],b::t,_,_,h=>by have:=(h b).2 qb;cases this
  | a::s,[],_,_,h=>by have:=(h a).1 qb;cases this
  | a::s,b::t,h1,h2,h=>by
    rw [List.pairwise_cons] at h1 h2
    have e : a = b:=by
      rcases List.mem_cons.1 ((h a).1 qb) with e | e
      · exact e
      · rcases List.mem_cons.1 ((h b).2 qb) with d | d
        · exact d.symm
        · exact absurd (h1.1 b d) (hs _ _ (h2.1 a e))
    subst e
    congr 1
    refine qed hs h1.2 h2.2 fun x=>⟨fun c=>?_,fun c=>?_⟩
    · rcases List.mem_cons.1 ((h x).1 (by simp [c])) with rfl | e
      · exact absurd (h1.1 x c) (hs _ _ (h1.1 x c))
      · exact e
    · rcases List.mem_cons.1 ((h x).2 (by simp [c])) with rfl | e
      · exact absurd (h2.1 x c) (hs _ _ (h2.1 x c))
      · exact e
def ltP (a b : qa) : Prop:=a.X < b.X∨(a.X = b.X∧a.Y < b.Y)
instance (a b : qa) : Decidable (ltP a b):=by unfold ltP;exact inferInstance
theorem q37 (a b : qa) : ltP a b→¬ ltP b a:=by unfold ltP;omega
theorem qga {a b : qa} (h : ¬ ltP a b) (d : a≠b) : ltP b a:=by
  obtain ⟨f,j⟩:=a;obtain ⟨bx,c⟩:=b;have : ¬ (f = bx∧j = c):=fun ⟨g,h3⟩=>d (by rw [g,h3]);unfold ltP at *;simp only at *;omega
theorem swoP : Sort.SWO (fun a b=>decide (ltP a b)) where
  irrefl:=by intro x;simp only [decide_eq_false_iff_not,ltP];omega
  trans:=by
    intro x y z d c;have d:=of_decide_eq_true d;have c:=of_decide_eq_true c;exact Q2 (by unfold ltP at *;omega)
  ntrans:=by
    intro x y z d c;have d:=of_decide_eq_false d;have c:=of_decide_eq_false c;exact Q4 (by unfold ltP at *;omega)
instance : Inhabited qa:=⟨⟨0,0⟩⟩
instance : Inhabited qj:=⟨⟨0,0⟩⟩
theorem qjh {x y : qa} (c : PtB x) (b : PtB y) : ∃ n : Int,q1v x y = some n∧decide (n < 0) = decide (ltP x y):=by
  obtain ⟨f,g,j,d⟩:=c;obtain ⟨b1,b2,k,h⟩:=b;unfold q1v ltP;by_cases e : x.X = y.X
  · have a : (x.X != y.X) = false:=by simp [e]
    rw [a,qz,Qb q7];exact ⟨_,rfl,decide_eq_decide.2 q7⟩
  · have a : (x.X != y.X) = true:=by simp [e]
    rw [a,Q1,Qb q7];exact ⟨_,rfl,decide_eq_decide.2 q7⟩
theorem q12j (xs : List qa) (l : xs.length≤1000000) (hb : ∀ p∈xs,PtB p) (q : xs.Nodup) : ∃ ys,q6i (fun c f=>q1v c f) xs = some ys∧ys.Perm xs∧ys.Pairwise ltP:=by
  have cmp : Y5 (fun c f=>q1v c f) (fun a b=>decide (ltP a b)) PtB:=by
    intro x y o m;exact qjh o m
  obtain ⟨ys,j,g,n⟩:=qht cmp swoP xs l hb;refine ⟨ys,by rw [qxp];exact j,g,?_⟩;have d:=(g.nodup_iff).2 q;refine (n.and d).imp ?_;rintro a b ⟨h,k⟩;exact qga (of_decide_eq_false h) (fun e=>k e.symm)
def eP2 (e : qj) : qa:={X:=e.A,Y:=e.B}
def ltG (a b : qj) : Prop:=ltP (eP2 a) (eP2 b)
theorem qlm (a b : qj) : ltG a b→¬ ltG b a:=q37 _ _
theorem q12i (xs : List qj) (k : xs.length≤1000000) (hb : ∀ p∈xs,PtB (eP2 p)) (q : xs.Nodup) : ∃ ys,q4h (fun f j=>q2p f j) xs = some ys∧ys.Perm xs∧ys.Pairwise ltG:=by
  have cmp : Y5 (fun f j=>q2p f j) (fun a b=>decide (ltP (eP2 a) (eP2 b))) (fun e=>PtB (eP2 e)):=by
    intro x y o l;obtain ⟨n,c,d⟩:=qjh o l;refine ⟨n,?_,d⟩;show q2p x y = _;unfold q2p;have c : q1v {X:=x.A,Y:=x.B} {X:=y.A,Y:=y.B} = some n:=c;rw [c];rfl
  have h : Sort.SWO (fun a b : qj=>decide (ltP (eP2 a) (eP2 b))):=⟨fun x=>swoP.irrefl (eP2 x),fun x y z=>swoP.trans (eP2 x) (eP2 y) (eP2 z),fun x y z=>swoP.ntrans (eP2 x) (eP2 y) (eP2 z)⟩
  obtain ⟨ys,c,d,m⟩:=qht cmp h xs k hb;refine ⟨ys,by rw [qru];exact c,d,?_⟩;have g:=(d.nodup_iff).2 q;refine (m.and g).imp ?_;rintro ⟨t,u⟩ ⟨b1,b2⟩ ⟨r,s⟩;refine qga (of_decide_eq_false r) (fun e=>s ?_);simp only [eP2,qa.mk.injEq] at e;rw [e.1,e.2]
structure KS (a : List (qa × Bool)) (S : qa→Prop) : Prop where
  nd : (a.map (·.1)).Nodup
  val : ∀ e∈a,e.2 = true
  mem : ∀ p,p∈a.map (·.1)↔S p
theorem KS.nil : KS [] (fun _=>False):=⟨.nil,fun e h=>(by cases h),fun p=>qb⟩
theorem KS.put {a : List (qa × Bool)} {S : qa→Prop} (h : KS a S) (p : qa) : KS (Ka p true a) (fun q=>S q∨q = p):=by
  refine ⟨qgm h.nd,?_,fun q=>?_⟩
  · rintro ⟨q,b⟩ c;rcases (qgd h.nd q b).1 c with ⟨_,rfl⟩ | ⟨_,c⟩
    · rfl
    · exact h.val _ c
  · rw [q8g,h.mem];exact or_comm
theorem KS.congr {a : List (qa × Bool)} {S T : qa→Prop} (h : KS a S) (e : ∀ p,S p↔T p) : KS a T:=⟨h.nd,h.val,fun p=>(h.mem p).trans (e p)⟩
theorem KS.perm {a b : List (qa × Bool)} {S : qa→Prop} (h : KS a S) (c : KS b S) : a.Perm b:=by
  have o : a.Nodup:=(List.pairwise_map.1 h.nd).imp fun h e=>h (by rw [e]);have n : b.Nodup:=(List.pairwise_map.1 c.nd).imp fun h e=>h (by rw [e]);rw [List.perm_ext_iff_of_nodup o n];rintro ⟨p,v⟩
  have key : ∀ {x y : List (qa × Bool)},KS x S→KS y S→(p,v)∈x→(p,v)∈y:=by
    intro x y k j l;have m:=k.val _ l;obtain ⟨⟨q,w⟩,d,e⟩:=List.mem_map.1 ((j.mem p).2 ((k.mem p).1 (List.mem_map_of_mem (f:=(·.1)) l)));have g:=j.val _ d;simp only at m g e;rw [m];rw [← g,← e];exact d
  exact ⟨key h c,key c h⟩
theorem KS.le {a b : List (qa × Bool)} {S T : qa→Prop} (h : KS a S) (d : KS b T) (c : ∀ p,S p→T p) : a.length≤b.length:=by
  have:=List.Nodup.length_le_of_subset h.nd (l₂:=b.map (·.1)) fun p hp=>(d.mem p).2 (c p ((h.mem p).1 hp));simpa using this
theorem q5g {α ε ρ : Type} {R : α→ε→Option (α ⊕ ρ)} {a a' : α} {e : ε} {l : List ε} (h : R a e = some (.inl a')) : Ko R (e::l) a = Ko R l a':=by simp only [Ko,h]
theorem quq {α ε ρ : Type} {R : α→ε→Option (α ⊕ ρ)} {a : α} {x : ρ} {e : ε} {l : List ε} (h : R a e = some (.inr x)) : Ko R (e::l) a = some (.inr x):=by simp only [Ko,h]
end Go.Sh
namespace Go.Sh
open Go Go.Am
open Classical
theorem qgy {α ε ρ : Type} {E : α→α→Prop} {R : α→ε→Option (α ⊕ ρ)} {es : List ε} {a : α} (h : ∀ l : List ε,l.Perm es→∃ m b,Ko R es a = some m∧Ko R l a = some b∧MEq E b m) : Uu E R es a = some ():=by
  unfold Uu;rw [Q0 h]
theorem q119 {ε β : Type} {F : List ε→Option β} {es : List ε} (h : ∀ l : List ε,l.Perm es→F l = F es) : q4g F es = some ():=by
  unfold q4g;rw [Q0 h]
section
variable {F G : Int→Int→Prop} {r : Y8}
def Ju (F G : Int→Int→Prop) (y : Int) (t : qh) (p : qa) : Prop:=p.Y = y∧(((p.X = t.Lo∨p.X = t.Hi)∧Kv F G p.X p.Y)∨(t.Lo < p.X∧p.X < t.Hi∧(G p.X y∨G p.X (y - 1))))
def q7r (F G : Int→Int→Prop) (x : Int) (t : qh) (p : qa) : Prop:=p.X = x∧(p.Y = t.Lo∨p.Y = t.Hi)∧Kv F G p.X p.Y
theorem qpn (j : Rep r.columns_ G) {t : qh} {y : Int} {w : List qh} (m : -1000000≤y∧y≤1000000) {c : Int × List qh} (k : c∈r.columns_) (a : List (qa × Bool)) :
    q3n t (y,w) a c = some (.inl (if t.Lo < c.1∧c.1 < t.Hi∧(G c.1 y∨G c.1 (y - 1)) then Ka ({X:=c.1,Y:=y} : qa) true a else a)):=by
  obtain ⟨x,h⟩:=c;have l:=j.len x h k;have hp:=j.pts x h k;unfold q3n;simp only;by_cases b : t.Lo < x
  · rw [Q2 (show x > t.Lo from b),Q1,qn];by_cases d : x < t.Hi
    · rw [Q2 d,Q1,q5a _ _ q7,qn,Qb q7,q5a _ _ q7];rw [decide_eq_decide.2 (hp y),decide_eq_decide.2 (hp (y - 1))];by_cases g : G x y
      · rw [Q2 g];simp [b,d,g]
      · rw [Q4 g];by_cases f : G x (y - 1)
        · rw [Q2 f];simp [b,d,f]
        · rw [Q4 f];simp [b,d,g,f]
    · rw [Q4 d];simp [d]
  · rw [Q4 (show ¬ x > t.Lo from b)];simp [b]
theorem q7k (f : Rep r.columns_ G) {t : qh} {y : Int} {w : List qh} (g : -1000000≤y∧y≤1000000) : ∀ (l : List (Int × List qh)),(∀ c∈l,c∈r.columns_)→∀ {a : List (qa × Bool)} {S : qa→Prop},KS a S→
    ∃ a',Ko (q3n t (y,w)) l a = some (.inl a')∧KS a' (fun p=>S p∨∃ c∈l,p = {X:=c.1,Y:=y}∧t.Lo < c.1∧c.1 < t.Hi∧(G c.1 y∨G c.1 (y - 1)))
  | [],_,a,S,h=>⟨a,rfl,h.congr fun p=>qb⟩
  | c::l,hl,a,S,h=>by
    have hs:=qpn f (t:=t) (w:=w) g (hl c qb) a
    by_cases b : t.Lo < c.1∧c.1 < t.Hi∧(G c.1 y∨G c.1 (y - 1))
    · rw [Q0 b] at hs
      obtain ⟨a',e1,j⟩:=q7k f g l (fun d hd=>hl d (by simp [hd])) (h.put {X:=c.1,Y:=y})
      refine ⟨a',by rw [q5g hs];exact e1,j.congr fun p=>?_⟩
      constructor
      · rintro ((h | h) | ⟨d,hd,h⟩)
        · exact .inl h
        · exact .inr ⟨c,qb,h,b⟩
        · exact .inr ⟨d,by simp [hd],h⟩
      · rintro (h | ⟨d,hd,h⟩)
        · exact .inl (.inl h)
        · rcases List.mem_cons.1 hd with rfl | hd
          · exact .inl (.inr h.1)
          · exact .inr ⟨d,hd,h⟩
    · rw [Q3 b] at hs
      obtain ⟨a',e1,j⟩:=q7k f g l (fun d hd=>hl d (by simp [hd])) h
      refine ⟨a',by rw [q5g hs];exact e1,j.congr fun p=>?_⟩
      constructor
      · rintro (h | ⟨d,hd,h⟩)
        · exact .inl h
        · exact .inr ⟨d,by simp [hd],h⟩
      · rintro (h | ⟨d,hd,h⟩)
        · exact .inl h
        · rcases List.mem_cons.1 hd with rfl | hd
          · exact absurd h.2 b
          · exact .inr ⟨d,hd,h⟩
theorem qpo (f : Rep r.columns_ G) {t : qh} {y : Int} {w : List qh} (g : -1000000≤y∧y≤1000000) {a : List (qa × Bool)} {S : qa→Prop} (h : KS a S) : Uu (fun (x y : List (qa × Bool))=>List.Perm x y) (q3n t (y,w)) r.columns_ a = some ():=by
  refine qgy fun l d=>?_;obtain ⟨n,e1,j⟩:=q7k f (t:=t) (w:=w) g r.columns_ (fun c b=>b) h;obtain ⟨o,k,m⟩:=q7k f (t:=t) (w:=w) g l (fun c b=>(d.mem_iff).1 b) h;refine ⟨_,_,e1,k,?_⟩;show o.Perm n;refine KS.perm (m.congr fun p=>?_) j;simp only [d.mem_iff]
theorem qdp (d : Rep r.rows_ F) (c : Rep r.columns_ G) {p : qa} (hp : PtB p) {a : List (qa × Bool)} {S : qa→Prop} (h : KS a S) :
    ∃ a',q3l p r.rows_ r.columns_ a = some a'∧KS a' (fun q=>S q∨(q = p∧Kv F G p.X p.Y))∧a'.length≤a.length + 1:=by
  unfold q3l;rw [qvn (r:={rows_:=r.rows_,columns_:=r.columns_}) d c (p:={X:=p.X,Y:=p.Y}) hp,qn];by_cases b : Kv F G p.X p.Y
  · rw [Q2 b];exact ⟨_,rfl,(h.put p).congr fun q=>by simp [b],qm5⟩
  · rw [Q4 b];exact ⟨_,rfl,h.congr fun q=>by simp [b],q7⟩
theorem q12v (m : Rep r.rows_ F) (j : Rep r.columns_ G) {y : Int} {v : List qh} (u : (y,v)∈r.rows_) {k : Nat} (hk : k < v.length) {a : List (qa × Bool)} {S : qa→Prop} (h : KS a S) :
    ∃ a',KS a' (fun p=>S p∨Ju F G y v[k] p)∧q3m (y,v) r ((k : Int),a) = if 400 < a'.length then some (.inr (.inr ([],false))) else some (.inl (((k + 1 : Nat) : Int),a')):=by
  have g:=m.key y (List.mem_map_of_mem (f:=(·.1)) u);have hv:=(m.good y v u).1 _ (Ke hk);have hl:=m.len y v u;obtain ⟨v1,v2,v3⟩:=hv;have hb : decide ((k : Int) < (v.length : Int)) = true:=Q2 q7;obtain ⟨a1,e1,k1,_⟩:=qdp m j (p:={X:=(v[k]).Lo,Y:=y}) ⟨by simp only;omega,by simp only;omega,g.1,g.2⟩ h;obtain ⟨a2,e2,z,_⟩:=qdp m j (p:={X:=(v[k]).Hi,Y:=y}) ⟨by simp only;omega,by simp only;omega,g.1,g.2⟩ k1;obtain ⟨n,e3,k3⟩:=q7k j (t:=v[k]) (w:=v) g r.columns_ (fun c o=>o) z;have e4:=qpo j (t:=v[k]) (w:=v) g z;refine ⟨n,k3.congr fun p=>?_,?_⟩
  · unfold Ju;constructor
    · rintro (((h | ⟨rfl,h⟩) | ⟨rfl,h⟩) | ⟨c,o,rfl,s,q,d⟩)
      · exact .inl h
      · exact .inr ⟨rfl,.inl ⟨.inl rfl,h⟩⟩
      · exact .inr ⟨rfl,.inl ⟨.inr rfl,h⟩⟩
      · exact .inr ⟨rfl,.inr ⟨s,q,d⟩⟩
    · rintro (h | ⟨rfl,⟨h | h,x⟩ | ⟨s,q,d⟩⟩)
      · exact .inl (.inl (.inl h))
      · have : p = {X:=(v[k]).Lo,Y:=p.Y}:=by rw [← h]
        exact .inl (.inl (.inr ⟨this,by rw [← h];exact x⟩))
      · have : p = {X:=(v[k]).Hi,Y:=p.Y}:=by rw [← h]
        exact .inl (.inr ⟨this,by rw [← h];exact x⟩)
      · have l : p.X∈r.columns_.map (·.1):=by rcases d with d | d <;> exact j.all _ _ d
        obtain ⟨c,o,he⟩:=List.mem_map.1 l;refine .inr ⟨c,o,?_,?_⟩
        · rw [he]
        · rw [he];exact ⟨s,q,d⟩
  · simp only [q3m,hb,Q1,Qu hk,qn,e1,e2,e4,e3];by_cases b : 400 < n.length
    · rw [Q0 b,Q2 (show (n.length : Int) > 400 by omega),Q1]
    · rw [Q3 b,Q4 (show ¬ (n.length : Int) > 400 by omega),qz,Qb q7];rfl
theorem qzy (x : Rep r.rows_ F) (s : Rep r.columns_ G) {y : Int} {v : List qh} (u : (y,v)∈r.rows_) {a : List (qa × Bool)} {S : qa→Prop} (h : KS a S) (w : a.length≤400) :
    (∃ a',q10 r a (y,v) = some (.inl a')∧KS a' (fun p=>S p∨∃ t∈v,Ju F G y t p)∧a'.length≤400)∨
    (q10 r a (y,v) = some (.inr ([],false))∧∃ b T,KS b T∧400 < b.length∧∀ p,T p→S p∨∃ t∈v,Ju F G y t p):=by
  have q : ∀ k (hk : k < v.length) p,(∃ t∈v.take (k + 1),Ju F G y t p)↔(∃ t∈v.take k,Ju F G y t p)∨Ju F G y v[k] p:=by
    intro k hk p;rw [List.take_succ_eq_append_getElem hk];constructor
    · rintro ⟨t,g,h⟩;rcases List.mem_append.1 g with g | g
      · exact .inl ⟨t,g,h⟩
      · rw [List.mem_singleton] at g;subst g;exact .inr h
    · rintro (⟨t,g,h⟩ | h)
      · exact ⟨t,List.mem_append_left _ g,h⟩
      · exact ⟨v[k],List.mem_append_right _ (List.mem_singleton.2 rfl),h⟩
  have:=Ku (f:=q3m (y,v) r) (σ:=List (qa × Bool)) (fun k c=>((k : Int),c)) v.length (fun k c=>KS c (fun p=>S p∨∃ t∈v.take k,Ju F G y t p)∧c.length≤400)
    (fun o=>(∃ a',o = .inl a'∧KS a' (fun p=>S p∨∃ t∈v,Ju F G y t p)∧a'.length≤400)∨(o = .inr ([],false)∧∃ b T,KS b T∧400 < b.length∧∀ p,T p→S p∨∃ t∈v,Ju F G y t p)) ?_ ?_ (k0:=0) (c0:=a) q7 ⟨h.congr fun p=>qb,w⟩
  · obtain ⟨o,e1,z⟩:=this;have e1 : loop (q3m (y,v) r) (0,a) = some o:=e1;rcases z with ⟨a',rfl,j,l⟩ | ⟨rfl,j⟩
    · exact .inl ⟨a',by unfold q10;rw [e1];rfl,j,l⟩
    · exact .inr ⟨by unfold q10;rw [e1];rfl,j⟩
  · rintro k c hk ⟨m,n⟩;obtain ⟨a',j,e1⟩:=q12v x s u hk m;have l : KS a' (fun p=>S p∨∃ t∈v.take (k + 1),Ju F G y t p):=j.congr fun p=>by rw [q k hk,or_assoc]
    by_cases d : 400 < a'.length
    · rw [Q0 d] at e1;refine .inr ⟨_,e1,.inr ⟨rfl,a',_,l,d,?_⟩⟩;rintro p (hp | ⟨t,g,hp⟩)
      · exact .inl hp
      · exact .inr ⟨t,List.mem_of_mem_take g,hp⟩
    · rw [Q3 d] at e1;exact .inl ⟨a',e1,l,q7⟩
  · rintro c ⟨m,n⟩;have hb : decide ((v.length : Int) < (v.length : Int)) = false:=Q4 q7;refine ⟨.inl c,by simp only [q3m,hb,qz],.inl ⟨c,rfl,?_,n⟩⟩
    rwa [List.take_length] at m
def q1q (F G : Int→Int→Prop) (l : List (Int × List qh)) (p : qa) : Prop:=∃ e∈l,∃ t∈e.2,Ju F G e.1 t p
theorem qe1 (n : Rep r.rows_ F) (m : Rep r.columns_ G) : ∀ (l : List (Int × List qh)),(∀ e∈l,e∈r.rows_)→∀ {a : List (qa × Bool)} {S : qa→Prop},KS a S→a.length≤400→
    (∃ a',Ko (q10 r) l a = some (.inl a')∧KS a' (fun p=>S p∨q1q F G l p)∧a'.length≤400)∨
    (Ko (q10 r) l a = some (.inr ([],false))∧∃ b T,KS b T∧400 < b.length∧∀ p,T p→S p∨q1q F G l p)
  | [],_,a,S,h,ha=>.inl ⟨a,rfl,h.congr fun p=>by simp [q1q],ha⟩
  | (y,v)::l,hl,a,S,h,ha=>by
    have d : ∀ p,q1q F G ((y,v)::l) p↔(∃ t∈v,Ju F G y t p)∨q1q F G l p:=by
      intro p;simp [q1q]
    rcases qzy n m (hl (y,v) qb) h ha with ⟨a',e1,c,g⟩ | ⟨e1,b,T,c,g,q⟩
    · rcases qe1 n m l (fun e s=>hl e (by simp [s])) c g with ⟨u,k,f,j⟩ | ⟨k,b,T,f,j,o⟩
      · exact .inl ⟨u,by rw [q5g e1];exact k,f.congr fun p=>by rw [d,or_assoc],j⟩
      · refine .inr ⟨by rw [q5g e1];exact k,b,T,f,j,fun p hp=>?_⟩
        rw [d,← or_assoc];exact o p hp
    · refine .inr ⟨quq e1,b,T,c,g,fun p hp=>?_⟩
      rw [d,← or_assoc];exact .inl (q p hp)
theorem q100 (o : Rep r.rows_ F) (k : Rep r.columns_ G) : Uu (fun (x y : List (qa × Bool))=>List.Perm x y) (q10 r) r.rows_ [] = some ():=by
  refine qgy fun l j=>?_;have f : ∀ p,q1q F G l p↔q1q F G r.rows_ p:=by intro p;simp only [q1q,j.mem_iff]
  have A:=qe1 o k r.rows_ (fun e g=>g) KS.nil qb;have B:=qe1 o k l (fun e g=>(j.mem_iff).1 g) KS.nil qb;rcases A with ⟨t,e1,d,u⟩ | ⟨e1,b,T,d,u,s⟩
  · rcases B with ⟨m,c,a,n⟩ | ⟨c,b,T,a,n,q⟩
    · refine ⟨_,_,e1,c,?_⟩;show m.Perm t;exact KS.perm (a.congr fun p=>by rw [f]) d
    · have:=a.le d (fun p hp=>by rcases q p hp with h | h;exact .inl h;exact .inr ((f p).1 h));omega
  · rcases B with ⟨m,c,a,n⟩ | ⟨c,_⟩
    · have:=d.le a (fun p hp=>by rcases s p hp with h | h;exact .inl h;exact .inr ((f p).2 h));omega
    · exact ⟨_,_,e1,c,rfl⟩
end
end Go.Sh
namespace Go.Sh
open Go Go.Am
open Classical
section
variable {F G : Int→Int→Prop} {r : Y8}
def q7t (F G : Int→Int→Prop) (l : List (Int × List qh)) (p : qa) : Prop:=∃ e∈l,∃ t∈e.2,q7r F G e.1 t p
theorem takeN {α : Type} {v : List α} {k : Nat} (hk : k < v.length) {P : α→Prop} : (∃ t∈v.take (k + 1),P t)↔(∃ t∈v.take k,P t)∨P v[k]:=by
  rw [List.take_succ_eq_append_getElem hk];constructor
  · rintro ⟨t,a,h⟩;rcases List.mem_append.1 a with a | a
    · exact .inl ⟨t,a,h⟩
    · rw [List.mem_singleton] at a;subst a;exact .inr h
  · rintro (⟨t,a,h⟩ | h)
    · exact ⟨t,List.mem_append_left _ a,h⟩
    · exact ⟨v[k],List.mem_append_right _ (List.mem_singleton.2 rfl),h⟩
theorem qra (s : Rep r.rows_ F) (b : Rep r.columns_ G) {x : Int} {v : List qh} (l : (x,v)∈r.columns_) {a : List (qa × Bool)} {S : qa→Prop} (h : KS a S) :
    ∃ a',q3o r a (x,v) = some (.inl a')∧KS a' (fun p=>S p∨∃ t∈v,q7r F G x t p)∧a'.length≤a.length + 2 * v.length:=by
  have g:=b.key x (List.mem_map_of_mem (f:=(·.1)) l);have z:=b.len x v l
  have:=Ku (f:=q4w (x,v) r) (σ:=List (qa × Bool)) (fun k c=>((k : Int),c)) v.length (fun k c=>KS c (fun p=>S p∨∃ t∈v.take k,q7r F G x t p)∧c.length≤a.length + 2 * k)
    (fun o=>KS o (fun p=>S p∨∃ t∈v,q7r F G x t p)∧o.length≤a.length + 2 * v.length) ?_ ?_ (k0:=0) (c0:=a) q7 ⟨h.congr fun p=>qb,q7⟩
  · obtain ⟨o,e1,m⟩:=this;have e1 : loop (q4w (x,v) r) (0,a) = some o:=e1;exact ⟨o,by unfold q3o;rw [e1];rfl,m⟩
  · rintro k c hk ⟨j,n⟩;have hb : decide ((k : Int) < (v.length : Int)) = true:=Q2 q7;obtain ⟨v1,v2,v3⟩:=(b.good x v l).1 _ (Ke hk);obtain ⟨a1,e1,u,l1⟩:=qdp s b (p:={X:=x,Y:=(v[k]).Lo}) ⟨g.1,g.2,by simp only;omega,by simp only;omega⟩ j;obtain ⟨y,m,w,l2⟩:=qdp s b (p:={X:=x,Y:=(v[k]).Hi}) ⟨g.1,g.2,by simp only;omega,by simp only;omega⟩ u;refine .inl ⟨y,?_,w.congr fun p=>?_,q7⟩
    · simp only [q4w,hb,Q1,Qu hk,qn,e1,m];rw [Qb q7];rfl
    · rw [takeN hk];unfold q7r;constructor
      · rintro (((h | h) | ⟨rfl,h⟩) | ⟨rfl,h⟩)
        · exact .inl h
        · exact .inr (.inl h)
        · exact .inr (.inr ⟨rfl,.inl rfl,h⟩)
        · exact .inr (.inr ⟨rfl,.inr rfl,h⟩)
      · rintro (h | h | ⟨d,h | h,q⟩)
        · exact .inl (.inl (.inl h))
        · exact .inl (.inl (.inr h))
        · have : p = {X:=x,Y:=(v[k]).Lo}:=by rw [← h,← d]
          exact .inl (.inr ⟨this,by rw [← h,← d];exact q⟩)
        · have : p = {X:=x,Y:=(v[k]).Hi}:=by rw [← h,← d]
          exact .inr ⟨this,by rw [← h,← d];exact q⟩
  · rintro c ⟨j,n⟩;have hb : decide ((v.length : Int) < (v.length : Int)) = false:=Q4 q7;refine ⟨c,by simp only [q4w,hb,qz],?_,n⟩
    rwa [List.take_length] at j
theorem qcl (c : Rep r.rows_ F) (b : Rep r.columns_ G) : ∀ (l : List (Int × List qh)),(∀ e∈l,e∈r.columns_)→∀ {a : List (qa × Bool)} {S : qa→Prop},KS a S→
    ∃ a',Ko (q3o r) l a = some (.inl a')∧KS a' (fun p=>S p∨q7t F G l p)∧a'.length≤a.length + 1600 * l.length
  | [],_,a,S,h=>⟨a,rfl,h.congr fun p=>by simp [q7t],qb⟩
  | (x,v)::l,hl,a,S,h=>by
    obtain ⟨m,e1,d,n⟩:=qra c b (hl (x,v) qb) h
    obtain ⟨j,k,f,o⟩:=qcl c b l (fun e g=>hl e (by simp [g])) d
    have:=b.len x v (hl (x,v) qb)
    refine ⟨j,by rw [q5g e1];exact k,f.congr fun p=>?_,by simp only [List.length_cons];omega⟩
    rw [or_assoc];simp [q7t]
theorem qrg (f : Rep r.rows_ F) (d : Rep r.columns_ G) {a : List (qa × Bool)} {S : qa→Prop} (h : KS a S) : Uu (fun (x y : List (qa × Bool))=>List.Perm x y) (q3o r) r.columns_ a = some ():=by
  refine qgy fun l c=>?_;obtain ⟨k,e1,g,_⟩:=qcl f d r.columns_ (fun e b=>b) h;obtain ⟨m,n,j,_⟩:=qcl f d l (fun e b=>(c.mem_iff).1 b) h;refine ⟨_,_,e1,n,?_⟩;show m.Perm k;exact KS.perm (j.congr fun p=>by simp only [q7t,c.mem_iff]) g
theorem qib : ∀ (l : List (qa × Bool)) (acc : List qa),acc.length + l.length≤1000000→Ko q2q l acc = some (.inl (acc ++ l.map (·.1)))
  | [],acc,_=>by simp [Ko]
  | e::l,acc,h=>by
    simp only [List.length_cons] at h
    have hs : q2q acc e = some (.inl (acc ++ [e.1])):=by
      unfold q2q;rw [Y9 (by simp;omega)];rfl
    rw [q5g hs,qib l _ (by simp;omega)]
    simp
theorem qic {l : List (qa × Bool)} {S : qa→Prop} (h : KS l S) (b : l.length≤1000000) (hb : ∀ p,S p→PtB p) : ∃ ys,(Ko q2q l []).bind (q7f q3p) = some (ys,decide (ys.length≤400))∧ys.Pairwise ltP∧∀ p,p∈ys↔S p:=by
  obtain ⟨ys,e1,a,c⟩:=q12j (l.map (·.1)) (by simpa using b) (fun p hp=>hb p ((h.mem p).1 hp)) h.nd;refine ⟨ys,?_,c,fun p=>by rw [a.mem_iff,h.mem]⟩;rw [qib l [] (by simpa using b)];show q3p ([] ++ l.map (·.1)) = _;rw [List.nil_append];unfold q3p;have le : K0 ys.length (l.map (·.1)).length = some ():=by unfold K0;rw [Q0 a.length_eq]
  rw [e1,qn,le,qn];congr 2;exact decide_eq_decide.2 (by have:=a.length_eq;omega)
theorem qgo (g : Rep r.rows_ F) (k : Rep r.columns_ G) (p : qa) : (q1q F G r.rows_ p∨q7t F G r.columns_ p)↔Kv F G p.X p.Y:=by
  constructor
  · rintro (⟨⟨y,v⟩,j,t,f,rfl,⟨_,h⟩ | ⟨h3,h4,o⟩⟩ | ⟨e,j,t,f,_,_,h⟩)
    · exact h
    · have g1 : F p.Y p.X:=(g.pts _ _ j _).1 ⟨t,f,q7,q7⟩;have g2 : F p.Y (p.X - 1):=(g.pts _ _ j _).1 ⟨t,f,q7,q7⟩;unfold Kv;rw [Q2 g1,Q2 g2];simp only at o;rcases o with o | o
      · rw [Q2 o];generalize decide (G p.X (p.Y - 1)) = b;revert b;decide
      · rw [Q2 o];generalize decide (G p.X p.Y) = b;revert b;decide
    · exact h
  · intro h
    have row : ∀ x,F p.Y x→∃ v,(p.Y,v)∈r.rows_:=fun x q=>by
      obtain ⟨⟨a,v⟩,c,j⟩:=List.mem_map.1 (g.all _ _ q);simp only at j;subst j;exact ⟨v,c⟩
    have col : ∀ y,G p.X y→∃ v,(p.X,v)∈r.columns_:=fun x q=>by
      obtain ⟨⟨a,v⟩,c,j⟩:=List.mem_map.1 (k.all _ _ q);simp only at j;subst j;exact ⟨v,c⟩
    by_cases e : F p.Y p.X <;> by_cases w : F p.Y (p.X - 1)
    ·
      obtain ⟨v,c⟩:=row _ e;have hc:=(g.good _ _ c).can;obtain ⟨t,f,t1,z⟩:=(g.pts _ _ c _).2 e
      have ab : t.Lo≠p.X:=fun u=>by
        have:=((qf1 hc p.X).1 ⟨t,f,u⟩).2;exact this ((g.pts _ _ c _).2 w)
      refine .inl ⟨(p.Y,v),c,t,f,rfl,.inr ⟨q7,z,?_⟩⟩;unfold Kv at h;rw [Q2 e,Q2 w] at h;by_cases n : G p.X p.Y
      · exact .inl n
      · by_cases s : G p.X (p.Y - 1)
        · exact .inr s
        · rw [Q4 n,Q4 s] at h;exact absurd h qy
    · obtain ⟨v,c⟩:=row _ e;obtain ⟨t,f,d⟩:=(qf1 (g.good _ _ c).can p.X).2 ⟨(g.pts _ _ c _).2 e,fun l=>w ((g.pts _ _ c _).1 l)⟩;exact .inl ⟨(p.Y,v),c,t,f,rfl,.inl ⟨.inl d.symm,h⟩⟩
    · obtain ⟨v,c⟩:=row _ w;obtain ⟨t,f,d⟩:=(qiu (g.good _ _ c).can p.X).2 ⟨fun l=>e ((g.pts _ _ c _).1 l),(g.pts _ _ c _).2 w⟩;exact .inl ⟨(p.Y,v),c,t,f,rfl,.inl ⟨.inr d.symm,h⟩⟩
    · right;have m:=h;unfold Kv at m;rw [Q4 e,Q4 w] at m;by_cases n : G p.X p.Y <;> by_cases s : G p.X (p.Y - 1)
      · rw [Q2 n,Q2 s] at m;exact absurd m qy
      · obtain ⟨v,c⟩:=col _ n;obtain ⟨t,f,d⟩:=(qf1 (k.good _ _ c).can p.Y).2 ⟨(k.pts _ _ c _).2 n,fun l=>s ((k.pts _ _ c _).1 l)⟩;exact ⟨(p.X,v),c,t,f,rfl,.inl d.symm,h⟩
      · obtain ⟨v,c⟩:=col _ s;obtain ⟨t,f,d⟩:=(qiu (k.good _ _ c).can p.Y).2 ⟨fun l=>n ((k.pts _ _ c _).1 l),(k.pts _ _ c _).2 s⟩;exact ⟨(p.X,v),c,t,f,rfl,.inr d.symm,h⟩
      · rw [Q4 n,Q4 s] at m;exact absurd m qy
theorem Rep.bnd {R : List (Int × List qh)} {F : Int→Int→Prop} (h : Rep R F) {k x : Int} (b : F k x) : -1000000≤k∧k≤1000000∧-1000000≤x∧x < 1000000:=by
  have hk:=h.key k (h.all _ _ b);obtain ⟨⟨a,v⟩,c,d⟩:=List.mem_map.1 (h.all _ _ b);simp only at d;subst d;obtain ⟨t,f,l,g⟩:=(h.pts _ _ c _).2 b;obtain ⟨m,j,n⟩:=(h.good _ _ c).1 t f;exact ⟨hk.1,hk.2,q7,q7⟩
theorem q8i {C : List (Int × List qh)} {R : List (Int × List qh)} (b : Rep R F) (a : Rep C G) {x y : Int} (h : Kv F G x y) : PtB {X:=x,Y:=y}:=by
  unfold PtB;simp only;by_cases e : F y x
  · have:=b.bnd e;omega
  · by_cases n : G x y
    · have:=a.bnd n;omega
    · by_cases w : F y (x - 1)
      · have:=b.bnd w;omega
      · by_cases s : G x (y - 1)
        · have:=a.bnd s;omega
        · unfold Kv at h;rw [Q4 e,Q4 n,Q4 w,Q4 s] at h;exact absurd h qy
structure Yg (F G : Int→Int→Prop) (N : List qa) : Prop where
  srt : N.Pairwise ltP
  mem : ∀ p,p∈N↔Kv F G p.X p.Y
theorem qvp (d : Rep r.rows_ F) (c : Rep r.columns_ G) : (∃ N,Yg F G N∧N.length≤400∧q7d r = some (N,true))∨((∃ b : List qa,b.Nodup∧400 < b.length∧∀ p∈b,Kv F G p.X p.Y)∧∃ q,q7d r = some (q,false)):=by
  unfold q7d;rw [q100 d c];simp only [qn];rcases qe1 d c r.rows_ (fun e k=>k) KS.nil qb with ⟨a1,e1,f,v⟩ | ⟨e1,b,T,f,v,y⟩
  · rw [e1];simp only [qn];rw [qrg d c f];simp only [qn];obtain ⟨t,x,k2,l2⟩:=qcl d c r.columns_ (fun e k=>k) f;rw [x];simp only [qn];have hc:=c.cnt;have g : t.length≤1000000:=by omega
    have m : KS t (fun p=>Kv F G p.X p.Y):=k2.congr fun p=>by
      rw [← qgo d c p];simp
    have hb : ∀ p : qa,Kv F G p.X p.Y→PtB p:=fun p hp=>q8i d c hp;obtain ⟨ys,f1,s,u⟩:=qic m g hb
    have j : q4g (fun l=>(Ko q2q l []).bind (q7f q3p)) t = some ():=by
      refine q119 fun l n=>?_;have k4 : KS l (fun p=>Kv F G p.X p.Y):=⟨((n.map (·.1)).nodup_iff).2 m.nd,fun e k=>m.val e ((n.mem_iff).1 k),fun p=>by rw [((n.map (·.1)).mem_iff),m.mem]⟩
      obtain ⟨zs,z,w,g3⟩:=qic k4 (by rw [n.length_eq];exact g) hb;simp only [f1,z];have : zs = ys:=qed q37 w s fun p=>by rw [g3,u]
      rw [this]
    rw [j];simp only [qn];rw [f1];by_cases o : ys.length≤400
    · exact .inl ⟨ys,⟨s,u⟩,o,by rw [Q2 o]⟩
    · refine .inr ⟨⟨ys,s.imp (by rintro a b h rfl;exact q37 a a h h),q7,fun p hp=>(u p).1 hp⟩,ys,by rw [Q4 o]⟩
  · rw [e1];refine .inr ⟨⟨b.map (·.1),f.nd,by simpa using v,fun p hp=>?_⟩,[],rfl⟩;rcases y p ((f.mem p).1 hp) with h | h
    · exact h.elim
    · exact (qgo d c p).1 (.inl h)
end
end Go.Sh
namespace Go.Sh
open Go Go.Am
open Classical
theorem qu2 {α : Type} (out : List α) (z v : α) (b : Nat) (hb : b≤out.length) :
    (cpyw (out ++ [z]) (b + 1,(out ++ [z]).length - (b + 1)) ((((out ++ [z]).drop b).take ((out ++ [z]).length - b)))).set b v = out.take b ++ v::out.drop b:=by
  have e1 : ((out ++ [z]).drop b).take ((out ++ [z]).length - b) = (out ++ [z]).drop b:=List.take_of_length_le qb;rw [e1];unfold cpyw splice;have h : (min ((out ++ [z]).drop b).length ((out ++ [z]).length - (b + 1))) = out.length - b:=by simp;omega
  simp only [h]
  have c : ((out ++ [z]).drop b).take (out.length - b) = out.drop b:=by
    rw [List.drop_append_of_le_length hb,List.take_append_of_le_length qb];exact List.take_of_length_le qb
  rw [c]
  have g : (out ++ [z]).drop (b + 1 + (out.drop b).length) = []:=by
    apply List.drop_of_length_le;simp;omega
  rw [g,List.append_nil]
  have a : ∃ y,(out ++ [z]).take (b + 1) = out.take b ++ [y]:=by
    refine ⟨(out ++ [z])[b]'(by simp;omega),?_⟩;rw [List.take_succ_eq_append_getElem (by simp;omega),List.take_append_of_le_length hb]
  obtain ⟨y,f⟩:=a
  have key : ∀ (xs ys : List α) (y v : α),(xs ++ (y::ys)).set xs.length v = xs ++ v::ys:=by
    intro xs ys y v
    induction xs with
    | nil=>rfl
    | cons x xs ih=>simp [ih]
  have d : (out.take b).length = b:=by simp;omega
  rw [f,List.append_assoc];have:=key (out.take b) (out.drop b) y v;rw [d] at this;exact this
theorem qup (a b : qa) : qdw a b = some (decide (ltP a b)):=by
  unfold qdw ltP;by_cases c : a.X < b.X
  · simp [c]
  · by_cases d : a.X = b.X
    · have : (a.X == b.X) = true:=by simpa using d
      rw [Q4 c,qz,this];simp [d]
    · have : (a.X == b.X) = false:=by simpa using d
      rw [Q4 c,qz,this];simp [c,d]
theorem qyw (N : List qa) (p : qa) (m : N.length≤1000) : ∃ b : Nat,loop (q66 N p) 0 = some (b : Int)∧b≤N.length∧(∀ j (h : j < N.length),j < b→ltP N[j] p)∧∀ (h : b < N.length),¬ ltP N[b] p:=by
  have:=Ku (f:=q66 N p) (σ:=Unit) (fun k _=>(k : Int)) N.length (fun k _=>∀ j (h : j < N.length),j < k→ltP N[j] p) (fun c=>∃ b : Nat,c = (b : Int)∧b≤N.length∧(∀ j (h : j < N.length),j < b→ltP N[j] p)∧∀ (h : b < N.length),¬ ltP N[b] p) ?_ ?_ (k0:=0) (c0:=()) q7 (fun j h n=>q7)
  · obtain ⟨c,e,b,rfl,h⟩:=this;exact ⟨b,e,h⟩
  · rintro k _ hk h;have hb : decide ((k : Int) < (N.length : Int)) = true:=Q2 q7;have d : qdw N[k] ({X:=p.X,Y:=p.Y} : qa) = some (decide (ltP N[k] p)):=qup _ _;by_cases a : ltP N[k] p
    · refine .inl ⟨(),?_,fun j l g=>?_⟩
      · simp only [q66,hb,Q1,Qu hk,qn,d,Q2 a];rw [Qb q7];rfl
      · by_cases e : j = k
        · subst e;exact a
        · exact h j l q7
    · refine .inr ⟨(k : Int),?_,k,rfl,q7,h,fun _=>a⟩;simp only [q66,hb,Q1,Qu hk,qn,d,Q4 a,qz]
  · rintro _ h;have hb : decide ((N.length : Int) < (N.length : Int)) = false:=Q4 q7;exact ⟨(N.length : Int),by simp only [q66,hb,qz,qn],N.length,rfl,q7,h,fun h=>q7⟩
theorem qv3 {a b c : qa} (d : ltP a b) (f : ltP b c) : ltP a c:=by unfold ltP at *;omega
theorem q101 (N : List qa) (p : qa) (hl : N.length≤500) (hs : N.Pairwise ltP) : ∃ n,q65 N p = some n∧n.Pairwise ltP∧(∀ q,q∈n↔q∈N∨q = p)∧N.length≤n.length∧n.length≤N.length + 1:=by
  obtain ⟨b,e,hb,h1,x⟩:=qyw N p q7;unfold q65;rw [e,qn];by_cases r : ∃ h : b < N.length,N[b] = p
  · obtain ⟨d,v⟩:=r;have l : decide ((b : Int) < (N.length : Int)) = true:=Q2 q7;rw [l,Q1,Qu d,qn,v];simp only [beq_self_eq_true,Bool.and_self,qn,Q1];refine ⟨N,rfl,hs,fun q=>?_,q7,q7⟩;constructor
    · exact .inl
    · rintro (h | rfl)
      · exact h
      · rw [← v];exact Ke d
  · have l : (cond (decide ((b : Int) < (N.length : Int))) ((idx N (b : Int)).bind fun k=>some ((k.X == p.X) && ((k.Y == p.Y) && true))) (some false)) = some false:=by
      by_cases d : b < N.length
      · rw [Q2 (show (b : Int) < (N.length : Int) by omega),Q1,Qu d,qn];congr 1;have s : ¬ N[b] = p:=fun h=>r ⟨d,h⟩;by_cases e1 : N[b].X = p.X
        · have e2 : ¬ N[b].Y = p.Y:=fun h=>s (by
            have : N[b] = ⟨N[b].X,N[b].Y⟩:=rfl
            rw [this,e1,h])
          simp [e2]
        · simp [e1]
      · rw [Q4 (show ¬ (b : Int) < (N.length : Int) by omega),qz]
    rw [l,qn,qz,Y9 (by simp;omega),qn]
    have w1 : sub2 (N ++ [({X:=0,Y:=0} : qa)]).length (w64 ((b : Int) + 1)) ((N ++ [({X:=0,Y:=0} : qa)]).length : Int) = some (b + 1,(N ++ [({X:=0,Y:=0} : qa)]).length - (b + 1)):=by
      unfold sub2;rw [Qb q7,Q0 (by simp;omega)];simp
    have w2 : sub2 (N ++ [({X:=0,Y:=0} : qa)]).length (b : Int) ((N ++ [({X:=0,Y:=0} : qa)]).length : Int) = some (b,(N ++ [({X:=0,Y:=0} : qa)]).length - b):=by
      unfold sub2;rw [Q0 (by simp;omega)];simp
    rw [w1,qn,w2,qn];have y:=qu2 N ({X:=0,Y:=0} : qa) p b hb
    have o : (cpyw (N ++ [({X:=0,Y:=0} : qa)]) (b + 1,(N ++ [({X:=0,Y:=0} : qa)]).length - (b + 1)) (((N ++ [({X:=0,Y:=0} : qa)]).drop b).take ((N ++ [({X:=0,Y:=0} : qa)]).length - b))).length = N.length + 1:=by
      rw [qjl (by simp;omega)];simp
    rw [Qu (by rw [o];omega),qn,Int.toNat_natCast];have g : N = N.take b ++ N.drop b:=(List.take_append_drop b N).symm
    have hT : ∀ q∈N.take b,ltP q p:=by
      intro q t;obtain ⟨j,u,rfl⟩:=List.mem_iff_getElem.1 t;simp only [List.length_take] at u;rw [List.getElem_take];exact h1 j q7 q7
    have z : ∀ q∈N.drop b,ltP p q:=by
      intro q t;obtain ⟨j,u,rfl⟩:=List.mem_iff_getElem.1 t;simp only [List.length_drop] at u;rw [List.getElem_drop];have m : ltP p N[b]:=qga (x q7) (fun h=>r ⟨q7,h⟩);rcases Nat.eq_zero_or_pos j with rfl | h
      · exact m
      · exact qv3 m (List.pairwise_iff_getElem.1 hs b (b + j) q7 q7 q7)
    have f:=hs;rw [g,List.pairwise_append] at f;refine ⟨N.take b ++ p::N.drop b,congrArg some y,?_,fun q=>?_,?_,?_⟩
    · rw [List.pairwise_append,List.pairwise_cons];refine ⟨f.1,⟨z,f.2.1⟩,fun a w c l=>?_⟩;rcases List.mem_cons.1 l with rfl | l
      · exact hT a w
      · exact f.2.2 a w c l
    · have : q∈N↔q∈N.take b∨q∈N.drop b:=by rw [← List.mem_append,← g]
      rw [List.mem_append,List.mem_cons,this];constructor
      · rintro (h | h | h) <;> simp [h]
      · rintro ((h | h) | h) <;> simp [h]
    · simp;omega
    · simp;omega
section
variable {F G : Int→Int→Prop} {L M : List Kk}
structure JN (F G : Int→Int→Prop) (N : List qa) (S : qa→Prop) : Prop where
  srt : N.Pairwise ltP
  sub : ∀ p∈N,Kv F G p.X p.Y
  all : N.length≤400→∀ p,S p→Kv F G p.X p.Y→p∈N
  len : N.length≤402
theorem JN.congr {N : List qa} {S T : qa→Prop} (h : JN F G N S) (e : ∀ p,T p→S p) : JN F G N T:=⟨h.srt,h.sub,fun a p hp=>h.all a p (e p hp),h.len⟩
theorem qhf (n : Rep (asc L) F) (l : Rep (asc M) G) {p : qa} (hp : PtB p) {N : List qa} {S : qa→Prop} (h : JN F G N S) (s : N.length≤401) :
    ∃ c,((q4f L M p).bind fun r=>cond r ((q65 N p).bind fun e=>some e) (some N)) = some c∧JN F G c (fun q=>S q∨q = p)∧N.length≤c.length∧c.length≤N.length + 1:=by
  rw [qu5 n l hp,qn];by_cases f : Kv F G p.X p.Y
  · obtain ⟨c,e,k,g,o,j⟩:=q101 N p q7 h.srt;rw [Q2 f,Q1,e];refine ⟨c,rfl,⟨k,fun q b=>?_,fun d q b a=>?_,q7⟩,o,j⟩
    · rcases (g q).1 b with m | rfl
      · exact h.sub q m
      · exact f
    · rcases b with b | rfl
      · exact (g q).2 (.inl (h.all q7 q b a))
      · exact (g q).2 (.inr rfl)
  · rw [Q4 f,qz];refine ⟨N,rfl,⟨h.srt,h.sub,fun d q b a=>?_,h.len⟩,q7,q7⟩;rcases b with b | rfl
    · exact h.all d q b a
    · exact absurd a f
end
end Go.Sh
