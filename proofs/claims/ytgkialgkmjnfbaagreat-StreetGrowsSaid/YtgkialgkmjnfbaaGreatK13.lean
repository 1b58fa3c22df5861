/- St2 St3 St4 Sq1 Sq2 St5 St6 St7 St8 -/
import Derived.Test.YtgkialgkmjnfbaaGreatK12
namespace Go.Sh
open Go Go.Am
structure Abs (out : List qj) (lo0 hi0 : Int) (k : Nat) (c : Int × Int × List qj) : Prop where
  can : Can c.2.2
  sub : ∀ t∈c.2.2,t∈out.take k
  apart : ∀ t∈c.2.2,t.Hi < c.1∨c.2.1 < t.Lo
  lt : c.1 < c.2.1
  bnd : -1000000≤c.1∧c.2.1≤1000000
  pts : ∀ x,(has c.2.2 x∨(c.1≤x∧x < c.2.1))↔(has (out.take k) x∨(lo0≤x∧x < hi0))
  len : c.2.2.length≤k
theorem q12l (i : Int) (out : List qj) (a b : Int) (r : Good out) (hl : out.length≤1000) (hv : vld {Lo:=a,Hi:=b}) :
    ∃ c,loop (q3e (i,out)) (0,a,b,[]) = some c∧Abs out a b out.length c:=by
  obtain ⟨v1,v2,v3⟩:=hv;simp only at v1 v2 v3;refine Ky (f:=q3e (i,out)) (σ:=Int × Int × List qj) (fun k c=>((k : Int),c)) out.length (Abs out a b) (Abs out a b out.length) ?_ ?_ (k0:=0) (c0:=(a,b,[])) q8 ⟨⟨fun t h=>(by cases h),.nil⟩,fun t h=>(by cases h),fun t h=>(by cases h),v1,⟨v2,v3⟩,fun x=>qe,qe⟩
  · rintro k ⟨lo,hi,rest⟩ hk ⟨s1,o,p,y,s5,q,s7⟩;simp only at s1 o p y s5 q s7;have hb : decide ((k : Int) < (out.length : Int)) = true:=Q4 q8;have d : out.take (k + 1) = out.take k ++ [out[k]]:=List.take_succ_eq_append_getElem hk;have u:=r.1 _ (Ks hk);obtain ⟨g1,g2,g3⟩:=u
    have l : ∀ s∈rest,s.Hi < (out[k]).Lo∧s.Lo < s.Hi:=by
      intro s hs;obtain ⟨j,hj,rfl⟩:=List.mem_iff_getElem.1 (o s hs);simp only [List.length_take] at hj;rw [List.getElem_take];exact ⟨List.pairwise_iff_getElem.1 r.2 j k q8 hk q8,(r.1 _ (Ks _)).1⟩
    by_cases n : (out[k]).Hi < lo∨hi < (out[k]).Lo
    · refine .inl ⟨(lo,hi,rest ++ [out[k]]),?_,?_⟩
      · have e : (cond (decide ((out[k]).Hi < lo)) (some true) ((idx out (k : Int)).bind fun m=>some (decide (hi < m.Lo)))) = some true:=by
          rw [K0 hk];rcases n with h | h
          · rw [Q4 h];rfl
          · by_cases z : (out[k]).Hi < lo
            · rw [Q4 z];rfl
            · rw [Q9 z,Q5,qo,Q4 h]
        simp only [q3e,hb,Q7,K0 hk,qo] at e ⊢;rw [e,qo,Q7,Yh (by simp;omega),Qb q8];rfl
      · refine ⟨qcc.2 ⟨s1,g1,fun s hs=>(l s hs).1⟩,fun t g=>?_,fun t g=>?_,y,s5,fun x=>?_,by simp;omega⟩
        · rw [d];rcases List.mem_append.1 g with h | h
          · exact List.mem_append_left _ (o t h)
          · exact List.mem_append_right _ h
        · rcases List.mem_append.1 g with h | h
          · exact p t h
          · rw [List.mem_singleton] at h;subst h;exact n
        · rw [d,q42,q42];have:=q x;constructor
          · rintro ((h | h) | h)
            · rcases this.1 (.inl h) with h | h
              · exact .inl (.inl h)
              · exact .inr h
            · exact .inl (.inr h)
            · rcases this.1 (.inr h) with h | h
              · exact .inl (.inl h)
              · exact .inr h
          · rintro ((h | h) | h)
            · rcases this.2 (.inl h) with h | h
              · exact .inl (.inl h)
              · exact .inr h
            · exact .inl (.inr h)
            · rcases this.2 (.inr h) with h | h
              · exact .inl (.inl h)
              · exact .inr h
    · have w : ¬ (out[k]).Hi < lo:=fun h=>n (.inl h);have v : ¬ hi < (out[k]).Lo:=fun h=>n (.inr h);refine .inl ⟨(min lo (out[k]).Lo,max hi (out[k]).Hi,rest),?_,?_⟩
      · simp only [q3e,hb,Q7,K0 hk,qo,Q9 w,Q5,Q9 v];rw [Qb q8];rfl
      · refine ⟨s1,fun t g=>?_,fun t g=>?_,by simp only;omega,by simp only;omega,fun x=>?_,by simp only;omega⟩
        · rw [d];exact List.mem_append_left _ (o t g)
        · have:=l t g;have:=p t g;simp only;omega
        · rw [d,q42];have:=q x;have hm : (min lo (out[k]).Lo≤x∧x < max hi (out[k]).Hi)↔((lo≤x∧x < hi)∨((out[k]).Lo≤x∧x < (out[k]).Hi)):=by omega
          rw [show (has rest x∨(min lo (out[k]).Lo≤x∧x < max hi (out[k]).Hi))↔(has rest x∨(lo≤x∧x < hi))∨((out[k]).Lo≤x∧x < (out[k]).Hi) from by rw [hm,or_assoc],this,or_right_comm]
  · rintro ⟨lo,hi,rest⟩ hI;have hb : decide ((out.length : Int) < (out.length : Int)) = false:=Q9 q8;exact ⟨(lo,hi,rest),by simp only [q3e,hb,Q5],hI⟩
theorem q12m (lo hi : Int) (rest : List qj) (l : rest.length≤1000) : ∃ b : Int,loop (q3f (lo,hi,rest)) 0 = some b∧∃ k : Nat,b = k∧k≤rest.length∧(∀ j (h : j < rest.length),j < k→(rest[j]).Lo < lo)∧∀ (h : k < rest.length),lo≤(rest[k]).Lo:=by
  refine Ky (f:=q3f (lo,hi,rest)) (σ:=Unit) (fun k _=>(k : Int)) rest.length (fun k _=>∀ j (h : j < rest.length),j < k→(rest[j]).Lo < lo) _ ?_ ?_ (k0:=0) (c0:=()) q8 (fun j h g=>q8)
  · rintro k _ hk h;have hb : decide ((k : Int) < (rest.length : Int)) = true:=Q4 q8;by_cases a : (rest[k]).Lo < lo
    · refine .inl ⟨(),?_,fun j c d=>?_⟩
      · simp only [q3f,hb,Q7,K0 hk,qo,Q4 a];rw [Qb q8];rfl
      · by_cases e : j = k
        · subst e;exact a
        · exact h j c q8
    · refine .inr ⟨(k : Int),?_,k,rfl,q8,h,fun _=>q8⟩;simp only [q3f,hb,Q7,K0 hk,qo,Q9 a,Q5]
  · rintro _ h;have hb : decide ((rest.length : Int) < (rest.length : Int)) = false:=Q9 q8;exact ⟨(rest.length : Int),by simp only [q3f,hb,Q5,qo],rest.length,rfl,q8,h,fun h=>q8⟩
theorem qox {rest : List qj} {lo hi : Int} {k : Nat} (f : Can rest) (o : lo < hi) (m : ∀ t∈rest,t.Hi < lo∨hi < t.Lo) (hk : k≤rest.length) (w : ∀ j (h : j < rest.length),j < k→(rest[j]).Lo < lo) (s : ∀ (h : k < rest.length),lo≤(rest[k]).Lo) :
    Can (rest.take k ++ [{Lo:=lo,Hi:=hi}] ++ rest.drop k)∧∀ x,has (rest.take k ++ [{Lo:=lo,Hi:=hi}] ++ rest.drop k) x↔has rest x∨(lo≤x∧x < hi):=by
  have d : rest = rest.take k ++ rest.drop k:=(List.take_append_drop k rest).symm;have c:=f.2;rw [d,List.pairwise_append] at c
  have v : ∀ t∈rest.take k,t.Hi < lo:=by
    intro t g;obtain ⟨j,q,rfl⟩:=List.mem_iff_getElem.1 g;simp only [List.length_take] at q;rw [List.getElem_take];have:=w j q8 q8;have:=f.1 _ (Ks (l:=rest) (n:=j) q8);rcases m _ (Ks (l:=rest) (n:=j) q8) with h | h <;> omega
  have u : ∀ t∈rest.drop k,hi < t.Lo:=by
    intro t g;obtain ⟨j,q,rfl⟩:=List.mem_iff_getElem.1 g;simp only [List.length_drop] at q;rw [List.getElem_drop];have p:=s q8
    have : lo≤(rest[k + j]).Lo:=by
      rcases Nat.eq_zero_or_pos j with rfl | h
      · exact p
      · have:=List.pairwise_iff_getElem.1 f.2 k (k + j) q8 q8 q8;have:=f.1 _ (Ks (l:=rest) (n:=k) q8);omega
    have:=f.1 _ (Ks (l:=rest) (n:=k + j) q8);rcases m _ (Ks (l:=rest) (n:=k + j) q8) with h | h <;> omega
  refine ⟨⟨fun t g=>?_,?_⟩,fun x=>?_⟩
  · simp only [List.mem_append,List.mem_singleton] at g;rcases g with (h | rfl) | h
    · exact f.1 t (List.mem_of_mem_take h)
    · exact o
    · exact f.1 t (List.mem_of_mem_drop h)
  · rw [List.pairwise_append,List.pairwise_append];refine ⟨⟨c.1,List.pairwise_singleton _ _,fun a r b hb=>?_⟩,c.2.1,fun a r b hb=>?_⟩
    · rw [List.mem_singleton] at hb;subst hb;exact v a r
    · rcases List.mem_append.1 r with h | h
      · exact c.2.2 a h b hb
      · rw [List.mem_singleton] at h;subst h;exact u b hb
  · have e : has rest x↔has (rest.take k) x∨has (rest.drop k) x:=by rw [← qct,← d]
    have hs : has [({Lo:=lo,Hi:=hi} : qj)] x↔(lo≤x∧x < hi):=by rw [J1];simp [q1k]
    rw [qct,qct,e,hs,or_right_comm]
structure Uni (s out : List qj) : Prop where
  good : Good out
  pts : ∀ x,has out x↔has s x
  len : out.length≤s.length
theorem q12n (s : List qj) (hl : s.length≤400) (hv : ∀ t∈s,vld t) : ∃ out,q4o s = some out∧Uni s out:=by
  have:=Ky (f:=q4p s) (σ:=List qj) (fun k c=>((k : Int),c)) s.length (fun k c=>Uni (s.take k) c) (fun c=>Uni s c) ?_ ?_ (k0:=0) (c0:=[]) q8 ⟨⟨fun t h=>(by cases h),.nil⟩,fun x=>qe,qe⟩
  · obtain ⟨out,n,y⟩:=this;have n : loop (q4p s) (0,[]) = some out:=n;exact ⟨out,by unfold q4o;rw [n];rfl,y⟩
  · rintro k out hk ⟨g,pts,len⟩;have o : out.length≤k:=by simp only [List.length_take] at len;omega
    have hb : decide ((k : Int) < (s.length : Int)) = true:=Q4 q8;obtain ⟨⟨lo,hi,rest⟩,e1,v,p,q,l,j,u,z⟩:=q12l (k : Int) out (s[k]).Lo (s[k]).Hi g q8 (hv _ (Ks hk));simp only at v p q l j u z;obtain ⟨b,e2,a,rfl,b1,b2,b3⟩:=q12m lo hi rest q8;obtain ⟨c1,c2⟩:=qox v l q b1 b2 b3
    have m : ∀ t∈rest.take a ++ [{Lo:=lo,Hi:=hi}] ++ rest.drop a,vld t:=by
      intro t d;have r : ∀ t∈rest,vld t:=fun t d=>g.1 t (List.mem_of_mem_take (p t d));simp only [List.mem_append,List.mem_singleton] at d;rcases d with (h | rfl) | h
      · exact r t (List.mem_of_mem_take h)
      · exact ⟨l,j.1,j.2⟩
      · exact r t (List.mem_of_mem_drop h)
    refine .inl ⟨rest.take a ++ [{Lo:=lo,Hi:=hi}] ++ rest.drop a,?_,⟨m,c1.2⟩,fun x=>?_,?_⟩
    · have w1 : sub2 rest.length 0 (a : Int) = some (0,a):=by unfold sub2;rw [qx q8];simp
      have w2 : sub2 rest.length (a : Int) (rest.length : Int) = some (a,rest.length - a):=by unfold sub2;rw [qx q8];simp
      simp only [q4p,hb,Q7,K0 hk,qo,e1,e2,w1,w2];rw [Yh (by simp;omega)];simp only [qo];rw [Yh (by simp;omega)];simp only [qo];rw [Yh (by simp;omega)];simp only [qo];rw [Qb q8];have d1 : (rest.drop 0).take a = rest.take a:=by simp
      have w : (rest.drop a).take (rest.length - a) = rest.drop a:=by rw [List.take_of_length_le qe]
      rw [d1,w,List.nil_append];rfl
    · rw [c2,u,List.take_length,pts,List.take_succ_eq_append_getElem hk,q42]
    · have : (s.take (k + 1)).length = k + 1:=by simp;omega
      rw [this];simp;omega
  · rintro out hI;have hb : decide ((s.length : Int) < (s.length : Int)) = false:=Q9 q8;exact ⟨out,by simp only [q4p,hb,Q5],by rwa [List.take_length] at hI⟩
end Go.Sh
namespace Go.Sh
open Go Go.Am
def kf (p : Bool) : Q6→Option (Int × qj):=cond p hk vk
def keyL (p : Bool) (l : List Q6) : List (Int × qj):=l.filterMap (kf p)
theorem qcw (p : Bool) (l : List Q6) : (keyL p l).length≤l.length:=List.length_filterMap_le _ _
theorem qk5 {p : Bool} {l : List Q6} {k : Nat} (h : k < l.length) : keyL p (l.take (k + 1)) = keyL p (l.take k) ++ (kf p l[k]).toList:=by
  rw [List.take_succ_eq_append_getElem h,keyL,List.filterMap_append];cases e : kf p l[k] <;> simp [keyL,e]
theorem qk6 {p : Bool} {l : List Q6} (h : ∀ s∈l,SegV s) : ∀ k t,(k,t)∈keyL p l→vld t:=by
  cases p
  · exact qes h
  · exact qgr h
theorem qtb (l : List Q6) (p : Bool) (h : l.length≤400) : loop (q4h l p) (0,[]) = some ((keyL p l).map (·.1)):=by
  have:=Ky (f:=q4h l p) (σ:=List Int) (fun k c=>((k : Int),c)) l.length (fun k c=>c = (keyL p (l.take k)).map (·.1)) (fun c=>c = (keyL p l).map (·.1)) ?_ ?_ (k0:=0) (c0:=[]) q8 (by simp [keyL])
  · obtain ⟨b,g,rfl⟩:=this;exact g
  · rintro k c hk rfl;have hb : decide ((k : Int) < (l.length : Int)) = true:=Q4 q8;have d : (keyL p (l.take k)).length≤400:=by have:=qcw p (l.take k);simp at this;omega
    refine .inl ⟨_,?_,rfl⟩;rw [qk5 hk];simp only [q4h,hb,Q7,K0 hk,qo];rw [Qb q8];by_cases e : (l[k]).A.Y = (l[k]).B.Y
    · have a : ((l[k]).A.Y == (l[k]).B.Y) = true:=by simpa using e
      rw [a]
      cases p with
      | true=>
        simp only [beq_self_eq_true,Q7];rw [Yh (by simp;omega)];have : kf true l[k] = some ((l[k]).A.Y,{Lo:=min (l[k]).A.X (l[k]).B.X,Hi:=max (l[k]).A.X (l[k]).B.X}):=by show Go.Sh.hk _ = _;unfold Go.Sh.hk;rw [qx e]
        rw [this];simp
      | false=>
        have : kf false l[k] = none:=by show Go.Sh.vk _ = _;unfold Go.Sh.vk;rw [qx e]
        rw [this];simp
    · have a : ((l[k]).A.Y == (l[k]).B.Y) = false:=by simpa using e
      rw [a]
      cases p with
      | false=>
        simp only [beq_self_eq_true,Q7,Q5];rw [Yh (by simp;omega)];have : kf false l[k] = some ((l[k]).A.X,{Lo:=min (l[k]).A.Y (l[k]).B.Y,Hi:=max (l[k]).A.Y (l[k]).B.Y}):=by show Go.Sh.vk _ = _;unfold Go.Sh.vk;rw [qw e]
        rw [this];simp
      | true=>
        have : kf true l[k] = none:=by show Go.Sh.hk _ = _;unfold Go.Sh.hk;rw [qw e]
        rw [this];simp
  · rintro c rfl;have hb : decide ((l.length : Int) < (l.length : Int)) = false:=Q9 q8;exact ⟨_,by simp only [q4h,hb,Q5];rfl,by rw [List.take_length]⟩
theorem qtd (l : List Q6) (p : Bool) (y : l.length≤400) (x : ∀ s∈l,SegV s) (keys : List Int) (i : Nat) (hi : i < keys.length) (acc : List Kb) : loop (q4j l p keys ((i : Int),acc)) (0,[]) = some (Yc (keyL p l) keys[i]):=by
  have:=Ky (f:=q4j l p keys ((i : Int),acc)) (σ:=List qj) (fun k c=>((k : Int),c)) l.length (fun k c=>c = Yc (keyL p (l.take k)) keys[i]) (fun c=>c = Yc (keyL p l) keys[i]) ?_ ?_ (k0:=0) (c0:=[]) q8 (by simp [keyL,Yc])
  · obtain ⟨b,u,rfl⟩:=this;exact u
  · rintro k c hk rfl;have hb : decide ((k : Int) < (l.length : Int)) = true:=Q4 q8;have r : (Yc (keyL p (l.take k)) keys[i]).length≤400:=by have:=qcw p (l.take k);have:=q2m (L:=keyL p (l.take k)) (k:=keys[i]);simp at *;omega
    obtain ⟨v,t,w⟩:=x _ (Ks hk);refine .inl ⟨_,?_,rfl⟩;rw [qk5 hk];simp only [q4j,hb,Q7,K0 hk,K0 hi,qo];rw [Qb q8,show ((k : Int) + 1) = ((k + 1 : Nat) : Int) by omega];generalize keys[i] = key at *;generalize l[k] = s at *;obtain ⟨⟨j,d⟩,⟨bx,a⟩⟩:=s;simp only at v t w ⊢
    cases p with
    | true=>
      have m : kf true {A:={X:=j,Y:=d},B:={X:=bx,Y:=a}} = if d = a then some (d,{Lo:=min j bx,Hi:=max j bx}) else none:=rfl
      rw [m];by_cases e1 : d = key
      · subst e1;by_cases q : a = d
        · subst q;simp only [beq_self_eq_true,Q7,qo,if_true,Option.toList_some,qbi];rw [Yh (by simp;omega)];rfl
        · have n : (a == d) = false:=by simpa using q
          have g : ¬ d = a:=fun h=>q h.symm;simp only [beq_self_eq_true,Q7,qo,n,Q5,Bool.not_true,qw g,Option.toList_none,List.append_nil]
      · have o : (d == key) = false:=by simpa using e1
        simp only [o,Q7,Q5,qo,Bool.not_true];by_cases g : d = a
        · rw [qx g,Option.toList_some,qbi,qw (fun h=>e1 h.symm),List.append_nil]
        · rw [qw g,Option.toList_none,List.append_nil]
    | false=>
      have m : kf false {A:={X:=j,Y:=d},B:={X:=bx,Y:=a}} = if d = a then none else some (j,{Lo:=min d a,Hi:=max d a}):=rfl
      rw [m];by_cases e1 : j = key
      · subst e1;by_cases q : bx = j
        · subst q;have g : ¬ d = a:=by omega
          simp only [beq_self_eq_true,Q7,Q5,qo,Bool.not_false,qw g,Option.toList_some,qbi];rw [Yh (by simp;omega)];simp
        · have n : (bx == j) = false:=by simpa using q
          have g : d = a:=by omega
          simp only [beq_self_eq_true,Q7,Q5,qo,Bool.not_false,n,qx g,Option.toList_none,List.append_nil]
      · have o : (j == key) = false:=by simpa using e1
        simp only [o,Q7,Q5,qo,Bool.not_false];by_cases g : d = a
        · rw [qx g,Option.toList_none,List.append_nil]
        · rw [qw g,Option.toList_some,qbi,qw (fun h=>e1 h.symm),List.append_nil]
  · rintro c rfl;have hb : decide ((l.length : Int) < (l.length : Int)) = false:=Q9 q8;exact ⟨_,by simp only [q4j,hb,Q5];rfl,by rw [List.take_length]⟩
noncomputable def uniS (s : List qj) : List qj:=(q4o s).getD []
theorem qnz {s : List qj} (c : s.length≤400) (b : ∀ t∈s,vld t) : q4o s = some (uniS s)∧Uni s (uniS s):=by
  obtain ⟨out,a,d⟩:=q12n s c b;have : uniS s = out:=by unfold uniS;rw [a];rfl
  rw [this];exact ⟨a,d⟩
noncomputable def q34 (L : List (Int × qj)) (k : Int) : Kb:={At:=k,Spans:=uniS (Yc L k)}
theorem qtc (l : List Q6) (p : Bool) (j : l.length≤400) (h : ∀ s∈l,SegV s) (keys : List Int) (hs : keys.Pairwise (· < ·)) (hk : keys.length≤400) : loop (q4i keys l p) (0,[]) = some (keys.map (q34 (keyL p l))):=by
  have:=Ky (f:=q4i keys l p) (σ:=List Kb) (fun k c=>((k : Int),c)) keys.length (fun k c=>c = (keys.take k).map (q34 (keyL p l))) (fun c=>c = keys.map (q34 (keyL p l))) ?_ ?_ (k0:=0) (c0:=[]) q8 qe
  · obtain ⟨b,o,rfl⟩:=this;exact o
  · rintro k c hk rfl;have hb : decide ((k : Int) < (keys.length : Int)) = true:=Q4 q8;have r:=qcw p l;have n:=q2m (L:=keyL p l) (k:=keys[k]);obtain ⟨q,_⟩:=qnz (s:=Yc (keyL p l) keys[k]) q8 (fun t m=>qk6 h _ _ (q44.1 m))
    have a : (cond (decide ((k : Int) > 0)) ((idx keys (k : Int)).bind fun d=>(idx keys (w64 ((k : Int) - 1))).bind fun g=>some (d == g)) (some false)) = some false:=by
      cases k with
      | zero=>rfl
      | succ k=>
        rw [Q4 (show ((k + 1 : Nat) : Int) > 0 by omega),Q7,K0 hk,Qb q8,q86 (k:=k) q8 q8];have:=List.pairwise_iff_getElem.1 hs k (k + 1) q8 hk q8;have : (keys[k + 1] == keys[k]) = false:=by simp;omega
        simp only [qo,this]
    simp only [K0 hk,qo] at a;refine .inl ⟨_,?_,rfl⟩;simp only [q4i,hb,Q7,a,qo,Q5,qtd l p j h keys k hk,q,K0 hk];rw [Yh (by simp;omega),Qb q8,List.take_succ_eq_append_getElem hk,List.map_append];rfl
  · rintro c rfl;have hb : decide ((keys.length : Int) < (keys.length : Int)) = false:=Q9 q8;exact ⟨_,by simp only [q4i,hb,Q5];rfl,by rw [List.take_length]⟩
def asc (L : List Kb) : List (Int × List qj):=L.map fun x=>(x.At,x.Spans)
theorem qkf (l : List Q6) (p : Bool) (o : l.length≤400) (d : ∀ s∈l,SegV s) : ∃ L,q6e l p = some L∧Rep (asc L) (onL (keyL p l))∧(L.map (·.At)).Pairwise (· < ·):=by
  have z:=qcw p l;obtain ⟨keys,u,⟨m,r⟩,y⟩:=qni ((keyL p l).map (·.1)) (by simp;omega);simp only [List.length_map] at y;have g : ((keys.map (q34 (keyL p l))).map (·.At)) = keys:=by rw [List.map_map];exact List.map_id _
  have b : (asc (keys.map (q34 (keyL p l)))).map (·.1) = keys:=by simp [asc,q34,Function.comp_def]
  have n : ∀ k v,(k,v)∈asc (keys.map (q34 (keyL p l)))→v = uniS (Yc (keyL p l) k):=by
    intro k v h;simp only [asc,List.map_map,List.mem_map,Function.comp,Prod.mk.injEq] at h;obtain ⟨a,_,rfl,rfl⟩:=h;rfl
  have j : ∀ k,Uni (Yc (keyL p l) k) (uniS (Yc (keyL p l) k)):=fun k=>(qnz (by have:=q2m (L:=keyL p l) (k:=k);omega) (fun t c=>qk6 d _ _ (q44.1 c))).2;refine ⟨keys.map (q34 (keyL p l)),?_,⟨?_,fun k v h=>?_,fun k v h=>?_,fun k v h x=>?_,fun k x h=>?_,?_,fun k h=>?_⟩,by rw [g];exact m⟩
  · unfold q6e;rw [qtb l p o];simp only [qo,u,qtc l p o d keys m q8]
  · rw [b];exact m.imp fun h e=>by omega
  · rw [n k v h];exact (j k).good
  · rw [n k v h];have:=(j k).len;have:=q2m (L:=keyL p l) (k:=k);omega
  · rw [n k v h,(j k).pts,qjx]
  · rw [b,r];obtain ⟨q,w,rfl,_⟩:=h;exact List.mem_map_of_mem (f:=(·.1)) w
  · simp [asc];omega
  · rw [b,r] at h;obtain ⟨⟨a,t⟩,c,rfl⟩:=List.mem_map.1 h;cases p
    · exact qim d _ _ c
    · exact qmw d _ _ c
end Go.Sh
namespace Go.Sh
open Go Go.Am
open Classical
def q46 (e n w s : Bool) : Bool:=(e || n || w || s) && !(e && !n && w && !s) && !(!e && n && !w && s)
noncomputable def arB (F G : Int→Int→Prop) (x y : Int) : Bool × Bool × Bool × Bool:=(decide (F y x),decide (G x y),decide (F y (x - 1)),decide (G x (y - 1)))
def Yb (F G : Int→Int→Prop) (x y : Int) : Prop:=q46 (decide (F y x)) (decide (G x y)) (decide (F y (x - 1))) (decide (G x (y - 1))) = true
def PtB (p : qc) : Prop:=-1000000≤p.X∧p.X≤1000000∧-1000000≤p.Y∧p.Y≤1000000
section
variable {F G : Int→Int→Prop}
theorem qhy {r : Yd} (b : Rep r.rows_ F) (a : Rep r.columns_ G) {p : qc} (hp : PtB p) : q7c r p = some (arB F G p.X p.Y):=by
  obtain ⟨d,g,j,c⟩:=hp;unfold q7c arB;have f:=b.getlen p.Y;have h:=a.getlen p.X;rw [Qb q8,Qb q8,q5l _ _ q8,q5l _ _ q8,q5l _ _ q8,q5l _ _ q8];simp only [qo,decide_eq_decide.2 (b.get _ _),decide_eq_decide.2 (a.get _ _)]
theorem qu6 {r : Yd} (f : Rep r.rows_ F) (g : Rep r.columns_ G) {p : qc} (hp : PtB p) : qbp r p = some (decide (Yb F G p.X p.Y)):=by
  unfold qbp;rw [qhy f g hp];simp only [qo,arB]
  have e : decide (Yb F G p.X p.Y) = q46 (decide (F p.Y p.X)) (decide (G p.X p.Y)) (decide (F p.Y (p.X - 1))) (decide (G p.X (p.Y - 1))):=by
    unfold Yb;cases q46 (decide (F p.Y p.X)) (decide (G p.X p.Y)) (decide (F p.Y (p.X - 1))) (decide (G p.X (p.Y - 1))) <;> simp
  rw [e];generalize decide (F p.Y p.X) = a;generalize decide (G p.X p.Y) = b;generalize decide (F p.Y (p.X - 1)) = c;generalize decide (G p.X (p.Y - 1)) = d;revert a b c d;decide
theorem qyn {L : List Kb} {i : Nat} (hi : i < L.length) (x : Int) (p : (L[i]).Spans.length≤800) : loop (q39 L (i : Int) x) 0 = some (if has (L[i]).Spans x then .inr true else .inl ()):=by
  have:=Ky (f:=q39 L (i : Int) x) (σ:=Unit) (fun k _=>(k : Int)) (L[i]).Spans.length (fun k _=>∀ j (h : j < (L[i]).Spans.length),j < k→¬ ((L[i]).Spans[j].Lo≤x∧x < (L[i]).Spans[j].Hi)) (fun c=>c = if has (L[i]).Spans x then .inr true else .inl ()) ?_ ?_ (k0:=0) (c0:=()) q8 (fun j h o=>q8)
  · obtain ⟨b,a,rfl⟩:=this;exact a
  · rintro k _ hk h;have hb : decide ((k : Int) < ((L[i]).Spans.length : Int)) = true:=Q4 q8;by_cases d : (L[i]).Spans[k].Lo≤x∧x < (L[i]).Spans[k].Hi
    · refine .inr ⟨.inr true,?_,?_⟩
      · simp only [q39,K0 hi,qo,hb,Q7,K0 hk,Q4 d.1,Q4 d.2]
      · rw [qx ⟨_,Ks hk,d⟩]
    · refine .inl ⟨(),?_,fun j g n=>?_⟩
      · simp only [q39,K0 hi,qo,hb,Q7,K0 hk];rw [Qb q8];by_cases a : (L[i]).Spans[k].Lo≤x
        · simp only [Q4 a,Q7,qo,Q9 (fun l=>d ⟨a,l⟩),Q5];rfl
        · simp only [Q9 a,Q5,qo];rfl
      · by_cases e : j = k
        · subst e;exact d
        · exact h j g q8
  · rintro _ h;have hb : decide (((L[i]).Spans.length : Int) < ((L[i]).Spans.length : Int)) = false:=Q9 q8;refine ⟨.inl (),by simp only [q39,K0 hi,qo,hb,Q5],?_⟩;rw [qw];rintro ⟨t,m,a⟩;obtain ⟨j,g,rfl⟩:=List.mem_iff_getElem.1 m;exact h j g g a
theorem qca {L : List Kb} {i : Nat} (hi : i < L.length) : (L[i].At,L[i].Spans)∈asc L:=List.mem_map.2 ⟨_,Ks hi,rfl⟩
theorem qdn {L : List Kb} (h : Rep (asc L) F) (k x : Int) : q37 L k x = some (decide (F k x)):=by
  have r : L.length≤400:=by have:=h.cnt;simpa [asc] using this
  have:=Ky (f:=q38 L k x) (σ:=Unit) (fun j _=>(j : Int)) L.length (fun j _=>∀ i (hi : i < L.length),i < j→L[i].At = k→¬ F k x) (fun c=>c = if F k x then .inr true else .inl ()) ?_ ?_ (k0:=0) (c0:=()) q8 (fun j h u=>q8)
  · obtain ⟨b,n,rfl⟩:=this;have n : loop (q38 L k x) 0 = some (if F k x then .inr true else .inl ()):=n;unfold q37;rw [n];by_cases d : F k x
    · simp [d]
    · simp [d]
  · rintro j _ g o;have hb : decide ((j : Int) < (L.length : Int)) = true:=Q4 q8;by_cases e : L[j].At = k
    · have q : (L[j].At != k) = false:=by simp [e]
      have hs:=h.pts _ _ (qca g) x;rw [e] at hs;simp only [q38,hb,Q7,K0 g,qo,q,Q5,qyn g x (h.len _ _ (qca g))];by_cases d : F k x
      · refine .inr ⟨.inr true,?_,by rw [qx d]⟩;rw [qx (hs.2 d)];rfl
      · refine .inl ⟨(),?_,fun i hi p m=>?_⟩
        · rw [qw (fun n=>d (hs.1 n)),Qb q8];rfl
        · exact d
    · have q : (L[j].At != k) = true:=by simp [e]
      refine .inl ⟨(),?_,fun i hi p m=>?_⟩
      · simp only [q38,hb,Q7,K0 g,qo,q];rw [Qb q8];rfl
      · by_cases O : i = j
        · subst O;exact absurd m e
        · exact o i hi q8 m
  · rintro _ o;have hb : decide ((L.length : Int) < (L.length : Int)) = false:=Q9 q8;refine ⟨.inl (),by simp only [q38,hb,Q5],?_⟩;rw [qw];intro d;obtain ⟨⟨a,v⟩,t,rfl⟩:=List.mem_map.1 (h.all _ _ d);obtain ⟨l,s,m⟩:=List.mem_map.1 t;obtain ⟨i,hi,rfl⟩:=List.mem_iff_getElem.1 s;cases m;exact o i hi hi rfl d
theorem qme {L M : List Kb} (b : Rep (asc L) F) (a : Rep (asc M) G) {p : qc} (hp : PtB p) : q67 L M p = some (arB F G p.X p.Y):=by
  obtain ⟨d,f,g,c⟩:=hp;unfold q67 arB;rw [Qb q8,Qb q8,qdn b,qdn a,qdn b,qdn a];rfl
theorem qss {L M : List Kb} (f : Rep (asc L) F) (g : Rep (asc M) G) {p : qc} (hp : PtB p) : q2h L M p = some (decide (Yb F G p.X p.Y)):=by
  unfold q2h;rw [qme f g hp];simp only [qo,arB]
  have e : decide (Yb F G p.X p.Y) = q46 (decide (F p.Y p.X)) (decide (G p.X p.Y)) (decide (F p.Y (p.X - 1))) (decide (G p.X (p.Y - 1))):=by
    unfold Yb;cases q46 (decide (F p.Y p.X)) (decide (G p.X p.Y)) (decide (F p.Y (p.X - 1))) (decide (G p.X (p.Y - 1))) <;> simp
  rw [e];generalize decide (F p.Y p.X) = a;generalize decide (G p.X p.Y) = b;generalize decide (F p.Y (p.X - 1)) = c;generalize decide (G p.X (p.Y - 1)) = d;revert a b c d;decide
theorem qeh {s : List qj} (b : Can s) (x : Int) : (∃ t∈s,t.Lo = x)↔has s x∧¬ has s (x - 1):=by
  constructor
  · rintro ⟨t,a,rfl⟩;have:=b.1 t a;refine ⟨⟨t,a,q8,q8⟩,?_⟩;rintro ⟨u,g,f,d⟩;obtain ⟨i,hi,rfl⟩:=List.mem_iff_getElem.1 a;obtain ⟨j,c,rfl⟩:=List.mem_iff_getElem.1 g;rcases Nat.lt_trichotomy i j with h | h | h
    · have:=List.pairwise_iff_getElem.1 b.2 i j hi c h;omega
    · subst h;omega
    · have:=List.pairwise_iff_getElem.1 b.2 j i c hi h;omega
  · rintro ⟨⟨t,a,f,d⟩,k⟩;refine ⟨t,a,?_⟩;by_cases e : t.Lo = x
    · exact e
    · exact absurd ⟨t,a,q8,q8⟩ k
theorem qi4 {s : List qj} (b : Can s) (x : Int) : (∃ t∈s,t.Hi = x)↔¬ has s x∧has s (x - 1):=by
  constructor
  · rintro ⟨t,a,rfl⟩;have:=b.1 t a;refine ⟨?_,⟨t,a,q8,q8⟩⟩;rintro ⟨u,g,f,d⟩;obtain ⟨i,hi,rfl⟩:=List.mem_iff_getElem.1 a;obtain ⟨j,c,rfl⟩:=List.mem_iff_getElem.1 g;rcases Nat.lt_trichotomy i j with h | h | h
    · have:=List.pairwise_iff_getElem.1 b.2 i j hi c h;omega
    · subst h;omega
    · have:=List.pairwise_iff_getElem.1 b.2 j i c hi h;omega
  · rintro ⟨k,⟨t,a,f,d⟩⟩;refine ⟨t,a,?_⟩;by_cases e : t.Hi = x
    · exact e
    · exact absurd ⟨t,a,q8,q8⟩ k
end
end Go.Sh
namespace Go.Sh
open Go Go.Am
theorem qxa : qbm = q41:=rfl
theorem qwb : q2b = q2z:=by
  funext p0;simp only [q2b,q2z,qxa]
  all_goals exact Qn
theorem qlz : U3 = q19:=by
  funext p0;simp only [U3,q19,qwb]
  all_goals exact Qn
theorem qwn : Uv = q26:=by
  funext p0;simp only [Uv,q26,qlz]
  all_goals exact Qn
theorem qxb : Uw = q29:=by
  funext p0;simp only [Uw,q29]
  all_goals exact Qn
theorem qwl : q9x = Jv:=by
  funext p1 q1 a459;simp only [q9x,Jv]
  all_goals exact Qn
theorem qwk : q9w = q1d:=by
  funext p2 p1 q1 a278;simp only [q9w,q1d,qwl]
  all_goals exact Qn
theorem qwj : q9v = q25:=by
  funext q1 p0 p1 p2;simp only [q9v,q25,qwk]
  all_goals exact Qn
theorem qx9 : qbb = Jz:=by
  funext p2 p3 q1 a197;simp only [qbb,Jz]
  all_goals exact Qn
theorem qm1 : q76 = Un:=by
  funext q1 p0 p1 p2 p3;simp only [q76,Un,qx9]
  all_goals exact Qn
theorem qwh : q9n = q1b:=by
  funext q1 p2 p1 a123;simp only [q9n,q1b,qm1]
  all_goals exact Qn
theorem qwi : q9o = q1c:=by
  funext p1 q1 a191;simp only [q9o,q1c,qm1]
  all_goals exact Qn
theorem qwg : q9m = q24:=by
  funext q1 p0 p1 p2;simp only [q9m,q24,qwh,qwi]
  all_goals exact Qn
theorem qwo : q4w = Ui:=by
  funext q1 p0 p1 p2 p3;simp only [q4w,Ui]
  all_goals exact Qn
theorem qm0 : q6o = Uh:=by
  funext q1 p0 p1 p2 p3 p4;simp only [q6o,Uh,qwo]
  all_goals exact Qn
theorem qwm : q4t = Jw:=by
  funext q1 p0 p1 p2;simp only [q4t,Jw,qm0]
  all_goals exact Qn
theorem qwf : q9h = q23:=by
  funext p0 p1 p2 p3;simp only [q9h,q23,qm0,qwm]
  all_goals exact Qn
theorem qx8 : qb7 = q1j:=by
  funext a119;simp only [qb7,q1j]
  all_goals exact Qn
theorem qx7 : qb6 = q1i:=by
  funext q1 p0 p1 p2;simp only [qb6,q1i,qx8]
  all_goals exact Qn
theorem qwr : qa4 = Uj:=by
  funext p2 a438 q1 a681;simp only [qa4,Uj]
  all_goals exact Qn
theorem qws : qa5 = Jx:=by
  funext q1 a838;simp only [qa5,Jx]
  all_goals exact Qn
theorem qwt : qa6 = Uk:=by
  funext p2 q1 b684 a928;simp only [qa6,Uk]
  all_goals exact Qn
theorem qwq : q6t = Zu:=by
  funext p2 q1 p1 a438;have a : @q6t.match_1.{1} = @Zu.match_1.{1} qc:=by funext motive m f g;cases m <;> rfl
  unfold q6t Zu;rw [a];simp only [qwr,qws,qwt]
theorem qwp : q6s = Jk:=by
  funext q1 p0 p1 p2;have a : @q6s.match_1.{1} = @Jk.match_1.{1} qc:=by funext motive m f g;cases m <;> rfl
  unfold q6s Jk;rw [a];simp only [qwq]
theorem qwx : qay = Ul:=by
  funext a318 p1 q1 a378;simp only [qay,Ul]
  all_goals exact Qn
theorem qwy : qaz = Um:=by
  funext b381 a318 p1 q1 a463;simp only [qaz,Um]
  all_goals exact Qn
theorem qww : qax = q1g:=by
  funext p1 q1 a318;simp only [qax,q1g,qwx,qwy]
  all_goals exact Qn
theorem qwv : qaw = q1f:=by
  funext q1 p0 p1 p2 p3;simp only [qaw,q1f,qww]
  all_goals exact Qn
theorem qwz : qah = q27:=by
  funext p2 p0 p1 v101 p3 v103 q1 a163;simp only [qah,q27]
  all_goals exact Qn
theorem qx0 : qai = q28:=by
  funext b166 p0 p1 v101 p3 v103 q1 a249;simp only [qai,q28]
  all_goals exact Qn
theorem qx2 : qak = J9:=by
  funext a514 p1 q1 a572;simp only [qak,J9]
  all_goals exact Qn
theorem qx3 : qal = Ja:=by
  funext b575 a514 p1 q1 a658;simp only [qal,Ja]
  all_goals exact Qn
theorem qx1 : qaj = q1h:=by
  funext p1 q1 a514;simp only [qaj,q1h,qx2,qx3]
  all_goals exact Qn
theorem qwu : qag = q1e:=by
  funext q1 p0 p1 p2 p3;simp only [qag,q1e,qwz,qx0,qx1]
  all_goals exact Qn
theorem qwe : q9d = Ug:=by
  funext p1 p2 r101 a153;simp only [q9d,Ug,qxb]
  all_goals exact Qn
theorem qwd : q9c = q1a:=by
  funext q1 p0 p1 p2;simp only [q9c,q1a,qwn,qwe]
  all_goals exact Qn
theorem qx5 : q70 = Zh:=by
  funext q1 rec a412;have a : @q70.match_1.{1} = @Zh.match_1.{1} qc:=by funext motive m f g;cases m <;> rfl
  unfold q70 Zh;rw [a];simp only [qwj,qwg,qwf,qx7,qwp,qwv,qwu,qwd]
theorem qx6 : q71 = Jy:=by
  funext rec q1 p0 p1 p2 p3;simp only [q71,Jy,qx5]
  all_goals exact Qn
theorem qx4 : ∀ N q,q6z N q = Zc N q:=by
  intro N q
  induction N with
  | zero=>rfl
  | succ N ih=>
    funext a b c d;show q71 (q6z N q) q a b c d = Jy (Zc N q) q a b c d;rw [ih,qx6]
theorem qwc : q6l = q22:=by
  funext q1 p0;simp only [q6l,q22,qlz,qx4]
  all_goals exact Qn
end Go.Sh
namespace Go.Sh
open Go Go.Am
theorem qrb : qbm = q41:=rfl
theorem qqc : q2b = q2z:=by
  funext p0;simp only [q2b,q2z,qrb]
  all_goals exact Qn
theorem qiv : U3 = q19:=by
  funext p0;simp only [U3,q19,qqc]
  all_goals exact Qn
theorem qqo : Uv = q26:=by
  funext p0;simp only [Uv,q26,qiv]
  all_goals exact Qn
theorem qrc : Uw = q29:=by
  funext p0;simp only [Uw,q29]
  all_goals exact Qn
theorem qqm : q9u = Jv:=by
  funext p1 q1 a459;simp only [q9u,Jv]
  all_goals exact Qn
theorem qql : q9t = q1d:=by
  funext p2 p1 q1 a278;simp only [q9t,q1d,qqm]
  all_goals exact Qn
theorem qqk : q9s = q25:=by
  funext q1 p0 p1 p2;simp only [q9s,q25,qql]
  all_goals exact Qn
theorem qra : qba = Jz:=by
  funext p2 p3 q1 a197;simp only [qba,Jz]
  all_goals exact Qn
theorem qix : q75 = Un:=by
  funext q1 p0 p1 p2 p3;simp only [q75,Un,qra]
  all_goals exact Qn
theorem qqi : q9k = q1b:=by
  funext q1 p2 p1 a123;simp only [q9k,q1b,qix]
  all_goals exact Qn
theorem qqj : q9l = q1c:=by
  funext p1 q1 a191;simp only [q9l,q1c,qix]
  all_goals exact Qn
theorem qqh : q9j = q24:=by
  funext q1 p0 p1 p2;simp only [q9j,q24,qqi,qqj]
  all_goals exact Qn
theorem qqp : q4v = Ui:=by
  funext q1 p0 p1 p2 p3;simp only [q4v,Ui]
  all_goals exact Qn
theorem qiw : q6n = Uh:=by
  funext q1 p0 p1 p2 p3 p4;simp only [q6n,Uh,qqp]
  all_goals exact Qn
theorem qqn : q4s = Jw:=by
  funext q1 p0 p1 p2;simp only [q4s,Jw,qiw]
  all_goals exact Qn
theorem qqg : q9g = q23:=by
  funext p0 p1 p2 p3;simp only [q9g,q23,qiw,qqn]
  all_goals exact Qn
theorem qr9 : qb5 = q1j:=by
  funext a119;simp only [qb5,q1j]
  all_goals exact Qn
theorem qr8 : qb4 = q1i:=by
  funext q1 p0 p1 p2;simp only [qb4,q1i,qr9]
  all_goals exact Qn
theorem qqs : qa1 = Uj:=by
  funext p2 a438 q1 a681;simp only [qa1,Uj]
  all_goals exact Qn
theorem qqt : qa2 = Jx:=by
  funext q1 a838;simp only [qa2,Jx]
  all_goals exact Qn
theorem qqu : qa3 = Uk:=by
  funext p2 q1 b684 a928;simp only [qa3,Uk]
  all_goals exact Qn
theorem qqr : q6r = Zu:=by
  funext p2 q1 p1 a438;have a : @q6r.match_1.{1} = @Zu.match_1.{1} qm:=by funext motive m f g;cases m <;> rfl
  unfold q6r Zu;rw [a];simp only [qqs,qqt,qqu]
theorem qqq : q6q = Jk:=by
  funext q1 p0 p1 p2;have a : @q6q.match_1.{1} = @Jk.match_1.{1} qm:=by funext motive m f g;cases m <;> rfl
  unfold q6q Jk;rw [a];simp only [qqr]
theorem qqy : qau = Ul:=by
  funext a318 p1 q1 a378;simp only [qau,Ul]
  all_goals exact Qn
theorem qqz : qav = Um:=by
  funext b381 a318 p1 q1 a463;simp only [qav,Um]
  all_goals exact Qn
theorem qqx : qat = q1g:=by
  funext p1 q1 a318;simp only [qat,q1g,qqy,qqz]
  all_goals exact Qn
theorem qqw : qas = q1f:=by
  funext q1 p0 p1 p2 p3;simp only [qas,q1f,qqx]
  all_goals exact Qn
theorem qr0 : qab = q27:=by
  funext p2 p0 p1 v101 p3 v103 q1 a163;simp only [qab,q27]
  all_goals exact Qn
theorem qr1 : qac = q28:=by
  funext b166 p0 p1 v101 p3 v103 q1 a249;simp only [qac,q28]
  all_goals exact Qn
theorem qr3 : qae = J9:=by
  funext a514 p1 q1 a572;simp only [qae,J9]
  all_goals exact Qn
theorem qr4 : qaf = Ja:=by
  funext b575 a514 p1 q1 a658;simp only [qaf,Ja]
  all_goals exact Qn
theorem qr2 : qad = q1h:=by
  funext p1 q1 a514;simp only [qad,q1h,qr3,qr4]
  all_goals exact Qn
theorem qqv : qaa = q1e:=by
  funext q1 p0 p1 p2 p3;simp only [qaa,q1e,qr0,qr1,qr2]
  all_goals exact Qn
theorem qqf : q9b = Ug:=by
  funext p1 p2 r101 a153;simp only [q9b,Ug,qrc]
  all_goals exact Qn
theorem qqe : q9a = q1a:=by
  funext q1 p0 p1 p2;simp only [q9a,q1a,qqo,qqf]
  all_goals exact Qn
theorem qr6 : q6x = Zh:=by
  funext q1 rec a412;have a : @q6x.match_1.{1} = @Zh.match_1.{1} qm:=by funext motive m f g;cases m <;> rfl
  unfold q6x Zh;rw [a];simp only [qqk,qqh,qqg,qr8,qqq,qqw,qqv,qqe]
theorem qr7 : q6y = Jy:=by
  funext rec q1 p0 p1 p2 p3;simp only [q6y,Jy,qr6]
  all_goals exact Qn
theorem qr5 : ∀ N q,q6w N q = Zc N q:=by
  intro N q
  induction N with
  | zero=>rfl
  | succ N ih=>
    funext a b c d;show q6y (q6w N q) q a b c d = Jy (Zc N q) q a b c d;rw [ih,qr7]
theorem qqd : q4r = q22:=by
  funext q1 p0;simp only [q4r,q22,qiv,qr5]
  all_goals exact Qn
end Go.Sh
namespace Go.Sh
open Go Go.Am
theorem qdx {α : Type} {lt : α→α→Prop} (hs : ∀ a b,lt a b→¬ lt b a) : ∀ {s t : List α},s.Pairwise lt→t.Pairwise lt→(∀ x,x∈s↔x∈t)→s = t
  | [],[],_,_,_=>rfl
  | [],b::t,_,_,h=>by have:=(h b).2 qe;cases this
  | a::s,[],_,_,h=>by have:=(h a).1 qe;cases this
  | a::s,b::t,h1,h2,h=>by
    rw [List.pairwise_cons] at h1 h2
    have e : a = b:=by
      rcases List.mem_cons.1 ((h a).1 qe) with e | e
      · exact e
      · rcases List.mem_cons.1 ((h b).2 qe) with d | d
        · exact d.symm
        · exact absurd (h1.1 b d) (hs _ _ (h2.1 a e))
    subst e
    congr 1
    refine qdx hs h1.2 h2.2 fun x=>⟨fun c=>?_,fun c=>?_⟩
    · rcases List.mem_cons.1 ((h x).1 (by simp [c])) with rfl | e
      · exact absurd (h1.1 x c) (hs _ _ (h1.1 x c))
      · exact e
    · rcases List.mem_cons.1 ((h x).2 (by simp [c])) with rfl | e
      · exact absurd (h2.1 x c) (hs _ _ (h2.1 x c))
      · exact e
def ltP (a b : qc) : Prop:=a.X < b.X∨(a.X = b.X∧a.Y < b.Y)
instance (a b : qc) : Decidable (ltP a b):=by unfold ltP;exact inferInstance
theorem q43 (a b : qc) : ltP a b→¬ ltP b a:=by unfold ltP;omega
theorem qfm {a b : qc} (h : ¬ ltP a b) (d : a≠b) : ltP b a:=by
  obtain ⟨f,j⟩:=a;obtain ⟨bx,c⟩:=b;have : ¬ (f = bx∧j = c):=fun ⟨g,h3⟩=>d (by rw [g,h3]);unfold ltP at *;simp only at *;omega
theorem swoP : Sort.SWO (fun a b=>decide (ltP a b)) where
  irrefl:=by intro x;simp only [decide_eq_false_iff_not,ltP];omega
  trans:=by
    intro x y z d c;have d:=of_decide_eq_true d;have c:=of_decide_eq_true c;exact Q4 (by unfold ltP at *;omega)
  ntrans:=by
    intro x y z d c;have d:=of_decide_eq_false d;have c:=of_decide_eq_false c;exact Q9 (by unfold ltP at *;omega)
instance : Inhabited qc:=⟨⟨0,0⟩⟩
instance : Inhabited qm:=⟨⟨0,0⟩⟩
theorem qin {x y : qc} (c : PtB x) (b : PtB y) : ∃ n : Int,q1t x y = some n∧decide (n < 0) = decide (ltP x y):=by
  obtain ⟨f,g,j,d⟩:=c;obtain ⟨b1,b2,k,h⟩:=b;unfold q1t ltP;by_cases e : x.X = y.X
  · have a : (x.X != y.X) = false:=by simp [e]
    rw [a,Q5,Qb q8];exact ⟨_,rfl,decide_eq_decide.2 q8⟩
  · have a : (x.X != y.X) = true:=by simp [e]
    rw [a,Q7,Qb q8];exact ⟨_,rfl,decide_eq_decide.2 q8⟩
theorem q11e (xs : List qc) (l : xs.length≤1000000) (hb : ∀ p∈xs,PtB p) (q : xs.Nodup) : ∃ ys,q6l (fun c f=>q1t c f) xs = some ys∧ys.Perm xs∧ys.Pairwise ltP:=by
  have cmp : Y9 (fun c f=>q1t c f) (fun a b=>decide (ltP a b)) PtB:=by
    intro x y o m;exact qin o m
  obtain ⟨ys,j,g,n⟩:=qh3 cmp swoP xs l hb;refine ⟨ys,by rw [qwc];exact j,g,?_⟩;have d:=(g.nodup_iff).2 q;refine (n.and d).imp ?_;rintro a b ⟨h,k⟩;exact qfm (of_decide_eq_false h) (fun e=>k e.symm)
def eP2 (e : qm) : qc:={X:=e.A,Y:=e.B}
def ltG (a b : qm) : Prop:=ltP (eP2 a) (eP2 b)
theorem qtk (a b : qm) : ltG a b→¬ ltG b a:=q43 _ _
theorem q11d (xs : List qm) (k : xs.length≤1000000) (hb : ∀ p∈xs,PtB (eP2 p)) (q : xs.Nodup) : ∃ ys,q4r (fun f j=>q2p f j) xs = some ys∧ys.Perm xs∧ys.Pairwise ltG:=by
  have cmp : Y9 (fun f j=>q2p f j) (fun a b=>decide (ltP (eP2 a) (eP2 b))) (fun e=>PtB (eP2 e)):=by
    intro x y o l;obtain ⟨n,c,d⟩:=qin o l;refine ⟨n,?_,d⟩;show q2p x y = _;unfold q2p;have c : q1t {X:=x.A,Y:=x.B} {X:=y.A,Y:=y.B} = some n:=c;rw [c];rfl
  have h : Sort.SWO (fun a b : qm=>decide (ltP (eP2 a) (eP2 b))):=⟨fun x=>swoP.irrefl (eP2 x),fun x y z=>swoP.trans (eP2 x) (eP2 y) (eP2 z),fun x y z=>swoP.ntrans (eP2 x) (eP2 y) (eP2 z)⟩
  obtain ⟨ys,c,d,m⟩:=qh3 cmp h xs k hb;refine ⟨ys,by rw [qqd];exact c,d,?_⟩;have g:=(d.nodup_iff).2 q;refine (m.and g).imp ?_;rintro ⟨t,u⟩ ⟨b1,b2⟩ ⟨r,s⟩;refine qfm (of_decide_eq_false r) (fun e=>s ?_);simp only [eP2,qc.mk.injEq] at e;rw [e.1,e.2]
structure KS (a : List (qc × Bool)) (S : qc→Prop) : Prop where
  nd : (a.map (·.1)).Nodup
  val : ∀ e∈a,e.2 = true
  mem : ∀ p,p∈a.map (·.1)↔S p
theorem KS.nil : KS [] (fun _=>False):=⟨.nil,fun e h=>(by cases h),fun p=>qe⟩
theorem KS.put {a : List (qc × Bool)} {S : qc→Prop} (h : KS a S) (p : qc) : KS (Ke p true a) (fun q=>S q∨q = p):=by
  refine ⟨qfx h.nd,?_,fun q=>?_⟩
  · rintro ⟨q,b⟩ c;rcases (qfp h.nd q b).1 c with ⟨_,rfl⟩ | ⟨_,c⟩
    · rfl
    · exact h.val _ c
  · rw [q8j,h.mem];exact or_comm
theorem KS.congr {a : List (qc × Bool)} {S T : qc→Prop} (h : KS a S) (e : ∀ p,S p↔T p) : KS a T:=⟨h.nd,h.val,fun p=>(h.mem p).trans (e p)⟩
theorem KS.perm {a b : List (qc × Bool)} {S : qc→Prop} (h : KS a S) (c : KS b S) : a.Perm b:=by
  have o : a.Nodup:=(List.pairwise_map.1 h.nd).imp fun h e=>h (by rw [e]);have n : b.Nodup:=(List.pairwise_map.1 c.nd).imp fun h e=>h (by rw [e]);rw [List.perm_ext_iff_of_nodup o n];rintro ⟨p,v⟩
  have key : ∀ {x y : List (qc × Bool)},KS x S→KS y S→(p,v)∈x→(p,v)∈y:=by
    intro x y k j l;have m:=k.val _ l;obtain ⟨⟨q,w⟩,d,e⟩:=List.mem_map.1 ((j.mem p).2 ((k.mem p).1 (List.mem_map_of_mem (f:=(·.1)) l)));have g:=j.val _ d;simp only at m g e;rw [m];rw [← g,← e];exact d
  exact ⟨key h c,key c h⟩
theorem KS.le {a b : List (qc × Bool)} {S T : qc→Prop} (h : KS a S) (d : KS b T) (c : ∀ p,S p→T p) : a.length≤b.length:=by
  have:=List.Nodup.length_le_of_subset h.nd (l₂:=b.map (·.1)) fun p hp=>(d.mem p).2 (c p ((h.mem p).1 hp));simpa using this
theorem q5r {α ε ρ : Type} {R : α→ε→Option (α ⊕ ρ)} {a a' : α} {e : ε} {l : List ε} (h : R a e = some (.inl a')) : Kt R (e::l) a = Kt R l a':=by simp only [Kt,h]
theorem qt7 {α ε ρ : Type} {R : α→ε→Option (α ⊕ ρ)} {a : α} {x : ρ} {e : ε} {l : List ε} (h : R a e = some (.inr x)) : Kt R (e::l) a = some (.inr x):=by simp only [Kt,h]
end Go.Sh
namespace Go.Sh
open Go Go.Am
open Classical
theorem qg8 {α ε ρ : Type} {E : α→α→Prop} {R : α→ε→Option (α ⊕ ρ)} {es : List ε} {a : α} (h : ∀ l : List ε,l.Perm es→∃ m b,Kt R es a = some m∧Kt R l a = some b∧MEq E b m) : Ut E R es a = some ():=by
  unfold Ut;rw [qx h]
theorem q10a {ε β : Type} {F : List ε→Option β} {es : List ε} (h : ∀ l : List ε,l.Perm es→F l = F es) : q4q F es = some ():=by
  unfold q4q;rw [qx h]
section
variable {F G : Int→Int→Prop} {r : Yd}
def Jo (F G : Int→Int→Prop) (y : Int) (t : qj) (p : qc) : Prop:=p.Y = y∧(((p.X = t.Lo∨p.X = t.Hi)∧Yb F G p.X p.Y)∨(t.Lo < p.X∧p.X < t.Hi∧(G p.X y∨G p.X (y - 1))))
def q7p (F G : Int→Int→Prop) (x : Int) (t : qj) (p : qc) : Prop:=p.X = x∧(p.Y = t.Lo∨p.Y = t.Hi)∧Yb F G p.X p.Y
theorem qob (j : Rep r.columns_ G) {t : qj} {y : Int} {w : List qj} (m : -1000000≤y∧y≤1000000) {c : Int × List qj} (k : c∈r.columns_) (a : List (qc × Bool)) :
    q3m t (y,w) a c = some (.inl (if t.Lo < c.1∧c.1 < t.Hi∧(G c.1 y∨G c.1 (y - 1)) then Ke ({X:=c.1,Y:=y} : qc) true a else a)):=by
  obtain ⟨x,h⟩:=c;have l:=j.len x h k;have hp:=j.pts x h k;unfold q3m;simp only;by_cases b : t.Lo < x
  · rw [Q4 (show x > t.Lo from b),Q7,qo];by_cases d : x < t.Hi
    · rw [Q4 d,Q7,q5l _ _ q8,qo,Qb q8,q5l _ _ q8];rw [decide_eq_decide.2 (hp y),decide_eq_decide.2 (hp (y - 1))];by_cases g : G x y
      · rw [Q4 g];simp [b,d,g]
      · rw [Q9 g];by_cases f : G x (y - 1)
        · rw [Q4 f];simp [b,d,f]
        · rw [Q9 f];simp [b,d,g,f]
    · rw [Q9 d];simp [d]
  · rw [Q9 (show ¬ x > t.Lo from b)];simp [b]
theorem q7j (f : Rep r.columns_ G) {t : qj} {y : Int} {w : List qj} (g : -1000000≤y∧y≤1000000) : ∀ (l : List (Int × List qj)),(∀ c∈l,c∈r.columns_)→∀ {a : List (qc × Bool)} {S : qc→Prop},KS a S→
    ∃ a',Kt (q3m t (y,w)) l a = some (.inl a')∧KS a' (fun p=>S p∨∃ c∈l,p = {X:=c.1,Y:=y}∧t.Lo < c.1∧c.1 < t.Hi∧(G c.1 y∨G c.1 (y - 1)))
  | [],_,a,S,h=>⟨a,rfl,h.congr fun p=>qe⟩
  | c::l,hl,a,S,h=>by
    have hs:=qob f (t:=t) (w:=w) g (hl c qe) a
    by_cases b : t.Lo < c.1∧c.1 < t.Hi∧(G c.1 y∨G c.1 (y - 1))
    · rw [qx b] at hs
      obtain ⟨a',e1,j⟩:=q7j f g l (fun d hd=>hl d (by simp [hd])) (h.put {X:=c.1,Y:=y})
      refine ⟨a',by rw [q5r hs];exact e1,j.congr fun p=>?_⟩
      constructor
      · rintro ((h | h) | ⟨d,hd,h⟩)
        · exact .inl h
        · exact .inr ⟨c,qe,h,b⟩
        · exact .inr ⟨d,by simp [hd],h⟩
      · rintro (h | ⟨d,hd,h⟩)
        · exact .inl (.inl h)
        · rcases List.mem_cons.1 hd with rfl | hd
          · exact .inl (.inr h.1)
          · exact .inr ⟨d,hd,h⟩
    · rw [qw b] at hs
      obtain ⟨a',e1,j⟩:=q7j f g l (fun d hd=>hl d (by simp [hd])) h
      refine ⟨a',by rw [q5r hs];exact e1,j.congr fun p=>?_⟩
      constructor
      · rintro (h | ⟨d,hd,h⟩)
        · exact .inl h
        · exact .inr ⟨d,by simp [hd],h⟩
      · rintro (h | ⟨d,hd,h⟩)
        · exact .inl h
        · rcases List.mem_cons.1 hd with rfl | hd
          · exact absurd h.2 b
          · exact .inr ⟨d,hd,h⟩
theorem qoc (f : Rep r.columns_ G) {t : qj} {y : Int} {w : List qj} (g : -1000000≤y∧y≤1000000) {a : List (qc × Bool)} {S : qc→Prop} (h : KS a S) : Ut (fun (x y : List (qc × Bool))=>List.Perm x y) (q3m t (y,w)) r.columns_ a = some ():=by
  refine qg8 fun l d=>?_;obtain ⟨n,e1,j⟩:=q7j f (t:=t) (w:=w) g r.columns_ (fun c b=>b) h;obtain ⟨o,k,m⟩:=q7j f (t:=t) (w:=w) g l (fun c b=>(d.mem_iff).1 b) h;refine ⟨_,_,e1,k,?_⟩;show o.Perm n;refine KS.perm (m.congr fun p=>?_) j;simp only [d.mem_iff]
theorem qdg (d : Rep r.rows_ F) (c : Rep r.columns_ G) {p : qc} (hp : PtB p) {a : List (qc × Bool)} {S : qc→Prop} (h : KS a S) :
    ∃ a',q3k p r.rows_ r.columns_ a = some a'∧KS a' (fun q=>S q∨(q = p∧Yb F G p.X p.Y))∧a'.length≤a.length + 1:=by
  unfold q3k;rw [qu6 (r:={rows_:=r.rows_,columns_:=r.columns_}) d c (p:={X:=p.X,Y:=p.Y}) hp,qo];by_cases b : Yb F G p.X p.Y
  · rw [Q4 b];exact ⟨_,rfl,(h.put p).congr fun q=>by simp [b],ql1⟩
  · rw [Q9 b];exact ⟨_,rfl,h.congr fun q=>by simp [b],q8⟩
theorem q11p (m : Rep r.rows_ F) (j : Rep r.columns_ G) {y : Int} {v : List qj} (u : (y,v)∈r.rows_) {k : Nat} (hk : k < v.length) {a : List (qc × Bool)} {S : qc→Prop} (h : KS a S) :
    ∃ a',KS a' (fun p=>S p∨Jo F G y v[k] p)∧q3l (y,v) r ((k : Int),a) = if 400 < a'.length then some (.inr (.inr ([],false))) else some (.inl (((k + 1 : Nat) : Int),a')):=by
  have g:=m.key y (List.mem_map_of_mem (f:=(·.1)) u);have hv:=(m.good y v u).1 _ (Ks hk);have hl:=m.len y v u;obtain ⟨v1,v2,v3⟩:=hv;have hb : decide ((k : Int) < (v.length : Int)) = true:=Q4 q8;obtain ⟨a1,e1,k1,_⟩:=qdg m j (p:={X:=(v[k]).Lo,Y:=y}) ⟨by simp only;omega,by simp only;omega,g.1,g.2⟩ h;obtain ⟨a2,e2,z,_⟩:=qdg m j (p:={X:=(v[k]).Hi,Y:=y}) ⟨by simp only;omega,by simp only;omega,g.1,g.2⟩ k1;obtain ⟨n,e3,k3⟩:=q7j j (t:=v[k]) (w:=v) g r.columns_ (fun c o=>o) z;have e4:=qoc j (t:=v[k]) (w:=v) g z;refine ⟨n,k3.congr fun p=>?_,?_⟩
  · unfold Jo;constructor
    · rintro (((h | ⟨rfl,h⟩) | ⟨rfl,h⟩) | ⟨c,o,rfl,s,q,d⟩)
      · exact .inl h
      · exact .inr ⟨rfl,.inl ⟨.inl rfl,h⟩⟩
      · exact .inr ⟨rfl,.inl ⟨.inr rfl,h⟩⟩
      · exact .inr ⟨rfl,.inr ⟨s,q,d⟩⟩
    · rintro (h | ⟨rfl,⟨h | h,x⟩ | ⟨s,q,d⟩⟩)
      · exact .inl (.inl (.inl h))
      · have : p = {X:=(v[k]).Lo,Y:=p.Y}:=by rw [← h]
        exact .inl (.inl (.inr ⟨this,by rw [← h];exact x⟩))
      · have : p = {X:=(v[k]).Hi,Y:=p.Y}:=by rw [← h]
        exact .inl (.inr ⟨this,by rw [← h];exact x⟩)
      · have l : p.X∈r.columns_.map (·.1):=by rcases d with d | d <;> exact j.all _ _ d
        obtain ⟨c,o,he⟩:=List.mem_map.1 l;refine .inr ⟨c,o,?_,?_⟩
        · rw [he]
        · rw [he];exact ⟨s,q,d⟩
  · simp only [q3l,hb,Q7,K0 hk,qo,e1,e2,e4,e3];by_cases b : 400 < n.length
    · rw [qx b,Q4 (show (n.length : Int) > 400 by omega),Q7]
    · rw [qw b,Q9 (show ¬ (n.length : Int) > 400 by omega),Q5,Qb q8];rfl
theorem qyz (x : Rep r.rows_ F) (s : Rep r.columns_ G) {y : Int} {v : List qj} (u : (y,v)∈r.rows_) {a : List (qc × Bool)} {S : qc→Prop} (h : KS a S) (w : a.length≤400) :
    (∃ a',Uy r a (y,v) = some (.inl a')∧KS a' (fun p=>S p∨∃ t∈v,Jo F G y t p)∧a'.length≤400)∨
    (Uy r a (y,v) = some (.inr ([],false))∧∃ b T,KS b T∧400 < b.length∧∀ p,T p→S p∨∃ t∈v,Jo F G y t p):=by
  have q : ∀ k (hk : k < v.length) p,(∃ t∈v.take (k + 1),Jo F G y t p)↔(∃ t∈v.take k,Jo F G y t p)∨Jo F G y v[k] p:=by
    intro k hk p;rw [List.take_succ_eq_append_getElem hk];constructor
    · rintro ⟨t,g,h⟩;rcases List.mem_append.1 g with g | g
      · exact .inl ⟨t,g,h⟩
      · rw [List.mem_singleton] at g;subst g;exact .inr h
    · rintro (⟨t,g,h⟩ | h)
      · exact ⟨t,List.mem_append_left _ g,h⟩
      · exact ⟨v[k],List.mem_append_right _ (List.mem_singleton.2 rfl),h⟩
  have:=Ky (f:=q3l (y,v) r) (σ:=List (qc × Bool)) (fun k c=>((k : Int),c)) v.length (fun k c=>KS c (fun p=>S p∨∃ t∈v.take k,Jo F G y t p)∧c.length≤400)
    (fun o=>(∃ a',o = .inl a'∧KS a' (fun p=>S p∨∃ t∈v,Jo F G y t p)∧a'.length≤400)∨(o = .inr ([],false)∧∃ b T,KS b T∧400 < b.length∧∀ p,T p→S p∨∃ t∈v,Jo F G y t p)) ?_ ?_ (k0:=0) (c0:=a) q8 ⟨h.congr fun p=>qe,w⟩
  · obtain ⟨o,e1,z⟩:=this;have e1 : loop (q3l (y,v) r) (0,a) = some o:=e1;rcases z with ⟨a',rfl,j,l⟩ | ⟨rfl,j⟩
    · exact .inl ⟨a',by unfold Uy;rw [e1];rfl,j,l⟩
    · exact .inr ⟨by unfold Uy;rw [e1];rfl,j⟩
  · rintro k c hk ⟨m,n⟩;obtain ⟨a',j,e1⟩:=q11p x s u hk m;have l : KS a' (fun p=>S p∨∃ t∈v.take (k + 1),Jo F G y t p):=j.congr fun p=>by rw [q k hk,or_assoc]
    by_cases d : 400 < a'.length
    · rw [qx d] at e1;refine .inr ⟨_,e1,.inr ⟨rfl,a',_,l,d,?_⟩⟩;rintro p (hp | ⟨t,g,hp⟩)
      · exact .inl hp
      · exact .inr ⟨t,List.mem_of_mem_take g,hp⟩
    · rw [qw d] at e1;exact .inl ⟨a',e1,l,q8⟩
  · rintro c ⟨m,n⟩;have hb : decide ((v.length : Int) < (v.length : Int)) = false:=Q9 q8;refine ⟨.inl c,by simp only [q3l,hb,Q5],.inl ⟨c,rfl,?_,n⟩⟩
    rwa [List.take_length] at m
def q1p (F G : Int→Int→Prop) (l : List (Int × List qj)) (p : qc) : Prop:=∃ e∈l,∃ t∈e.2,Jo F G e.1 t p
theorem qdo (n : Rep r.rows_ F) (m : Rep r.columns_ G) : ∀ (l : List (Int × List qj)),(∀ e∈l,e∈r.rows_)→∀ {a : List (qc × Bool)} {S : qc→Prop},KS a S→a.length≤400→
    (∃ a',Kt (Uy r) l a = some (.inl a')∧KS a' (fun p=>S p∨q1p F G l p)∧a'.length≤400)∨
    (Kt (Uy r) l a = some (.inr ([],false))∧∃ b T,KS b T∧400 < b.length∧∀ p,T p→S p∨q1p F G l p)
  | [],_,a,S,h,ha=>.inl ⟨a,rfl,h.congr fun p=>by simp [q1p],ha⟩
  | (y,v)::l,hl,a,S,h,ha=>by
    have d : ∀ p,q1p F G ((y,v)::l) p↔(∃ t∈v,Jo F G y t p)∨q1p F G l p:=by
      intro p;simp [q1p]
    rcases qyz n m (hl (y,v) qe) h ha with ⟨a',e1,c,g⟩ | ⟨e1,b,T,c,g,q⟩
    · rcases qdo n m l (fun e s=>hl e (by simp [s])) c g with ⟨u,k,f,j⟩ | ⟨k,b,T,f,j,o⟩
      · exact .inl ⟨u,by rw [q5r e1];exact k,f.congr fun p=>by rw [d,or_assoc],j⟩
      · refine .inr ⟨by rw [q5r e1];exact k,b,T,f,j,fun p hp=>?_⟩
        rw [d,← or_assoc];exact o p hp
    · refine .inr ⟨qt7 e1,b,T,c,g,fun p hp=>?_⟩
      rw [d,← or_assoc];exact .inl (q p hp)
theorem qz1 (o : Rep r.rows_ F) (k : Rep r.columns_ G) : Ut (fun (x y : List (qc × Bool))=>List.Perm x y) (Uy r) r.rows_ [] = some ():=by
  refine qg8 fun l j=>?_;have f : ∀ p,q1p F G l p↔q1p F G r.rows_ p:=by intro p;simp only [q1p,j.mem_iff]
  have A:=qdo o k r.rows_ (fun e g=>g) KS.nil qe;have B:=qdo o k l (fun e g=>(j.mem_iff).1 g) KS.nil qe;rcases A with ⟨t,e1,d,u⟩ | ⟨e1,b,T,d,u,s⟩
  · rcases B with ⟨m,c,a,n⟩ | ⟨c,b,T,a,n,q⟩
    · refine ⟨_,_,e1,c,?_⟩;show m.Perm t;exact KS.perm (a.congr fun p=>by rw [f]) d
    · have:=a.le d (fun p hp=>by rcases q p hp with h | h;exact .inl h;exact .inr ((f p).1 h));omega
  · rcases B with ⟨m,c,a,n⟩ | ⟨c,_⟩
    · have:=d.le a (fun p hp=>by rcases s p hp with h | h;exact .inl h;exact .inr ((f p).2 h));omega
    · exact ⟨_,_,e1,c,rfl⟩
end
end Go.Sh
namespace Go.Sh
open Go Go.Am
open Classical
section
variable {F G : Int→Int→Prop} {r : Yd}
def q7r (F G : Int→Int→Prop) (l : List (Int × List qj)) (p : qc) : Prop:=∃ e∈l,∃ t∈e.2,q7p F G e.1 t p
theorem takeN {α : Type} {v : List α} {k : Nat} (hk : k < v.length) {P : α→Prop} : (∃ t∈v.take (k + 1),P t)↔(∃ t∈v.take k,P t)∨P v[k]:=by
  rw [List.take_succ_eq_append_getElem hk];constructor
  · rintro ⟨t,a,h⟩;rcases List.mem_append.1 a with a | a
    · exact .inl ⟨t,a,h⟩
    · rw [List.mem_singleton] at a;subst a;exact .inr h
  · rintro (⟨t,a,h⟩ | h)
    · exact ⟨t,List.mem_append_left _ a,h⟩
    · exact ⟨v[k],List.mem_append_right _ (List.mem_singleton.2 rfl),h⟩
theorem qpv (s : Rep r.rows_ F) (b : Rep r.columns_ G) {x : Int} {v : List qj} (l : (x,v)∈r.columns_) {a : List (qc × Bool)} {S : qc→Prop} (h : KS a S) :
    ∃ a',q3n r a (x,v) = some (.inl a')∧KS a' (fun p=>S p∨∃ t∈v,q7p F G x t p)∧a'.length≤a.length + 2 * v.length:=by
  have g:=b.key x (List.mem_map_of_mem (f:=(·.1)) l);have z:=b.len x v l
  have:=Ky (f:=q55 (x,v) r) (σ:=List (qc × Bool)) (fun k c=>((k : Int),c)) v.length (fun k c=>KS c (fun p=>S p∨∃ t∈v.take k,q7p F G x t p)∧c.length≤a.length + 2 * k)
    (fun o=>KS o (fun p=>S p∨∃ t∈v,q7p F G x t p)∧o.length≤a.length + 2 * v.length) ?_ ?_ (k0:=0) (c0:=a) q8 ⟨h.congr fun p=>qe,q8⟩
  · obtain ⟨o,e1,m⟩:=this;have e1 : loop (q55 (x,v) r) (0,a) = some o:=e1;exact ⟨o,by unfold q3n;rw [e1];rfl,m⟩
  · rintro k c hk ⟨j,n⟩;have hb : decide ((k : Int) < (v.length : Int)) = true:=Q4 q8;obtain ⟨v1,v2,v3⟩:=(b.good x v l).1 _ (Ks hk);obtain ⟨a1,e1,u,l1⟩:=qdg s b (p:={X:=x,Y:=(v[k]).Lo}) ⟨g.1,g.2,by simp only;omega,by simp only;omega⟩ j;obtain ⟨y,m,w,l2⟩:=qdg s b (p:={X:=x,Y:=(v[k]).Hi}) ⟨g.1,g.2,by simp only;omega,by simp only;omega⟩ u;refine .inl ⟨y,?_,w.congr fun p=>?_,q8⟩
    · simp only [q55,hb,Q7,K0 hk,qo,e1,m];rw [Qb q8];rfl
    · rw [takeN hk];unfold q7p;constructor
      · rintro (((h | h) | ⟨rfl,h⟩) | ⟨rfl,h⟩)
        · exact .inl h
        · exact .inr (.inl h)
        · exact .inr (.inr ⟨rfl,.inl rfl,h⟩)
        · exact .inr (.inr ⟨rfl,.inr rfl,h⟩)
      · rintro (h | h | ⟨d,h | h,q⟩)
        · exact .inl (.inl (.inl h))
        · exact .inl (.inl (.inr h))
        · have : p = {X:=x,Y:=(v[k]).Lo}:=by rw [← h,← d]
          exact .inl (.inr ⟨this,by rw [← h,← d];exact q⟩)
        · have : p = {X:=x,Y:=(v[k]).Hi}:=by rw [← h,← d]
          exact .inr ⟨this,by rw [← h,← d];exact q⟩
  · rintro c ⟨j,n⟩;have hb : decide ((v.length : Int) < (v.length : Int)) = false:=Q9 q8;refine ⟨c,by simp only [q55,hb,Q5],?_,n⟩
    rwa [List.take_length] at j
theorem qcf (c : Rep r.rows_ F) (b : Rep r.columns_ G) : ∀ (l : List (Int × List qj)),(∀ e∈l,e∈r.columns_)→∀ {a : List (qc × Bool)} {S : qc→Prop},KS a S→
    ∃ a',Kt (q3n r) l a = some (.inl a')∧KS a' (fun p=>S p∨q7r F G l p)∧a'.length≤a.length + 1600 * l.length
  | [],_,a,S,h=>⟨a,rfl,h.congr fun p=>by simp [q7r],qe⟩
  | (x,v)::l,hl,a,S,h=>by
    obtain ⟨m,e1,d,n⟩:=qpv c b (hl (x,v) qe) h
    obtain ⟨j,k,f,o⟩:=qcf c b l (fun e g=>hl e (by simp [g])) d
    have:=b.len x v (hl (x,v) qe)
    refine ⟨j,by rw [q5r e1];exact k,f.congr fun p=>?_,by simp only [List.length_cons];omega⟩
    rw [or_assoc];simp [q7r]
theorem qq2 (f : Rep r.rows_ F) (d : Rep r.columns_ G) {a : List (qc × Bool)} {S : qc→Prop} (h : KS a S) : Ut (fun (x y : List (qc × Bool))=>List.Perm x y) (q3n r) r.columns_ a = some ():=by
  refine qg8 fun l c=>?_;obtain ⟨k,e1,g,_⟩:=qcf f d r.columns_ (fun e b=>b) h;obtain ⟨m,n,j,_⟩:=qcf f d l (fun e b=>(c.mem_iff).1 b) h;refine ⟨_,_,e1,n,?_⟩;show m.Perm k;exact KS.perm (j.congr fun p=>by simp only [q7r,c.mem_iff]) g
theorem qhi : ∀ (l : List (qc × Bool)) (acc : List qc),acc.length + l.length≤1000000→Kt q2q l acc = some (.inl (acc ++ l.map (·.1)))
  | [],acc,_=>by simp [Kt]
  | e::l,acc,h=>by
    simp only [List.length_cons] at h
    have hs : q2q acc e = some (.inl (acc ++ [e.1])):=by
      unfold q2q;rw [Yh (by simp;omega)];rfl
    rw [q5r hs,qhi l _ (by simp;omega)]
    simp
theorem qhk {l : List (qc × Bool)} {S : qc→Prop} (h : KS l S) (b : l.length≤1000000) (hb : ∀ p,S p→PtB p) : ∃ ys,(Kt q2q l []).bind (q7e q3o) = some (ys,decide (ys.length≤400))∧ys.Pairwise ltP∧∀ p,p∈ys↔S p:=by
  obtain ⟨ys,e1,a,c⟩:=q11e (l.map (·.1)) (by simpa using b) (fun p hp=>hb p ((h.mem p).1 hp)) h.nd;refine ⟨ys,?_,c,fun p=>by rw [a.mem_iff,h.mem]⟩;rw [qhi l [] (by simpa using b)];show q3o ([] ++ l.map (·.1)) = _;rw [List.nil_append];unfold q3o;have le : K2 ys.length (l.map (·.1)).length = some ():=by unfold K2;rw [qx a.length_eq]
  rw [e1,qo,le,qo];congr 2;exact decide_eq_decide.2 (by have:=a.length_eq;omega)
theorem qfz (g : Rep r.rows_ F) (k : Rep r.columns_ G) (p : qc) : (q1p F G r.rows_ p∨q7r F G r.columns_ p)↔Yb F G p.X p.Y:=by
  constructor
  · rintro (⟨⟨y,v⟩,j,t,f,rfl,⟨_,h⟩ | ⟨h3,h4,o⟩⟩ | ⟨e,j,t,f,_,_,h⟩)
    · exact h
    · have g1 : F p.Y p.X:=(g.pts _ _ j _).1 ⟨t,f,q8,q8⟩;have g2 : F p.Y (p.X - 1):=(g.pts _ _ j _).1 ⟨t,f,q8,q8⟩;unfold Yb;rw [Q4 g1,Q4 g2];simp only at o;rcases o with o | o
      · rw [Q4 o];generalize decide (G p.X (p.Y - 1)) = b;revert b;decide
      · rw [Q4 o];generalize decide (G p.X p.Y) = b;revert b;decide
    · exact h
  · intro h
    have row : ∀ x,F p.Y x→∃ v,(p.Y,v)∈r.rows_:=fun x q=>by
      obtain ⟨⟨a,v⟩,c,j⟩:=List.mem_map.1 (g.all _ _ q);simp only at j;subst j;exact ⟨v,c⟩
    have col : ∀ y,G p.X y→∃ v,(p.X,v)∈r.columns_:=fun x q=>by
      obtain ⟨⟨a,v⟩,c,j⟩:=List.mem_map.1 (k.all _ _ q);simp only at j;subst j;exact ⟨v,c⟩
    by_cases e : F p.Y p.X <;> by_cases w : F p.Y (p.X - 1)
    ·
      obtain ⟨v,c⟩:=row _ e;have hc:=(g.good _ _ c).can;obtain ⟨t,f,t1,z⟩:=(g.pts _ _ c _).2 e
      have ab : t.Lo≠p.X:=fun u=>by
        have:=((qeh hc p.X).1 ⟨t,f,u⟩).2;exact this ((g.pts _ _ c _).2 w)
      refine .inl ⟨(p.Y,v),c,t,f,rfl,.inr ⟨q8,z,?_⟩⟩;unfold Yb at h;rw [Q4 e,Q4 w] at h;by_cases n : G p.X p.Y
      · exact .inl n
      · by_cases s : G p.X (p.Y - 1)
        · exact .inr s
        · rw [Q9 n,Q9 s] at h;exact absurd h Q3
    · obtain ⟨v,c⟩:=row _ e;obtain ⟨t,f,d⟩:=(qeh (g.good _ _ c).can p.X).2 ⟨(g.pts _ _ c _).2 e,fun l=>w ((g.pts _ _ c _).1 l)⟩;exact .inl ⟨(p.Y,v),c,t,f,rfl,.inl ⟨.inl d.symm,h⟩⟩
    · obtain ⟨v,c⟩:=row _ w;obtain ⟨t,f,d⟩:=(qi4 (g.good _ _ c).can p.X).2 ⟨fun l=>e ((g.pts _ _ c _).1 l),(g.pts _ _ c _).2 w⟩;exact .inl ⟨(p.Y,v),c,t,f,rfl,.inl ⟨.inr d.symm,h⟩⟩
    · right;have m:=h;unfold Yb at m;rw [Q9 e,Q9 w] at m;by_cases n : G p.X p.Y <;> by_cases s : G p.X (p.Y - 1)
      · rw [Q4 n,Q4 s] at m;exact absurd m Q3
      · obtain ⟨v,c⟩:=col _ n;obtain ⟨t,f,d⟩:=(qeh (k.good _ _ c).can p.Y).2 ⟨(k.pts _ _ c _).2 n,fun l=>s ((k.pts _ _ c _).1 l)⟩;exact ⟨(p.X,v),c,t,f,rfl,.inl d.symm,h⟩
      · obtain ⟨v,c⟩:=col _ s;obtain ⟨t,f,d⟩:=(qi4 (k.good _ _ c).can p.Y).2 ⟨fun l=>n ((k.pts _ _ c _).1 l),(k.pts _ _ c _).2 s⟩;exact ⟨(p.X,v),c,t,f,rfl,.inr d.symm,h⟩
      · rw [Q9 n,Q9 s] at m;exact absurd m Q3
theorem Rep.bnd {R : List (Int × List qj)} {F : Int→Int→Prop} (h : Rep R F) {k x : Int} (b : F k x) : -1000000≤k∧k≤1000000∧-1000000≤x∧x < 1000000:=by
  have hk:=h.key k (h.all _ _ b);obtain ⟨⟨a,v⟩,c,d⟩:=List.mem_map.1 (h.all _ _ b);simp only at d;subst d;obtain ⟨t,f,l,g⟩:=(h.pts _ _ c _).2 b;obtain ⟨m,j,n⟩:=(h.good _ _ c).1 t f;exact ⟨hk.1,hk.2,q8,q8⟩
theorem qfy {C : List (Int × List qj)} {R : List (Int × List qj)} (b : Rep R F) (a : Rep C G) {x y : Int} (h : Yb F G x y) : PtB {X:=x,Y:=y}:=by
  unfold PtB;simp only;by_cases e : F y x
  · have:=b.bnd e;omega
  · by_cases n : G x y
    · have:=a.bnd n;omega
    · by_cases w : F y (x - 1)
      · have:=b.bnd w;omega
      · by_cases s : G x (y - 1)
        · have:=a.bnd s;omega
        · unfold Yb at h;rw [Q9 e,Q9 n,Q9 w,Q9 s] at h;exact absurd h Q3
structure Zq (F G : Int→Int→Prop) (N : List qc) : Prop where
  srt : N.Pairwise ltP
  mem : ∀ p,p∈N↔Yb F G p.X p.Y
theorem qu7 (d : Rep r.rows_ F) (c : Rep r.columns_ G) : (∃ N,Zq F G N∧N.length≤400∧q7d r = some (N,true))∨((∃ b : List qc,b.Nodup∧400 < b.length∧∀ p∈b,Yb F G p.X p.Y)∧∃ q,q7d r = some (q,false)):=by
  unfold q7d;rw [qz1 d c];simp only [qo];rcases qdo d c r.rows_ (fun e k=>k) KS.nil qe with ⟨a1,e1,f,v⟩ | ⟨e1,b,T,f,v,y⟩
  · rw [e1];simp only [qo];rw [qq2 d c f];simp only [qo];obtain ⟨t,x,k2,l2⟩:=qcf d c r.columns_ (fun e k=>k) f;rw [x];simp only [qo];have hc:=c.cnt;have g : t.length≤1000000:=by omega
    have m : KS t (fun p=>Yb F G p.X p.Y):=k2.congr fun p=>by
      rw [← qfz d c p];simp
    have hb : ∀ p : qc,Yb F G p.X p.Y→PtB p:=fun p hp=>qfy d c hp;obtain ⟨ys,f1,s,u⟩:=qhk m g hb
    have j : q4q (fun l=>(Kt q2q l []).bind (q7e q3o)) t = some ():=by
      refine q10a fun l n=>?_;have k4 : KS l (fun p=>Yb F G p.X p.Y):=⟨((n.map (·.1)).nodup_iff).2 m.nd,fun e k=>m.val e ((n.mem_iff).1 k),fun p=>by rw [((n.map (·.1)).mem_iff),m.mem]⟩
      obtain ⟨zs,z,w,g3⟩:=qhk k4 (by rw [n.length_eq];exact g) hb;simp only [f1,z];have : zs = ys:=qdx q43 w s fun p=>by rw [g3,u]
      rw [this]
    rw [j];simp only [qo];rw [f1];by_cases o : ys.length≤400
    · exact .inl ⟨ys,⟨s,u⟩,o,by rw [Q4 o]⟩
    · refine .inr ⟨⟨ys,s.imp (by rintro a b h rfl;exact q43 a a h h),q8,fun p hp=>(u p).1 hp⟩,ys,by rw [Q9 o]⟩
  · rw [e1];refine .inr ⟨⟨b.map (·.1),f.nd,by simpa using v,fun p hp=>?_⟩,[],rfl⟩;rcases y p ((f.mem p).1 hp) with h | h
    · exact h.elim
    · exact (qfz d c p).1 (.inl h)
end
end Go.Sh
namespace Go.Sh
open Go Go.Am
open Classical
theorem qso {α : Type} (out : List α) (z v : α) (b : Nat) (hb : b≤out.length) :
    (cpyw (out ++ [z]) (b + 1,(out ++ [z]).length - (b + 1)) ((((out ++ [z]).drop b).take ((out ++ [z]).length - b)))).set b v = out.take b ++ v::out.drop b:=by
  have e1 : ((out ++ [z]).drop b).take ((out ++ [z]).length - b) = (out ++ [z]).drop b:=List.take_of_length_le qe;rw [e1];unfold cpyw splice;have h : (min ((out ++ [z]).drop b).length ((out ++ [z]).length - (b + 1))) = out.length - b:=by simp;omega
  simp only [h]
  have c : ((out ++ [z]).drop b).take (out.length - b) = out.drop b:=by
    rw [List.drop_append_of_le_length hb,List.take_append_of_le_length qe];exact List.take_of_length_le qe
  rw [c]
  have g : (out ++ [z]).drop (b + 1 + (out.drop b).length) = []:=by
    apply List.drop_of_length_le;simp;omega
  rw [g,List.append_nil]
  have a : ∃ y,(out ++ [z]).take (b + 1) = out.take b ++ [y]:=by
    refine ⟨(out ++ [z])[b]'(by simp;omega),?_⟩;rw [List.take_succ_eq_append_getElem (by simp;omega),List.take_append_of_le_length hb]
  obtain ⟨y,f⟩:=a
  have key : ∀ (xs ys : List α) (y v : α),(xs ++ (y::ys)).set xs.length v = xs ++ v::ys:=by
    intro xs ys y v
    induction xs with
    | nil=>rfl
    | cons x xs ih=>simp [ih]
  have d : (out.take b).length = b:=by simp;omega
  rw [f,List.append_assoc];have:=key (out.take b) (out.drop b) y v;rw [d] at this;exact this
theorem qt6 (a b : qc) : q69 a b = some (decide (ltP a b)):=by
  unfold q69 ltP;by_cases c : a.X < b.X
  · simp [c]
  · by_cases d : a.X = b.X
    · have : (a.X == b.X) = true:=by simpa using d
      rw [Q9 c,Q5,this];simp [d]
    · have : (a.X == b.X) = false:=by simpa using d
      rw [Q9 c,Q5,this];simp [c,d]
theorem qxm (N : List qc) (p : qc) (m : N.length≤1000) : ∃ b : Nat,loop (q3d N p) 0 = some (b : Int)∧b≤N.length∧(∀ j (h : j < N.length),j < b→ltP N[j] p)∧∀ (h : b < N.length),¬ ltP N[b] p:=by
  have:=Ky (f:=q3d N p) (σ:=Unit) (fun k _=>(k : Int)) N.length (fun k _=>∀ j (h : j < N.length),j < k→ltP N[j] p) (fun c=>∃ b : Nat,c = (b : Int)∧b≤N.length∧(∀ j (h : j < N.length),j < b→ltP N[j] p)∧∀ (h : b < N.length),¬ ltP N[b] p) ?_ ?_ (k0:=0) (c0:=()) q8 (fun j h n=>q8)
  · obtain ⟨c,e,b,rfl,h⟩:=this;exact ⟨b,e,h⟩
  · rintro k _ hk h;have hb : decide ((k : Int) < (N.length : Int)) = true:=Q4 q8;have d : q69 N[k] ({X:=p.X,Y:=p.Y} : qc) = some (decide (ltP N[k] p)):=qt6 _ _;by_cases a : ltP N[k] p
    · refine .inl ⟨(),?_,fun j l g=>?_⟩
      · simp only [q3d,hb,Q7,K0 hk,qo,d,Q4 a];rw [Qb q8];rfl
      · by_cases e : j = k
        · subst e;exact a
        · exact h j l q8
    · refine .inr ⟨(k : Int),?_,k,rfl,q8,h,fun _=>a⟩;simp only [q3d,hb,Q7,K0 hk,qo,d,Q9 a,Q5]
  · rintro _ h;have hb : decide ((N.length : Int) < (N.length : Int)) = false:=Q9 q8;exact ⟨(N.length : Int),by simp only [q3d,hb,Q5,qo],N.length,rfl,q8,h,fun h=>q8⟩
theorem qtl {a b c : qc} (d : ltP a b) (f : ltP b c) : ltP a c:=by unfold ltP at *;omega
theorem qz2 (N : List qc) (p : qc) (hl : N.length≤500) (hs : N.Pairwise ltP) : ∃ n,q3c N p = some n∧n.Pairwise ltP∧(∀ q,q∈n↔q∈N∨q = p)∧N.length≤n.length∧n.length≤N.length + 1:=by
  obtain ⟨b,e,hb,h1,y⟩:=qxm N p q8;unfold q3c;rw [e,qo];by_cases r : ∃ h : b < N.length,N[b] = p
  · obtain ⟨d,v⟩:=r;have l : decide ((b : Int) < (N.length : Int)) = true:=Q4 q8;rw [l,Q7,K0 d,qo,v];simp only [beq_self_eq_true,Bool.and_self,qo,Q7];refine ⟨N,rfl,hs,fun q=>?_,q8,q8⟩;constructor
    · exact .inl
    · rintro (h | rfl)
      · exact h
      · rw [← v];exact Ks d
  · have l : (cond (decide ((b : Int) < (N.length : Int))) ((idx N (b : Int)).bind fun k=>some ((k.X == p.X) && ((k.Y == p.Y) && true))) (some false)) = some false:=by
      by_cases d : b < N.length
      · rw [Q4 (show (b : Int) < (N.length : Int) by omega),Q7,K0 d,qo];congr 1;have s : ¬ N[b] = p:=fun h=>r ⟨d,h⟩;by_cases e1 : N[b].X = p.X
        · have e2 : ¬ N[b].Y = p.Y:=fun h=>s (by
            have : N[b] = ⟨N[b].X,N[b].Y⟩:=rfl
            rw [this,e1,h])
          simp [e2]
        · simp [e1]
      · rw [Q9 (show ¬ (b : Int) < (N.length : Int) by omega),Q5]
    rw [l,qo,Q5,Yh (by simp;omega),qo]
    have x : sub2 (N ++ [({X:=0,Y:=0} : qc)]).length (w64 ((b : Int) + 1)) ((N ++ [({X:=0,Y:=0} : qc)]).length : Int) = some (b + 1,(N ++ [({X:=0,Y:=0} : qc)]).length - (b + 1)):=by
      unfold sub2;rw [Qb q8,qx (by simp;omega)];simp
    have w2 : sub2 (N ++ [({X:=0,Y:=0} : qc)]).length (b : Int) ((N ++ [({X:=0,Y:=0} : qc)]).length : Int) = some (b,(N ++ [({X:=0,Y:=0} : qc)]).length - b):=by
      unfold sub2;rw [qx (by simp;omega)];simp
    rw [x,qo,w2,qo];have z:=qso N ({X:=0,Y:=0} : qc) p b hb
    have o : (cpyw (N ++ [({X:=0,Y:=0} : qc)]) (b + 1,(N ++ [({X:=0,Y:=0} : qc)]).length - (b + 1)) (((N ++ [({X:=0,Y:=0} : qc)]).drop b).take ((N ++ [({X:=0,Y:=0} : qc)]).length - b))).length = N.length + 1:=by
      rw [qcj (by simp;omega)];simp
    rw [K0 (by rw [o];omega),qo,Int.toNat_natCast];have g : N = N.take b ++ N.drop b:=(List.take_append_drop b N).symm
    have hT : ∀ q∈N.take b,ltP q p:=by
      intro q t;obtain ⟨j,u,rfl⟩:=List.mem_iff_getElem.1 t;simp only [List.length_take] at u;rw [List.getElem_take];exact h1 j q8 q8
    have hD : ∀ q∈N.drop b,ltP p q:=by
      intro q t;obtain ⟨j,u,rfl⟩:=List.mem_iff_getElem.1 t;simp only [List.length_drop] at u;rw [List.getElem_drop];have m : ltP p N[b]:=qfm (y q8) (fun h=>r ⟨q8,h⟩);rcases Nat.eq_zero_or_pos j with rfl | h
      · exact m
      · exact qtl m (List.pairwise_iff_getElem.1 hs b (b + j) q8 q8 q8)
    have f:=hs;rw [g,List.pairwise_append] at f;refine ⟨N.take b ++ p::N.drop b,congrArg some z,?_,fun q=>?_,?_,?_⟩
    · rw [List.pairwise_append,List.pairwise_cons];refine ⟨f.1,⟨hD,f.2.1⟩,fun a w c l=>?_⟩;rcases List.mem_cons.1 l with rfl | l
      · exact hT a w
      · exact f.2.2 a w c l
    · have : q∈N↔q∈N.take b∨q∈N.drop b:=by rw [← List.mem_append,← g]
      rw [List.mem_append,List.mem_cons,this];constructor
      · rintro (h | h | h) <;> simp [h]
      · rintro ((h | h) | h) <;> simp [h]
    · simp;omega
    · simp;omega
section
variable {F G : Int→Int→Prop} {L M : List Kb}
structure JN (F G : Int→Int→Prop) (N : List qc) (S : qc→Prop) : Prop where
  srt : N.Pairwise ltP
  sub : ∀ p∈N,Yb F G p.X p.Y
  all : N.length≤400→∀ p,S p→Yb F G p.X p.Y→p∈N
  len : N.length≤402
theorem JN.congr {N : List qc} {S T : qc→Prop} (h : JN F G N S) (e : ∀ p,T p→S p) : JN F G N T:=⟨h.srt,h.sub,fun a p hp=>h.all a p (e p hp),h.len⟩
theorem qgp (n : Rep (asc L) F) (l : Rep (asc M) G) {p : qc} (hp : PtB p) {N : List qc} {S : qc→Prop} (h : JN F G N S) (s : N.length≤401) :
    ∃ c,((q2h L M p).bind fun r=>cond r ((q3c N p).bind fun e=>some e) (some N)) = some c∧JN F G c (fun q=>S q∨q = p)∧N.length≤c.length∧c.length≤N.length + 1:=by
  rw [qss n l hp,qo];by_cases f : Yb F G p.X p.Y
  · obtain ⟨c,e,k,g,o,j⟩:=qz2 N p q8 h.srt;rw [Q4 f,Q7,e];refine ⟨c,rfl,⟨k,fun q b=>?_,fun d q b a=>?_,q8⟩,o,j⟩
    · rcases (g q).1 b with m | rfl
      · exact h.sub q m
      · exact f
    · rcases b with b | rfl
      · exact (g q).2 (.inl (h.all q8 q b a))
      · exact (g q).2 (.inr rfl)
  · rw [Q9 f,Q5];refine ⟨N,rfl,⟨h.srt,h.sub,fun d q b a=>?_,h.len⟩,q8,q8⟩;rcases b with b | rfl
    · exact h.all d q b a
    · exact absurd a f
end
end Go.Sh
