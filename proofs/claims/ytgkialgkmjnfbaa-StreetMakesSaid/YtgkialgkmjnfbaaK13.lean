/- St2 St3 St4 Sq1 Sq2 St5 St6 St7 St8 -/
import Derived.Test.YtgkialgkmjnfbaaK12
namespace Go.Sh
open Go Go.Am
structure Abs (out : List qh) (lo0 hi0 : Int) (k : Nat) (c : Int × Int × List qh) : Prop where
  can : Can c.2.2
  sub : ∀ t∈c.2.2,t∈out.take k
  apart : ∀ t∈c.2.2,t.Hi < c.1∨c.2.1 < t.Lo
  lt : c.1 < c.2.1
  bnd : -1000000≤c.1∧c.2.1≤1000000
  pts : ∀ x,(has c.2.2 x∨(c.1≤x∧x < c.2.1))↔(has (out.take k) x∨(lo0≤x∧x < hi0))
  len : c.2.2.length≤k
theorem qym (i : Int) (out : List qh) (a b : Int) (r : Good out) (hl : out.length≤1000) (hv : vld {Lo:=a,Hi:=b}) :
    ∃ c,loop (q2o (i,out)) (0,a,b,[]) = some c∧Abs out a b out.length c:=by
  obtain ⟨v1,v2,v3⟩:=hv;simp only at v1 v2 v3;refine Kx (f:=q2o (i,out)) (σ:=Int × Int × List qh) (fun k c=>((k : Int),c)) out.length (Abs out a b) (Abs out a b out.length) ?_ ?_ (k0:=0) (c0:=(a,b,[])) q9 ⟨⟨fun t h=>(by cases h),.nil⟩,fun t h=>(by cases h),fun t h=>(by cases h),v1,⟨v2,v3⟩,fun x=>qc,qc⟩
  · rintro k ⟨lo,hi,rest⟩ hk ⟨s1,o,p,y,s5,q,s7⟩;simp only at s1 o p y s5 q s7;have hb : decide ((k : Int) < (out.length : Int)) = true:=Q8 q9;have d : out.take (k + 1) = out.take k ++ [out[k]]:=List.take_succ_eq_append_getElem hk;have u:=r.1 _ (Kw hk);obtain ⟨g1,g2,g3⟩:=u
    have l : ∀ s∈rest,s.Hi < (out[k]).Lo∧s.Lo < s.Hi:=by
      intro s hs;obtain ⟨j,hj,rfl⟩:=List.mem_iff_getElem.1 (o s hs);simp only [List.length_take] at hj;rw [List.getElem_take];exact ⟨List.pairwise_iff_getElem.1 r.2 j k q9 hk q9,(r.1 _ (Kw _)).1⟩
    by_cases n : (out[k]).Hi < lo∨hi < (out[k]).Lo
    · refine .inl ⟨(lo,hi,rest ++ [out[k]]),?_,?_⟩
      · have e : (cond (decide ((out[k]).Hi < lo)) (some true) ((idx out (k : Int)).bind fun m=>some (decide (hi < m.Lo)))) = some true:=by
          rw [K0 hk];rcases n with h | h
          · rw [Q8 h];rfl
          · by_cases z : (out[k]).Hi < lo
            · rw [Q8 z];rfl
            · rw [Q9 z,Q7,qr,Q8 h]
        simp only [q2o,hb,Q6,K0 hk,qr] at e ⊢;rw [e,qr,Q6,Ye (by simp;omega),Qd q9];rfl
      · refine ⟨qam.2 ⟨s1,g1,fun s hs=>(l s hs).1⟩,fun t g=>?_,fun t g=>?_,y,s5,fun x=>?_,by simp;omega⟩
        · rw [d];rcases List.mem_append.1 g with h | h
          · exact List.mem_append_left _ (o t h)
          · exact List.mem_append_right _ h
        · rcases List.mem_append.1 g with h | h
          · exact p t h
          · rw [List.mem_singleton] at h;subst h;exact n
        · rw [d,q3a,q3a];have:=q x;constructor
          · rintro ((h | h) | h)
            · rcases this.1 (.inl h) with h | h
              · exact .inl (.inl h)
              · exact .inr h
            · exact .inl (.inr h)
            · rcases this.1 (.inr h) with h | h
              · exact .inl (.inl h)
              · exact .inr h
          · rintro ((h | h) | h)
            · rcases this.2 (.inl h) with h | h
              · exact .inl (.inl h)
              · exact .inr h
            · exact .inl (.inr h)
            · rcases this.2 (.inr h) with h | h
              · exact .inl (.inl h)
              · exact .inr h
    · have w : ¬ (out[k]).Hi < lo:=fun h=>n (.inl h);have v : ¬ hi < (out[k]).Lo:=fun h=>n (.inr h);refine .inl ⟨(min lo (out[k]).Lo,max hi (out[k]).Hi,rest),?_,?_⟩
      · simp only [q2o,hb,Q6,K0 hk,qr,Q9 w,Q7,Q9 v];rw [Qd q9];rfl
      · refine ⟨s1,fun t g=>?_,fun t g=>?_,by simp only;omega,by simp only;omega,fun x=>?_,by simp only;omega⟩
        · rw [d];exact List.mem_append_left _ (o t g)
        · have:=l t g;have:=p t g;simp only;omega
        · rw [d,q3a];have:=q x;have hm : (min lo (out[k]).Lo≤x∧x < max hi (out[k]).Hi)↔((lo≤x∧x < hi)∨((out[k]).Lo≤x∧x < (out[k]).Hi)):=by omega
          rw [show (has rest x∨(min lo (out[k]).Lo≤x∧x < max hi (out[k]).Hi))↔(has rest x∨(lo≤x∧x < hi))∨((out[k]).Lo≤x∧x < (out[k]).Hi) from by rw [hm,or_assoc],this,or_right_comm]
  · rintro ⟨lo,hi,rest⟩ hI;have hb : decide ((out.length : Int) < (out.length : Int)) = false:=Q9 q9;exact ⟨(lo,hi,rest),by simp only [q2o,hb,Q7],hI⟩
theorem qyn (lo hi : Int) (rest : List qh) (l : rest.length≤1000) : ∃ b : Int,loop (q2p (lo,hi,rest)) 0 = some b∧∃ k : Nat,b = k∧k≤rest.length∧(∀ j (h : j < rest.length),j < k→(rest[j]).Lo < lo)∧∀ (h : k < rest.length),lo≤(rest[k]).Lo:=by
  refine Kx (f:=q2p (lo,hi,rest)) (σ:=Unit) (fun k _=>(k : Int)) rest.length (fun k _=>∀ j (h : j < rest.length),j < k→(rest[j]).Lo < lo) _ ?_ ?_ (k0:=0) (c0:=()) q9 (fun j h g=>q9)
  · rintro k _ hk h;have hb : decide ((k : Int) < (rest.length : Int)) = true:=Q8 q9;by_cases a : (rest[k]).Lo < lo
    · refine .inl ⟨(),?_,fun j c d=>?_⟩
      · simp only [q2p,hb,Q6,K0 hk,qr,Q8 a];rw [Qd q9];rfl
      · by_cases e : j = k
        · subst e;exact a
        · exact h j c q9
    · refine .inr ⟨(k : Int),?_,k,rfl,q9,h,fun _=>q9⟩;simp only [q2p,hb,Q6,K0 hk,qr,Q9 a,Q7]
  · rintro _ h;have hb : decide ((rest.length : Int) < (rest.length : Int)) = false:=Q9 q9;exact ⟨(rest.length : Int),by simp only [q2p,hb,Q7,qr],rest.length,rfl,q9,h,fun h=>q9⟩
theorem qm0 {rest : List qh} {lo hi : Int} {k : Nat} (f : Can rest) (o : lo < hi) (m : ∀ t∈rest,t.Hi < lo∨hi < t.Lo) (hk : k≤rest.length) (w : ∀ j (h : j < rest.length),j < k→(rest[j]).Lo < lo) (s : ∀ (h : k < rest.length),lo≤(rest[k]).Lo) :
    Can (rest.take k ++ [{Lo:=lo,Hi:=hi}] ++ rest.drop k)∧∀ x,has (rest.take k ++ [{Lo:=lo,Hi:=hi}] ++ rest.drop k) x↔has rest x∨(lo≤x∧x < hi):=by
  have d : rest = rest.take k ++ rest.drop k:=(List.take_append_drop k rest).symm;have c:=f.2;rw [d,List.pairwise_append] at c
  have v : ∀ t∈rest.take k,t.Hi < lo:=by
    intro t g;obtain ⟨j,q,rfl⟩:=List.mem_iff_getElem.1 g;simp only [List.length_take] at q;rw [List.getElem_take];have:=w j q9 q9;have:=f.1 _ (Kw (l:=rest) (n:=j) q9);rcases m _ (Kw (l:=rest) (n:=j) q9) with h | h <;> omega
  have u : ∀ t∈rest.drop k,hi < t.Lo:=by
    intro t g;obtain ⟨j,q,rfl⟩:=List.mem_iff_getElem.1 g;simp only [List.length_drop] at q;rw [List.getElem_drop];have p:=s q9
    have : lo≤(rest[k + j]).Lo:=by
      rcases Nat.eq_zero_or_pos j with rfl | h
      · exact p
      · have:=List.pairwise_iff_getElem.1 f.2 k (k + j) q9 q9 q9;have:=f.1 _ (Kw (l:=rest) (n:=k) q9);omega
    have:=f.1 _ (Kw (l:=rest) (n:=k + j) q9);rcases m _ (Kw (l:=rest) (n:=k + j) q9) with h | h <;> omega
  refine ⟨⟨fun t g=>?_,?_⟩,fun x=>?_⟩
  · simp only [List.mem_append,List.mem_singleton] at g;rcases g with (h | rfl) | h
    · exact f.1 t (List.mem_of_mem_take h)
    · exact o
    · exact f.1 t (List.mem_of_mem_drop h)
  · rw [List.pairwise_append,List.pairwise_append];refine ⟨⟨c.1,List.pairwise_singleton _ _,fun a r b hb=>?_⟩,c.2.1,fun a r b hb=>?_⟩
    · rw [List.mem_singleton] at hb;subst hb;exact v a r
    · rcases List.mem_append.1 r with h | h
      · exact c.2.2 a h b hb
      · rw [List.mem_singleton] at h;subst h;exact u b hb
  · have e : has rest x↔has (rest.take k) x∨has (rest.drop k) x:=by rw [← qb2,← d]
    have hs : has [({Lo:=lo,Hi:=hi} : qh)] x↔(lo≤x∧x < hi):=by rw [Zm];simp [Uy]
    rw [qb2,qb2,e,hs,or_right_comm]
structure Uni (s out : List qh) : Prop where
  good : Good out
  pts : ∀ x,has out x↔has s x
  len : out.length≤s.length
theorem qyo (s : List qh) (hl : s.length≤400) (hv : ∀ t∈s,vld t) : ∃ out,q3u s = some out∧Uni s out:=by
  have:=Kx (f:=q3v s) (σ:=List qh) (fun k c=>((k : Int),c)) s.length (fun k c=>Uni (s.take k) c) (fun c=>Uni s c) ?_ ?_ (k0:=0) (c0:=[]) q9 ⟨⟨fun t h=>(by cases h),.nil⟩,fun x=>qc,qc⟩
  · obtain ⟨out,n,y⟩:=this;have n : loop (q3v s) (0,[]) = some out:=n;exact ⟨out,by unfold q3u;rw [n];rfl,y⟩
  · rintro k out hk ⟨g,pts,len⟩;have o : out.length≤k:=by simp only [List.length_take] at len;omega
    have hb : decide ((k : Int) < (s.length : Int)) = true:=Q8 q9;obtain ⟨⟨lo,hi,rest⟩,e1,v,p,q,l,j,u,z⟩:=qym (k : Int) out (s[k]).Lo (s[k]).Hi g q9 (hv _ (Kw hk));simp only at v p q l j u z;obtain ⟨b,e2,a,rfl,b1,b2,b3⟩:=qyn lo hi rest q9;obtain ⟨c1,c2⟩:=qm0 v l q b1 b2 b3
    have m : ∀ t∈rest.take a ++ [{Lo:=lo,Hi:=hi}] ++ rest.drop a,vld t:=by
      intro t d;have r : ∀ t∈rest,vld t:=fun t d=>g.1 t (List.mem_of_mem_take (p t d));simp only [List.mem_append,List.mem_singleton] at d;rcases d with (h | rfl) | h
      · exact r t (List.mem_of_mem_take h)
      · exact ⟨l,j.1,j.2⟩
      · exact r t (List.mem_of_mem_drop h)
    refine .inl ⟨rest.take a ++ [{Lo:=lo,Hi:=hi}] ++ rest.drop a,?_,⟨m,c1.2⟩,fun x=>?_,?_⟩
    · have w1 : sub2 rest.length 0 (a : Int) = some (0,a):=by unfold sub2;rw [qz q9];simp
      have w2 : sub2 rest.length (a : Int) (rest.length : Int) = some (a,rest.length - a):=by unfold sub2;rw [qz q9];simp
      simp only [q3v,hb,Q6,K0 hk,qr,e1,e2,w1,w2];rw [Ye (by simp;omega)];simp only [qr];rw [Ye (by simp;omega)];simp only [qr];rw [Ye (by simp;omega)];simp only [qr];rw [Qd q9];have d1 : (rest.drop 0).take a = rest.take a:=by simp
      have w : (rest.drop a).take (rest.length - a) = rest.drop a:=by rw [List.take_of_length_le qc]
      rw [d1,w,List.nil_append];rfl
    · rw [c2,u,List.take_length,pts,List.take_succ_eq_append_getElem hk,q3a]
    · have : (s.take (k + 1)).length = k + 1:=by simp;omega
      rw [this];simp;omega
  · rintro out hI;have hb : decide ((s.length : Int) < (s.length : Int)) = false:=Q9 q9;exact ⟨out,by simp only [q3v,hb,Q7],by rwa [List.take_length] at hI⟩
end Go.Sh
namespace Go.Sh
open Go Go.Am
def kf (p : Bool) : Qw→Option (Int × qh):=cond p hk vk
def keyL (p : Bool) (l : List Qw) : List (Int × qh):=l.filterMap (kf p)
theorem qb4 (p : Bool) (l : List Qw) : (keyL p l).length≤l.length:=List.length_filterMap_le _ _
theorem qhq {p : Bool} {l : List Qw} {k : Nat} (h : k < l.length) : keyL p (l.take (k + 1)) = keyL p (l.take k) ++ (kf p l[k]).toList:=by
  rw [List.take_succ_eq_append_getElem h,keyL,List.filterMap_append];cases e : kf p l[k] <;> simp [keyL,e]
theorem qhr {p : Bool} {l : List Qw} (h : ∀ s∈l,SegV s) : ∀ k t,(k,t)∈keyL p l→vld t:=by
  cases p
  · exact qcx h
  · exact qer h
theorem qpz (l : List Qw) (p : Bool) (h : l.length≤400) : loop (q3n l p) (0,[]) = some ((keyL p l).map (·.1)):=by
  have:=Kx (f:=q3n l p) (σ:=List Int) (fun k c=>((k : Int),c)) l.length (fun k c=>c = (keyL p (l.take k)).map (·.1)) (fun c=>c = (keyL p l).map (·.1)) ?_ ?_ (k0:=0) (c0:=[]) q9 (by simp [keyL])
  · obtain ⟨b,g,rfl⟩:=this;exact g
  · rintro k c hk rfl;have hb : decide ((k : Int) < (l.length : Int)) = true:=Q8 q9;have d : (keyL p (l.take k)).length≤400:=by have:=qb4 p (l.take k);simp at this;omega
    refine .inl ⟨_,?_,rfl⟩;rw [qhq hk];simp only [q3n,hb,Q6,K0 hk,qr];rw [Qd q9];by_cases e : (l[k]).A.Y = (l[k]).B.Y
    · have a : ((l[k]).A.Y == (l[k]).B.Y) = true:=by simpa using e
      rw [a]
      cases p with
      | true=>
        simp only [beq_self_eq_true,Q6];rw [Ye (by simp;omega)];have : kf true l[k] = some ((l[k]).A.Y,{Lo:=min (l[k]).A.X (l[k]).B.X,Hi:=max (l[k]).A.X (l[k]).B.X}):=by show Go.Sh.hk _ = _;unfold Go.Sh.hk;rw [qz e]
        rw [this];simp
      | false=>
        have : kf false l[k] = none:=by show Go.Sh.vk _ = _;unfold Go.Sh.vk;rw [qz e]
        rw [this];simp
    · have a : ((l[k]).A.Y == (l[k]).B.Y) = false:=by simpa using e
      rw [a]
      cases p with
      | false=>
        simp only [beq_self_eq_true,Q6,Q7];rw [Ye (by simp;omega)];have : kf false l[k] = some ((l[k]).A.X,{Lo:=min (l[k]).A.Y (l[k]).B.Y,Hi:=max (l[k]).A.Y (l[k]).B.Y}):=by show Go.Sh.vk _ = _;unfold Go.Sh.vk;rw [qy e]
        rw [this];simp
      | true=>
        have : kf true l[k] = none:=by show Go.Sh.hk _ = _;unfold Go.Sh.hk;rw [qy e]
        rw [this];simp
  · rintro c rfl;have hb : decide ((l.length : Int) < (l.length : Int)) = false:=Q9 q9;exact ⟨_,by simp only [q3n,hb,Q7];rfl,by rw [List.take_length]⟩
theorem qq1 (l : List Qw) (p : Bool) (y : l.length≤400) (x : ∀ s∈l,SegV s) (keys : List Int) (i : Nat) (hi : i < keys.length) (acc : List K2) : loop (q3p l p keys ((i : Int),acc)) (0,[]) = some (Y5 (keyL p l) keys[i]):=by
  have:=Kx (f:=q3p l p keys ((i : Int),acc)) (σ:=List qh) (fun k c=>((k : Int),c)) l.length (fun k c=>c = Y5 (keyL p (l.take k)) keys[i]) (fun c=>c = Y5 (keyL p l) keys[i]) ?_ ?_ (k0:=0) (c0:=[]) q9 (by simp [keyL,Y5])
  · obtain ⟨b,u,rfl⟩:=this;exact u
  · rintro k c hk rfl;have hb : decide ((k : Int) < (l.length : Int)) = true:=Q8 q9;have r : (Y5 (keyL p (l.take k)) keys[i]).length≤400:=by have:=qb4 p (l.take k);have:=q1v (L:=keyL p (l.take k)) (k:=keys[i]);simp at *;omega
    obtain ⟨v,t,w⟩:=x _ (Kw hk);refine .inl ⟨_,?_,rfl⟩;rw [qhq hk];simp only [q3p,hb,Q6,K0 hk,K0 hi,qr];rw [Qd q9,show ((k : Int) + 1) = ((k + 1 : Nat) : Int) by omega];generalize keys[i] = key at *;generalize l[k] = s at *;obtain ⟨⟨j,d⟩,⟨bx,a⟩⟩:=s;simp only at v t w ⊢
    cases p with
    | true=>
      have m : kf true {A:={X:=j,Y:=d},B:={X:=bx,Y:=a}} = if d = a then some (d,{Lo:=min j bx,Hi:=max j bx}) else none:=rfl
      rw [m];by_cases e1 : d = key
      · subst e1;by_cases q : a = d
        · subst q;simp only [beq_self_eq_true,Q6,qr,if_true,Option.toList_some,q9w];rw [Ye (by simp;omega)];rfl
        · have n : (a == d) = false:=by simpa using q
          have g : ¬ d = a:=fun h=>q h.symm;simp only [beq_self_eq_true,Q6,qr,n,Q7,Bool.not_true,qy g,Option.toList_none,List.append_nil]
      · have o : (d == key) = false:=by simpa using e1
        simp only [o,Q6,Q7,qr,Bool.not_true];by_cases g : d = a
        · rw [qz g,Option.toList_some,q9w,qy (fun h=>e1 h.symm),List.append_nil]
        · rw [qy g,Option.toList_none,List.append_nil]
    | false=>
      have m : kf false {A:={X:=j,Y:=d},B:={X:=bx,Y:=a}} = if d = a then none else some (j,{Lo:=min d a,Hi:=max d a}):=rfl
      rw [m];by_cases e1 : j = key
      · subst e1;by_cases q : bx = j
        · subst q;have g : ¬ d = a:=by omega
          simp only [beq_self_eq_true,Q6,Q7,qr,Bool.not_false,qy g,Option.toList_some,q9w];rw [Ye (by simp;omega)];simp
        · have n : (bx == j) = false:=by simpa using q
          have g : d = a:=by omega
          simp only [beq_self_eq_true,Q6,Q7,qr,Bool.not_false,n,qz g,Option.toList_none,List.append_nil]
      · have o : (j == key) = false:=by simpa using e1
        simp only [o,Q6,Q7,qr,Bool.not_false];by_cases g : d = a
        · rw [qz g,Option.toList_none,List.append_nil]
        · rw [qy g,Option.toList_some,q9w,qy (fun h=>e1 h.symm),List.append_nil]
  · rintro c rfl;have hb : decide ((l.length : Int) < (l.length : Int)) = false:=Q9 q9;exact ⟨_,by simp only [q3p,hb,Q7];rfl,by rw [List.take_length]⟩
noncomputable def uniS (s : List qh) : List qh:=(q3u s).getD []
theorem ql4 {s : List qh} (c : s.length≤400) (b : ∀ t∈s,vld t) : q3u s = some (uniS s)∧Uni s (uniS s):=by
  obtain ⟨out,a,d⟩:=qyo s c b;have : uniS s = out:=by unfold uniS;rw [a];rfl
  rw [this];exact ⟨a,d⟩
noncomputable def q2b (L : List (Int × qh)) (k : Int) : K2:={At:=k,Spans:=uniS (Y5 L k)}
theorem qq0 (l : List Qw) (p : Bool) (j : l.length≤400) (h : ∀ s∈l,SegV s) (keys : List Int) (hs : keys.Pairwise (· < ·)) (hk : keys.length≤400) : loop (q3o keys l p) (0,[]) = some (keys.map (q2b (keyL p l))):=by
  have:=Kx (f:=q3o keys l p) (σ:=List K2) (fun k c=>((k : Int),c)) keys.length (fun k c=>c = (keys.take k).map (q2b (keyL p l))) (fun c=>c = keys.map (q2b (keyL p l))) ?_ ?_ (k0:=0) (c0:=[]) q9 qc
  · obtain ⟨b,o,rfl⟩:=this;exact o
  · rintro k c hk rfl;have hb : decide ((k : Int) < (keys.length : Int)) = true:=Q8 q9;have r:=qb4 p l;have n:=q1v (L:=keyL p l) (k:=keys[k]);obtain ⟨q,_⟩:=ql4 (s:=Y5 (keyL p l) keys[k]) q9 (fun t m=>qhr h _ _ (q3d.1 m))
    have a : (cond (decide ((k : Int) > 0)) ((idx keys (k : Int)).bind fun d=>(idx keys (w64 ((k : Int) - 1))).bind fun g=>some (d == g)) (some false)) = some false:=by
      cases k with
      | zero=>rfl
      | succ k=>
        rw [Q8 (show ((k + 1 : Nat) : Int) > 0 by omega),Q6,K0 hk,Qd q9,q6w (k:=k) q9 q9];have:=List.pairwise_iff_getElem.1 hs k (k + 1) q9 hk q9;have : (keys[k + 1] == keys[k]) = false:=by simp;omega
        simp only [qr,this]
    simp only [K0 hk,qr] at a;refine .inl ⟨_,?_,rfl⟩;simp only [q3o,hb,Q6,a,qr,Q7,qq1 l p j h keys k hk,q,K0 hk];rw [Ye (by simp;omega),Qd q9,List.take_succ_eq_append_getElem hk,List.map_append];rfl
  · rintro c rfl;have hb : decide ((keys.length : Int) < (keys.length : Int)) = false:=Q9 q9;exact ⟨_,by simp only [q3o,hb,Q7];rfl,by rw [List.take_length]⟩
def asc (L : List K2) : List (Int × List qh):=L.map fun x=>(x.At,x.Spans)
theorem qi0 (l : List Qw) (p : Bool) (o : l.length≤400) (d : ∀ s∈l,SegV s) : ∃ L,q59 l p = some L∧Rep (asc L) (onL (keyL p l))∧(L.map (·.At)).Pairwise (· < ·):=by
  have z:=qb4 p l;obtain ⟨keys,u,⟨m,r⟩,y⟩:=qko ((keyL p l).map (·.1)) (by simp;omega);simp only [List.length_map] at y;have g : ((keys.map (q2b (keyL p l))).map (·.At)) = keys:=by rw [List.map_map];exact List.map_id _
  have b : (asc (keys.map (q2b (keyL p l)))).map (·.1) = keys:=by simp [asc,q2b,Function.comp_def]
  have n : ∀ k v,(k,v)∈asc (keys.map (q2b (keyL p l)))→v = uniS (Y5 (keyL p l) k):=by
    intro k v h;simp only [asc,List.map_map,List.mem_map,Function.comp,Prod.mk.injEq] at h;obtain ⟨a,_,rfl,rfl⟩:=h;rfl
  have j : ∀ k,Uni (Y5 (keyL p l) k) (uniS (Y5 (keyL p l) k)):=fun k=>(ql4 (by have:=q1v (L:=keyL p l) (k:=k);omega) (fun t c=>qhr d _ _ (q3d.1 c))).2;refine ⟨keys.map (q2b (keyL p l)),?_,⟨?_,fun k v h=>?_,fun k v h=>?_,fun k v h x=>?_,fun k x h=>?_,?_,fun k h=>?_⟩,by rw [g];exact m⟩
  · unfold q59;rw [qpz l p o];simp only [qr,u,qq0 l p o d keys m q9]
  · rw [b];exact m.imp fun h e=>by omega
  · rw [n k v h];exact (j k).good
  · rw [n k v h];have:=(j k).len;have:=q1v (L:=keyL p l) (k:=k);omega
  · rw [n k v h,(j k).pts,qhi]
  · rw [b,r];obtain ⟨q,w,rfl,_⟩:=h;exact List.mem_map_of_mem (f:=(·.1)) w
  · simp [asc];omega
  · rw [b,r] at h;obtain ⟨⟨a,t⟩,c,rfl⟩:=List.mem_map.1 h;cases p
    · exact qge d _ _ c
    · exact qk7 d _ _ c
end Go.Sh
namespace Go.Sh
open Go Go.Am
open Classical
def q3f (e n w s : Bool) : Bool:=(e || n || w || s) && !(e && !n && w && !s) && !(!e && n && !w && s)
noncomputable def arB (F G : Int→Int→Prop) (x y : Int) : Bool × Bool × Bool × Bool:=(decide (F y x),decide (G x y),decide (F y (x - 1)),decide (G x (y - 1)))
def Y7 (F G : Int→Int→Prop) (x y : Int) : Prop:=q3f (decide (F y x)) (decide (G x y)) (decide (F y (x - 1))) (decide (G x (y - 1))) = true
def PtB (p : qf) : Prop:=-1000000≤p.X∧p.X≤1000000∧-1000000≤p.Y∧p.Y≤1000000
section
variable {F G : Int→Int→Prop}
theorem qfs {r : Y8} (b : Rep r.rows_ F) (a : Rep r.columns_ G) {p : qf} (hp : PtB p) : q66 r p = some (arB F G p.X p.Y):=by
  obtain ⟨d,g,j,c⟩:=hp;unfold q66 arB;have f:=b.getlen p.Y;have h:=a.getlen p.X;rw [Qd q9,Qd q9,q4m _ _ q9,q4m _ _ q9,q4m _ _ q9,q4m _ _ q9];simp only [qr,decide_eq_decide.2 (b.get _ _),decide_eq_decide.2 (a.get _ _)]
theorem qqw {r : Y8} (f : Rep r.rows_ F) (g : Rep r.columns_ G) {p : qf} (hp : PtB p) : qa2 r p = some (decide (Y7 F G p.X p.Y)):=by
  unfold qa2;rw [qfs f g hp];simp only [qr,arB]
  have e : decide (Y7 F G p.X p.Y) = q3f (decide (F p.Y p.X)) (decide (G p.X p.Y)) (decide (F p.Y (p.X - 1))) (decide (G p.X (p.Y - 1))):=by
    unfold Y7;cases q3f (decide (F p.Y p.X)) (decide (G p.X p.Y)) (decide (F p.Y (p.X - 1))) (decide (G p.X (p.Y - 1))) <;> simp
  rw [e];generalize decide (F p.Y p.X) = a;generalize decide (G p.X p.Y) = b;generalize decide (F p.Y (p.X - 1)) = c;generalize decide (G p.X (p.Y - 1)) = d;revert a b c d;decide
theorem quu {L : List K2} {i : Nat} (hi : i < L.length) (x : Int) (p : (L[i]).Spans.length≤800) : loop (q2j L (i : Int) x) 0 = some (if has (L[i]).Spans x then .inr true else .inl ()):=by
  have:=Kx (f:=q2j L (i : Int) x) (σ:=Unit) (fun k _=>(k : Int)) (L[i]).Spans.length (fun k _=>∀ j (h : j < (L[i]).Spans.length),j < k→¬ ((L[i]).Spans[j].Lo≤x∧x < (L[i]).Spans[j].Hi)) (fun c=>c = if has (L[i]).Spans x then .inr true else .inl ()) ?_ ?_ (k0:=0) (c0:=()) q9 (fun j h o=>q9)
  · obtain ⟨b,a,rfl⟩:=this;exact a
  · rintro k _ hk h;have hb : decide ((k : Int) < ((L[i]).Spans.length : Int)) = true:=Q8 q9;by_cases d : (L[i]).Spans[k].Lo≤x∧x < (L[i]).Spans[k].Hi
    · refine .inr ⟨.inr true,?_,?_⟩
      · simp only [q2j,K0 hi,qr,hb,Q6,K0 hk,Q8 d.1,Q8 d.2]
      · rw [qz ⟨_,Kw hk,d⟩]
    · refine .inl ⟨(),?_,fun j g n=>?_⟩
      · simp only [q2j,K0 hi,qr,hb,Q6,K0 hk];rw [Qd q9];by_cases a : (L[i]).Spans[k].Lo≤x
        · simp only [Q8 a,Q6,qr,Q9 (fun l=>d ⟨a,l⟩),Q7];rfl
        · simp only [Q9 a,Q7,qr];rfl
      · by_cases e : j = k
        · subst e;exact d
        · exact h j g q9
  · rintro _ h;have hb : decide (((L[i]).Spans.length : Int) < ((L[i]).Spans.length : Int)) = false:=Q9 q9;refine ⟨.inl (),by simp only [q2j,K0 hi,qr,hb,Q7],?_⟩;rw [qy];rintro ⟨t,m,a⟩;obtain ⟨j,g,rfl⟩:=List.mem_iff_getElem.1 m;exact h j g g a
theorem qak {L : List K2} {i : Nat} (hi : i < L.length) : (L[i].At,L[i].Spans)∈asc L:=List.mem_map.2 ⟨_,Kw hi,rfl⟩
theorem qbt {L : List K2} (h : Rep (asc L) F) (k x : Int) : q2h L k x = some (decide (F k x)):=by
  have r : L.length≤400:=by have:=h.cnt;simpa [asc] using this
  have:=Kx (f:=q2i L k x) (σ:=Unit) (fun j _=>(j : Int)) L.length (fun j _=>∀ i (hi : i < L.length),i < j→L[i].At = k→¬ F k x) (fun c=>c = if F k x then .inr true else .inl ()) ?_ ?_ (k0:=0) (c0:=()) q9 (fun j h u=>q9)
  · obtain ⟨b,n,rfl⟩:=this;have n : loop (q2i L k x) 0 = some (if F k x then .inr true else .inl ()):=n;unfold q2h;rw [n];by_cases d : F k x
    · simp [d]
    · simp [d]
  · rintro j _ g o;have hb : decide ((j : Int) < (L.length : Int)) = true:=Q8 q9;by_cases e : L[j].At = k
    · have q : (L[j].At != k) = false:=by simp [e]
      have hs:=h.pts _ _ (qak g) x;rw [e] at hs;simp only [q2i,hb,Q6,K0 g,qr,q,Q7,quu g x (h.len _ _ (qak g))];by_cases d : F k x
      · refine .inr ⟨.inr true,?_,by rw [qz d]⟩;rw [qz (hs.2 d)];rfl
      · refine .inl ⟨(),?_,fun i hi p m=>?_⟩
        · rw [qy (fun n=>d (hs.1 n)),Qd q9];rfl
        · exact d
    · have q : (L[j].At != k) = true:=by simp [e]
      refine .inl ⟨(),?_,fun i hi p m=>?_⟩
      · simp only [q2i,hb,Q6,K0 g,qr,q];rw [Qd q9];rfl
      · by_cases O : i = j
        · subst O;exact absurd m e
        · exact o i hi q9 m
  · rintro _ o;have hb : decide ((L.length : Int) < (L.length : Int)) = false:=Q9 q9;refine ⟨.inl (),by simp only [q2i,hb,Q7],?_⟩;rw [qy];intro d;obtain ⟨⟨a,v⟩,t,rfl⟩:=List.mem_map.1 (h.all _ _ d);obtain ⟨l,s,m⟩:=List.mem_map.1 t;obtain ⟨i,hi,rfl⟩:=List.mem_iff_getElem.1 s;cases m;exact o i hi hi rfl d
theorem qjs {L M : List K2} (b : Rep (asc L) F) (a : Rep (asc M) G) {p : qf} (hp : PtB p) : q54 L M p = some (arB F G p.X p.Y):=by
  obtain ⟨d,f,g,c⟩:=hp;unfold q54 arB;rw [Qd q9,Qd q9,qbt b,qbt a,qbt b,qbt a];rfl
theorem qph {L M : List K2} (f : Rep (asc L) F) (g : Rep (asc M) G) {p : qf} (hp : PtB p) : q1r L M p = some (decide (Y7 F G p.X p.Y)):=by
  unfold q1r;rw [qjs f g hp];simp only [qr,arB]
  have e : decide (Y7 F G p.X p.Y) = q3f (decide (F p.Y p.X)) (decide (G p.X p.Y)) (decide (F p.Y (p.X - 1))) (decide (G p.X (p.Y - 1))):=by
    unfold Y7;cases q3f (decide (F p.Y p.X)) (decide (G p.X p.Y)) (decide (F p.Y (p.X - 1))) (decide (G p.X (p.Y - 1))) <;> simp
  rw [e];generalize decide (F p.Y p.X) = a;generalize decide (G p.X p.Y) = b;generalize decide (F p.Y (p.X - 1)) = c;generalize decide (G p.X (p.Y - 1)) = d;revert a b c d;decide
theorem qcm {s : List qh} (b : Can s) (x : Int) : (∃ t∈s,t.Lo = x)↔has s x∧¬ has s (x - 1):=by
  constructor
  · rintro ⟨t,a,rfl⟩;have:=b.1 t a;refine ⟨⟨t,a,q9,q9⟩,?_⟩;rintro ⟨u,g,f,d⟩;obtain ⟨i,hi,rfl⟩:=List.mem_iff_getElem.1 a;obtain ⟨j,c,rfl⟩:=List.mem_iff_getElem.1 g;rcases Nat.lt_trichotomy i j with h | h | h
    · have:=List.pairwise_iff_getElem.1 b.2 i j hi c h;omega
    · subst h;omega
    · have:=List.pairwise_iff_getElem.1 b.2 j i c hi h;omega
  · rintro ⟨⟨t,a,f,d⟩,k⟩;refine ⟨t,a,?_⟩;by_cases e : t.Lo = x
    · exact e
    · exact absurd ⟨t,a,q9,q9⟩ k
theorem qfw {s : List qh} (b : Can s) (x : Int) : (∃ t∈s,t.Hi = x)↔¬ has s x∧has s (x - 1):=by
  constructor
  · rintro ⟨t,a,rfl⟩;have:=b.1 t a;refine ⟨?_,⟨t,a,q9,q9⟩⟩;rintro ⟨u,g,f,d⟩;obtain ⟨i,hi,rfl⟩:=List.mem_iff_getElem.1 a;obtain ⟨j,c,rfl⟩:=List.mem_iff_getElem.1 g;rcases Nat.lt_trichotomy i j with h | h | h
    · have:=List.pairwise_iff_getElem.1 b.2 i j hi c h;omega
    · subst h;omega
    · have:=List.pairwise_iff_getElem.1 b.2 j i c hi h;omega
  · rintro ⟨k,⟨t,a,f,d⟩⟩;refine ⟨t,a,?_⟩;by_cases e : t.Hi = x
    · exact e
    · exact absurd ⟨t,a,q9,q9⟩ k
end
end Go.Sh
namespace Go.Sh
open Go Go.Am
theorem qts : qa0 = q39:=rfl
theorem qst : q1l = q26:=by
  funext p0;simp only [q1l,q26,qts]
  all_goals exact Qi
theorem qjg : Jl = Un:=by
  funext p0;simp only [Jl,Un,qst]
  all_goals exact Qi
theorem qt5 : U8 = q1g:=by
  funext p0;simp only [U8,q1g,qjg]
  all_goals exact Qi
theorem qtt : U9 = q1j:=by
  funext p0;simp only [U9,q1j]
  all_goals exact Qi
theorem qt3 : q8b = Jd:=by
  funext p1 q1 a459;simp only [q8b,Jd]
  all_goals exact Qi
theorem qt2 : q8a = Ur:=by
  funext p2 p1 q1 a278;simp only [q8a,Ur,qt3]
  all_goals exact Qi
theorem qt1 : q89 = q1f:=by
  funext q1 p0 p1 p2;simp only [q89,q1f,qt2]
  all_goals exact Qi
theorem qtr : q9p = Jh:=by
  funext p2 p3 q1 a197;simp only [q9p,Jh]
  all_goals exact Qi
theorem qji : q60 = U2:=by
  funext q1 p0 p1 p2 p3;simp only [q60,U2,qtr]
  all_goals exact Qi
theorem qsz : q81 = Up:=by
  funext q1 p2 p1 a123;simp only [q81,Up,qji]
  all_goals exact Qi
theorem qt0 : q82 = Uq:=by
  funext p1 q1 a191;simp only [q82,Uq,qji]
  all_goals exact Qi
theorem qsy : q80 = q1e:=by
  funext q1 p0 p1 p2;simp only [q80,q1e,qsz,qt0]
  all_goals exact Qi
theorem qt6 : q42 = Jx:=by
  funext q1 p0 p1 p2 p3;simp only [q42,Jx]
  all_goals exact Qi
theorem qjh : q5i = Jw:=by
  funext q1 p0 p1 p2 p3 p4;simp only [q5i,Jw,qt6]
  all_goals exact Qi
theorem qt4 : q3z = Je:=by
  funext q1 p0 p1 p2;simp only [q3z,Je,qjh]
  all_goals exact Qi
theorem qsx : q7v = q1d:=by
  funext p0 p1 p2 p3;simp only [q7v,q1d,qjh,qt4]
  all_goals exact Qi
theorem qtq : q9l = Ux:=by
  funext a119;simp only [q9l,Ux]
  all_goals exact Qi
theorem qtp : q9k = Uw:=by
  funext q1 p0 p1 p2;simp only [q9k,Uw,qtq]
  all_goals exact Qi
theorem qt9 : q8i = Jy:=by
  funext p2 a438 q1 a681;simp only [q8i,Jy]
  all_goals exact Qi
theorem qta : q8j = Jf:=by
  funext q1 a838;simp only [q8j,Jf]
  all_goals exact Qi
theorem qtb : q8k = Jz:=by
  funext p2 q1 b684 a928;simp only [q8k,Jz]
  all_goals exact Qi
theorem qt8 : q5n = Zg:=by
  funext p2 q1 p1 a438;have a : @q5n.match_1.{1} = @Zg.match_1.{1} qf:=by funext motive m f g;cases m <;> rfl
  unfold q5n Zg;rw [a];simp only [qt9,qta,qtb]
theorem qt7 : q5m = J3:=by
  funext q1 p0 p1 p2;have a : @q5m.match_1.{1} = @J3.match_1.{1} qf:=by funext motive m f g;cases m <;> rfl
  unfold q5m J3;rw [a];simp only [qt8]
theorem qtf : q9c = U0:=by
  funext a318 p1 q1 a378;simp only [q9c,U0]
  all_goals exact Qi
theorem qtg : q9d = U1:=by
  funext b381 a318 p1 q1 a463;simp only [q9d,U1]
  all_goals exact Qi
theorem qte : q9b = Uu:=by
  funext p1 q1 a318;simp only [q9b,Uu,qtf,qtg]
  all_goals exact Qi
theorem qtd : q9a = Ut:=by
  funext q1 p0 p1 p2 p3;simp only [q9a,Ut,qte]
  all_goals exact Qi
theorem qth : q8v = q1h:=by
  funext p2 p0 p1 v101 p3 v103 q1 a163;simp only [q8v,q1h]
  all_goals exact Qi
theorem qti : q8w = q1i:=by
  funext b166 p0 p1 v101 p3 v103 q1 a249;simp only [q8w,q1i]
  all_goals exact Qi
theorem qtk : q8y = Zu:=by
  funext a514 p1 q1 a572;simp only [q8y,Zu]
  all_goals exact Qi
theorem qtl : q8z = Zv:=by
  funext b575 a514 p1 q1 a658;simp only [q8z,Zv]
  all_goals exact Qi
theorem qtj : q8x = Uv:=by
  funext p1 q1 a514;simp only [q8x,Uv,qtk,qtl]
  all_goals exact Qi
theorem qtc : q8u = Us:=by
  funext q1 p0 p1 p2 p3;simp only [q8u,Us,qth,qti,qtj]
  all_goals exact Qi
theorem qsw : q7r = Jv:=by
  funext p1 p2 r101 a153;simp only [q7r,Jv,qtt]
  all_goals exact Qi
theorem qsv : q7q = Uo:=by
  funext q1 p0 p1 p2;simp only [q7q,Uo,qt5,qsw]
  all_goals exact Qi
theorem qtn : q5u = Z8:=by
  funext q1 rec a412;have a : @q5u.match_1.{1} = @Z8.match_1.{1} qf:=by funext motive m f g;cases m <;> rfl
  unfold q5u Z8;rw [a];simp only [qt1,qsy,qsx,qtp,qt7,qtd,qtc,qsv]
theorem qto : q5v = Jg:=by
  funext rec q1 p0 p1 p2 p3;simp only [q5v,Jg,qtn]
  all_goals exact Qi
theorem qtm : ∀ N q,q5t N q = Z4 N q:=by
  intro N q
  induction N with
  | zero=>rfl
  | succ N ih=>
    funext a b c d;show q5v (q5t N q) q a b c d = Jg (Z4 N q) q a b c d;rw [ih,qto]
theorem qsu : q5f = q1c:=by
  funext q1 p0;simp only [q5f,q1c,qjg,qtm]
  all_goals exact Qi
end Go.Sh
namespace Go.Sh
open Go Go.Am
theorem qod : qa0 = q39:=rfl
theorem qne : q1l = q26:=by
  funext p0;simp only [q1l,q26,qod]
  all_goals exact Qi
theorem qgk : Jl = Un:=by
  funext p0;simp only [Jl,Un,qne]
  all_goals exact Qi
theorem qnq : U8 = q1g:=by
  funext p0;simp only [U8,q1g,qgk]
  all_goals exact Qi
theorem qoe : U9 = q1j:=by
  funext p0;simp only [U9,q1j]
  all_goals exact Qi
theorem qno : q88 = Jd:=by
  funext p1 q1 a459;simp only [q88,Jd]
  all_goals exact Qi
theorem qnn : q87 = Ur:=by
  funext p2 p1 q1 a278;simp only [q87,Ur,qno]
  all_goals exact Qi
theorem qnm : q86 = q1f:=by
  funext q1 p0 p1 p2;simp only [q86,q1f,qnn]
  all_goals exact Qi
theorem qoc : q9o = Jh:=by
  funext p2 p3 q1 a197;simp only [q9o,Jh]
  all_goals exact Qi
theorem qgm : q5z = U2:=by
  funext q1 p0 p1 p2 p3;simp only [q5z,U2,qoc]
  all_goals exact Qi
theorem qnk : q7y = Up:=by
  funext q1 p2 p1 a123;simp only [q7y,Up,qgm]
  all_goals exact Qi
theorem qnl : q7z = Uq:=by
  funext p1 q1 a191;simp only [q7z,Uq,qgm]
  all_goals exact Qi
theorem qnj : q7x = q1e:=by
  funext q1 p0 p1 p2;simp only [q7x,q1e,qnk,qnl]
  all_goals exact Qi
theorem qnr : q41 = Jx:=by
  funext q1 p0 p1 p2 p3;simp only [q41,Jx]
  all_goals exact Qi
theorem qgl : q5h = Jw:=by
  funext q1 p0 p1 p2 p3 p4;simp only [q5h,Jw,qnr]
  all_goals exact Qi
theorem qnp : q3y = Je:=by
  funext q1 p0 p1 p2;simp only [q3y,Je,qgl]
  all_goals exact Qi
theorem qni : q7u = q1d:=by
  funext p0 p1 p2 p3;simp only [q7u,q1d,qgl,qnp]
  all_goals exact Qi
theorem qob : q9j = Ux:=by
  funext a119;simp only [q9j,Ux]
  all_goals exact Qi
theorem qoa : q9i = Uw:=by
  funext q1 p0 p1 p2;simp only [q9i,Uw,qob]
  all_goals exact Qi
theorem qnu : q8f = Jy:=by
  funext p2 a438 q1 a681;simp only [q8f,Jy]
  all_goals exact Qi
theorem qnv : q8g = Jf:=by
  funext q1 a838;simp only [q8g,Jf]
  all_goals exact Qi
theorem qnw : q8h = Jz:=by
  funext p2 q1 b684 a928;simp only [q8h,Jz]
  all_goals exact Qi
theorem qnt : q5l = Zg:=by
  funext p2 q1 p1 a438;have a : @q5l.match_1.{1} = @Zg.match_1.{1} qm:=by funext motive m f g;cases m <;> rfl
  unfold q5l Zg;rw [a];simp only [qnu,qnv,qnw]
theorem qns : q5k = J3:=by
  funext q1 p0 p1 p2;have a : @q5k.match_1.{1} = @J3.match_1.{1} qm:=by funext motive m f g;cases m <;> rfl
  unfold q5k J3;rw [a];simp only [qnt]
theorem qo0 : q98 = U0:=by
  funext a318 p1 q1 a378;simp only [q98,U0]
  all_goals exact Qi
theorem qo1 : q99 = U1:=by
  funext b381 a318 p1 q1 a463;simp only [q99,U1]
  all_goals exact Qi
theorem qnz : q97 = Uu:=by
  funext p1 q1 a318;simp only [q97,Uu,qo0,qo1]
  all_goals exact Qi
theorem qny : q96 = Ut:=by
  funext q1 p0 p1 p2 p3;simp only [q96,Ut,qnz]
  all_goals exact Qi
theorem qo2 : q8p = q1h:=by
  funext p2 p0 p1 v101 p3 v103 q1 a163;simp only [q8p,q1h]
  all_goals exact Qi
theorem qo3 : q8q = q1i:=by
  funext b166 p0 p1 v101 p3 v103 q1 a249;simp only [q8q,q1i]
  all_goals exact Qi
theorem qo5 : q8s = Zu:=by
  funext a514 p1 q1 a572;simp only [q8s,Zu]
  all_goals exact Qi
theorem qo6 : q8t = Zv:=by
  funext b575 a514 p1 q1 a658;simp only [q8t,Zv]
  all_goals exact Qi
theorem qo4 : q8r = Uv:=by
  funext p1 q1 a514;simp only [q8r,Uv,qo5,qo6]
  all_goals exact Qi
theorem qnx : q8o = Us:=by
  funext q1 p0 p1 p2 p3;simp only [q8o,Us,qo2,qo3,qo4]
  all_goals exact Qi
theorem qnh : q7p = Jv:=by
  funext p1 p2 r101 a153;simp only [q7p,Jv,qoe]
  all_goals exact Qi
theorem qng : q7o = Uo:=by
  funext q1 p0 p1 p2;simp only [q7o,Uo,qnq,qnh]
  all_goals exact Qi
theorem qo8 : q5r = Z8:=by
  funext q1 rec a412;have a : @q5r.match_1.{1} = @Z8.match_1.{1} qm:=by funext motive m f g;cases m <;> rfl
  unfold q5r Z8;rw [a];simp only [qnm,qnj,qni,qoa,qns,qny,qnx,qng]
theorem qo9 : q5s = Jg:=by
  funext rec q1 p0 p1 p2 p3;simp only [q5s,Jg,qo8]
  all_goals exact Qi
theorem qo7 : ∀ N q,q5q N q = Z4 N q:=by
  intro N q
  induction N with
  | zero=>rfl
  | succ N ih=>
    funext a b c d;show q5s (q5q N q) q a b c d = Jg (Z4 N q) q a b c d;rw [ih,qo9]
theorem qnf : q3x = q1c:=by
  funext q1 p0;simp only [q3x,q1c,qgk,qo7]
  all_goals exact Qi
end Go.Sh
namespace Go.Sh
open Go Go.Am
theorem qc4 {α : Type} {lt : α→α→Prop} (hs : ∀ a b,lt a b→¬ lt b a) : ∀ {s t : List α},s.Pairwise lt→t.Pairwise lt→(∀ x,x∈s↔x∈t)→s = t
  | [],[],_,_,_=>rfl
  | [],b::t,_,_,h=>by have:=(h b).2 qc;cases this
  | a::s,[],_,_,h=>by have:=(h a).1 qc;cases this
  | a::s,b::t,h1,h2,h=>by
    rw [List.pairwise_cons] at h1 h2
    have e : a = b:=by
      rcases List.mem_cons.1 ((h a).1 qc) with e | e
      · exact e
      · rcases List.mem_cons.1 ((h b).2 qc) with d | d
        · exact d.symm
        · exact absurd (h1.1 b d) (hs _ _ (h2.1 a e))
    subst e
    congr 1
    refine qc4 hs h1.2 h2.2 fun x=>⟨fun c=>?_,fun c=>?_⟩
    · rcases List.mem_cons.1 ((h x).1 (by simp [c])) with rfl | e
      · exact absurd (h1.1 x c) (hs _ _ (h1.1 x c))
      · exact e
    · rcases List.mem_cons.1 ((h x).2 (by simp [c])) with rfl | e
      · exact absurd (h2.1 x c) (hs _ _ (h2.1 x c))
      · exact e
def ltP (a b : qf) : Prop:=a.X < b.X∨(a.X = b.X∧a.Y < b.Y)
instance (a b : qf) : Decidable (ltP a b):=by unfold ltP;exact inferInstance
theorem q3c (a b : qf) : ltP a b→¬ ltP b a:=by unfold ltP;omega
theorem qdp {a b : qf} (h : ¬ ltP a b) (d : a≠b) : ltP b a:=by
  obtain ⟨f,j⟩:=a;obtain ⟨bx,c⟩:=b;have : ¬ (f = bx∧j = c):=fun ⟨g,h3⟩=>d (by rw [g,h3]);unfold ltP at *;simp only at *;omega
theorem swoP : Sort.SWO (fun a b=>decide (ltP a b)) where
  irrefl:=by intro x;simp only [decide_eq_false_iff_not,ltP];omega
  trans:=by
    intro x y z d c;have d:=of_decide_eq_true d;have c:=of_decide_eq_true c;exact Q8 (by unfold ltP at *;omega)
  ntrans:=by
    intro x y z d c;have d:=of_decide_eq_false d;have c:=of_decide_eq_false c;exact Q9 (by unfold ltP at *;omega)
instance : Inhabited qf:=⟨⟨0,0⟩⟩
instance : Inhabited qm:=⟨⟨0,0⟩⟩
theorem qgf {x y : qf} (c : PtB x) (b : PtB y) : ∃ n : Int,q15 x y = some n∧decide (n < 0) = decide (ltP x y):=by
  obtain ⟨f,g,k,d⟩:=c;obtain ⟨b1,j,l,h⟩:=b;unfold q15 ltP;by_cases e : x.X = y.X
  · have a : (x.X != y.X) = false:=by simp [e]
    rw [a,Q7,Qd q9];exact ⟨_,rfl,decide_eq_decide.2 q9⟩
  · have a : (x.X != y.X) = true:=by simp [e]
    rw [a,Q6,Qd q9];exact ⟨_,rfl,decide_eq_decide.2 q9⟩
theorem qxj (xs : List qf) (l : xs.length≤1000000) (hb : ∀ p∈xs,PtB p) (q : xs.Nodup) : ∃ ys,q5f (fun c f=>q15 c f) xs = some ys∧ys.Perm xs∧ys.Pairwise ltP:=by
  have cmp : Y4 (fun c f=>q15 c f) (fun a b=>decide (ltP a b)) PtB:=by
    intro x y o m;exact qgf o m
  obtain ⟨ys,j,g,n⟩:=qf2 cmp swoP xs l hb;refine ⟨ys,by rw [qsu];exact j,g,?_⟩;have d:=(g.nodup_iff).2 q;refine (n.and d).imp ?_;rintro a b ⟨h,k⟩;exact qdp (of_decide_eq_false h) (fun e=>k e.symm)
def eP2 (e : qm) : qf:={X:=e.A,Y:=e.B}
def ltG (a b : qm) : Prop:=ltP (eP2 a) (eP2 b)
theorem qq8 (a b : qm) : ltG a b→¬ ltG b a:=q3c _ _
theorem qxi (xs : List qm) (k : xs.length≤1000000) (hb : ∀ p∈xs,PtB (eP2 p)) (q : xs.Nodup) : ∃ ys,q3x (fun f j=>q1y f j) xs = some ys∧ys.Perm xs∧ys.Pairwise ltG:=by
  have cmp : Y4 (fun f j=>q1y f j) (fun a b=>decide (ltP (eP2 a) (eP2 b))) (fun e=>PtB (eP2 e)):=by
    intro x y o l;obtain ⟨n,c,d⟩:=qgf o l;refine ⟨n,?_,d⟩;show q1y x y = _;unfold q1y;have c : q15 {X:=x.A,Y:=x.B} {X:=y.A,Y:=y.B} = some n:=c;rw [c];rfl
  have h : Sort.SWO (fun a b : qm=>decide (ltP (eP2 a) (eP2 b))):=⟨fun x=>swoP.irrefl (eP2 x),fun x y z=>swoP.trans (eP2 x) (eP2 y) (eP2 z),fun x y z=>swoP.ntrans (eP2 x) (eP2 y) (eP2 z)⟩
  obtain ⟨ys,c,d,m⟩:=qf2 cmp h xs k hb;refine ⟨ys,by rw [qnf];exact c,d,?_⟩;have g:=(d.nodup_iff).2 q;refine (m.and g).imp ?_;rintro ⟨u,v⟩ ⟨b1,t⟩ ⟨r,s⟩;refine qdp (of_decide_eq_false r) (fun e=>s ?_);simp only [eP2,qf.mk.injEq] at e;rw [e.1,e.2]
structure KS (a : List (qf × Bool)) (S : qf→Prop) : Prop where
  nd : (a.map (·.1)).Nodup
  val : ∀ e∈a,e.2 = true
  mem : ∀ p,p∈a.map (·.1)↔S p
theorem KS.nil : KS [] (fun _=>False):=⟨.nil,fun e h=>(by cases h),fun p=>qc⟩
theorem KS.put {a : List (qf × Bool)} {S : qf→Prop} (h : KS a S) (p : qf) : KS (Kl p true a) (fun q=>S q∨q = p):=by
  refine ⟨qe1 h.nd,?_,fun q=>?_⟩
  · rintro ⟨q,b⟩ c;rcases (qds h.nd q b).1 c with ⟨_,rfl⟩ | ⟨_,c⟩
    · rfl
    · exact h.val _ c
  · rw [q77,h.mem];exact or_comm
theorem KS.congr {a : List (qf × Bool)} {S T : qf→Prop} (h : KS a S) (e : ∀ p,S p↔T p) : KS a T:=⟨h.nd,h.val,fun p=>(h.mem p).trans (e p)⟩
theorem KS.perm {a b : List (qf × Bool)} {S : qf→Prop} (h : KS a S) (c : KS b S) : a.Perm b:=by
  have o : a.Nodup:=(List.pairwise_map.1 h.nd).imp fun h e=>h (by rw [e]);have n : b.Nodup:=(List.pairwise_map.1 c.nd).imp fun h e=>h (by rw [e]);rw [List.perm_ext_iff_of_nodup o n];rintro ⟨p,v⟩
  have key : ∀ {x y : List (qf × Bool)},KS x S→KS y S→(p,v)∈x→(p,v)∈y:=by
    intro x y k j l;have m:=k.val _ l;obtain ⟨⟨q,w⟩,d,e⟩:=List.mem_map.1 ((j.mem p).2 ((k.mem p).1 (List.mem_map_of_mem (f:=(·.1)) l)));have g:=j.val _ d;simp only at m g e;rw [m];rw [← g,← e];exact d
  exact ⟨key h c,key c h⟩
theorem KS.le {a b : List (qf × Bool)} {S T : qf→Prop} (h : KS a S) (d : KS b T) (c : ∀ p,S p→T p) : a.length≤b.length:=by
  have:=List.Nodup.length_le_of_subset h.nd (l₂:=b.map (·.1)) fun p hp=>(d.mem p).2 (c p ((h.mem p).1 hp));simpa using this
theorem q4q {α ε ρ : Type} {R : α→ε→Option (α ⊕ ρ)} {a a' : α} {e : ε} {l : List ε} (h : R a e = some (.inl a')) : Kk R (e::l) a = Kk R l a':=by simp only [Kk,h]
theorem qpv {α ε ρ : Type} {R : α→ε→Option (α ⊕ ρ)} {a : α} {x : ρ} {e : ε} {l : List ε} (h : R a e = some (.inr x)) : Kk R (e::l) a = some (.inr x):=by simp only [Kk,h]
end Go.Sh
namespace Go.Sh
open Go Go.Am
open Classical
theorem qea {α ε ρ : Type} {E : α→α→Prop} {R : α→ε→Option (α ⊕ ρ)} {es : List ε} {a : α} (h : ∀ l : List ε,l.Perm es→∃ m b,Kk R es a = some m∧Kk R l a = some b∧MEq E b m) : U6 E R es a = some ():=by
  unfold U6;rw [qz h]
theorem qwg {ε β : Type} {F : List ε→Option β} {es : List ε} (h : ∀ l : List ε,l.Perm es→F l = F es) : q3w F es = some ():=by
  unfold q3w;rw [qz h]
section
variable {F G : Int→Int→Prop} {r : Y8}
def J6 (F G : Int→Int→Prop) (y : Int) (t : qh) (p : qf) : Prop:=p.Y = y∧(((p.X = t.Lo∨p.X = t.Hi)∧Y7 F G p.X p.Y)∨(t.Lo < p.X∧p.X < t.Hi∧(G p.X y∨G p.X (y - 1))))
def q6j (F G : Int→Int→Prop) (x : Int) (t : qh) (p : qf) : Prop:=p.X = x∧(p.Y = t.Lo∨p.Y = t.Hi)∧Y7 F G p.X p.Y
theorem qle (j : Rep r.columns_ G) {t : qh} {y : Int} {w : List qh} (m : -1000000≤y∧y≤1000000) {c : Int × List qh} (k : c∈r.columns_) (a : List (qf × Bool)) :
    q2w t (y,w) a c = some (.inl (if t.Lo < c.1∧c.1 < t.Hi∧(G c.1 y∨G c.1 (y - 1)) then Kl ({X:=c.1,Y:=y} : qf) true a else a)):=by
  obtain ⟨x,h⟩:=c;have l:=j.len x h k;have hp:=j.pts x h k;unfold q2w;simp only;by_cases b : t.Lo < x
  · rw [Q8 (show x > t.Lo from b),Q6,qr];by_cases d : x < t.Hi
    · rw [Q8 d,Q6,q4m _ _ q9,qr,Qd q9,q4m _ _ q9];rw [decide_eq_decide.2 (hp y),decide_eq_decide.2 (hp (y - 1))];by_cases g : G x y
      · rw [Q8 g];simp [b,d,g]
      · rw [Q9 g];by_cases f : G x (y - 1)
        · rw [Q8 f];simp [b,d,f]
        · rw [Q9 f];simp [b,d,g,f]
    · rw [Q9 d];simp [d]
  · rw [Q9 (show ¬ x > t.Lo from b)];simp [b]
theorem q6d (f : Rep r.columns_ G) {t : qh} {y : Int} {w : List qh} (g : -1000000≤y∧y≤1000000) : ∀ (l : List (Int × List qh)),(∀ c∈l,c∈r.columns_)→∀ {a : List (qf × Bool)} {S : qf→Prop},KS a S→
    ∃ a',Kk (q2w t (y,w)) l a = some (.inl a')∧KS a' (fun p=>S p∨∃ c∈l,p = {X:=c.1,Y:=y}∧t.Lo < c.1∧c.1 < t.Hi∧(G c.1 y∨G c.1 (y - 1)))
  | [],_,a,S,h=>⟨a,rfl,h.congr fun p=>qc⟩
  | c::l,hl,a,S,h=>by
    have hs:=qle f (t:=t) (w:=w) g (hl c qc) a
    by_cases b : t.Lo < c.1∧c.1 < t.Hi∧(G c.1 y∨G c.1 (y - 1))
    · rw [qz b] at hs
      obtain ⟨a',e1,j⟩:=q6d f g l (fun d hd=>hl d (by simp [hd])) (h.put {X:=c.1,Y:=y})
      refine ⟨a',by rw [q4q hs];exact e1,j.congr fun p=>?_⟩
      constructor
      · rintro ((h | h) | ⟨d,hd,h⟩)
        · exact .inl h
        · exact .inr ⟨c,qc,h,b⟩
        · exact .inr ⟨d,by simp [hd],h⟩
      · rintro (h | ⟨d,hd,h⟩)
        · exact .inl (.inl h)
        · rcases List.mem_cons.1 hd with rfl | hd
          · exact .inl (.inr h.1)
          · exact .inr ⟨d,hd,h⟩
    · rw [qy b] at hs
      obtain ⟨a',e1,j⟩:=q6d f g l (fun d hd=>hl d (by simp [hd])) h
      refine ⟨a',by rw [q4q hs];exact e1,j.congr fun p=>?_⟩
      constructor
      · rintro (h | ⟨d,hd,h⟩)
        · exact .inl h
        · exact .inr ⟨d,by simp [hd],h⟩
      · rintro (h | ⟨d,hd,h⟩)
        · exact .inl h
        · rcases List.mem_cons.1 hd with rfl | hd
          · exact absurd h.2 b
          · exact .inr ⟨d,hd,h⟩
theorem qlf (f : Rep r.columns_ G) {t : qh} {y : Int} {w : List qh} (g : -1000000≤y∧y≤1000000) {a : List (qf × Bool)} {S : qf→Prop} (h : KS a S) : U6 (fun (x y : List (qf × Bool))=>List.Perm x y) (q2w t (y,w)) r.columns_ a = some ():=by
  refine qea fun l d=>?_;obtain ⟨n,e1,j⟩:=q6d f (t:=t) (w:=w) g r.columns_ (fun c b=>b) h;obtain ⟨o,k,m⟩:=q6d f (t:=t) (w:=w) g l (fun c b=>(d.mem_iff).1 b) h;refine ⟨_,_,e1,k,?_⟩;show o.Perm n;refine KS.perm (m.congr fun p=>?_) j;simp only [d.mem_iff]
theorem qbo (d : Rep r.rows_ F) (c : Rep r.columns_ G) {p : qf} (hp : PtB p) {a : List (qf × Bool)} {S : qf→Prop} (h : KS a S) :
    ∃ a',q2u p r.rows_ r.columns_ a = some a'∧KS a' (fun q=>S q∨(q = p∧Y7 F G p.X p.Y))∧a'.length≤a.length + 1:=by
  unfold q2u;rw [qqw (r:={rows_:=r.rows_,columns_:=r.columns_}) d c (p:={X:=p.X,Y:=p.Y}) hp,qr];by_cases b : Y7 F G p.X p.Y
  · rw [Q8 b];exact ⟨_,rfl,(h.put p).congr fun q=>by simp [b],qil⟩
  · rw [Q9 b];exact ⟨_,rfl,h.congr fun q=>by simp [b],q9⟩
theorem qxu (m : Rep r.rows_ F) (j : Rep r.columns_ G) {y : Int} {v : List qh} (u : (y,v)∈r.rows_) {k : Nat} (hk : k < v.length) {a : List (qf × Bool)} {S : qf→Prop} (h : KS a S) :
    ∃ a',KS a' (fun p=>S p∨J6 F G y v[k] p)∧q2v (y,v) r ((k : Int),a) = if 400 < a'.length then some (.inr (.inr ([],false))) else some (.inl (((k + 1 : Nat) : Int),a')):=by
  have g:=m.key y (List.mem_map_of_mem (f:=(·.1)) u);have hv:=(m.good y v u).1 _ (Kw hk);have hl:=m.len y v u;obtain ⟨v1,v2,v3⟩:=hv;have hb : decide ((k : Int) < (v.length : Int)) = true:=Q8 q9;obtain ⟨a1,e1,k1,_⟩:=qbo m j (p:={X:=(v[k]).Lo,Y:=y}) ⟨by simp only;omega,by simp only;omega,g.1,g.2⟩ h;obtain ⟨a2,e2,z,_⟩:=qbo m j (p:={X:=(v[k]).Hi,Y:=y}) ⟨by simp only;omega,by simp only;omega,g.1,g.2⟩ k1;obtain ⟨n,e3,k3⟩:=q6d j (t:=v[k]) (w:=v) g r.columns_ (fun c o=>o) z;have e4:=qlf j (t:=v[k]) (w:=v) g z;refine ⟨n,k3.congr fun p=>?_,?_⟩
  · unfold J6;constructor
    · rintro (((h | ⟨rfl,h⟩) | ⟨rfl,h⟩) | ⟨c,o,rfl,s,q,d⟩)
      · exact .inl h
      · exact .inr ⟨rfl,.inl ⟨.inl rfl,h⟩⟩
      · exact .inr ⟨rfl,.inl ⟨.inr rfl,h⟩⟩
      · exact .inr ⟨rfl,.inr ⟨s,q,d⟩⟩
    · rintro (h | ⟨rfl,⟨h | h,x⟩ | ⟨s,q,d⟩⟩)
      · exact .inl (.inl (.inl h))
      · have : p = {X:=(v[k]).Lo,Y:=p.Y}:=by rw [← h]
        exact .inl (.inl (.inr ⟨this,by rw [← h];exact x⟩))
      · have : p = {X:=(v[k]).Hi,Y:=p.Y}:=by rw [← h]
        exact .inl (.inr ⟨this,by rw [← h];exact x⟩)
      · have l : p.X∈r.columns_.map (·.1):=by rcases d with d | d <;> exact j.all _ _ d
        obtain ⟨c,o,he⟩:=List.mem_map.1 l;refine .inr ⟨c,o,?_,?_⟩
        · rw [he]
        · rw [he];exact ⟨s,q,d⟩
  · simp only [q2v,hb,Q6,K0 hk,qr,e1,e2,e4,e3];by_cases b : 400 < n.length
    · rw [qz b,Q8 (show (n.length : Int) > 400 by omega),Q6]
    · rw [qy b,Q9 (show ¬ (n.length : Int) > 400 by omega),Q7,Qd q9];rfl
theorem qv6 (x : Rep r.rows_ F) (s : Rep r.columns_ G) {y : Int} {v : List qh} (u : (y,v)∈r.rows_) {a : List (qf × Bool)} {S : qf→Prop} (h : KS a S) (w : a.length≤400) :
    (∃ a',Ua r a (y,v) = some (.inl a')∧KS a' (fun p=>S p∨∃ t∈v,J6 F G y t p)∧a'.length≤400)∨
    (Ua r a (y,v) = some (.inr ([],false))∧∃ b T,KS b T∧400 < b.length∧∀ p,T p→S p∨∃ t∈v,J6 F G y t p):=by
  have q : ∀ k (hk : k < v.length) p,(∃ t∈v.take (k + 1),J6 F G y t p)↔(∃ t∈v.take k,J6 F G y t p)∨J6 F G y v[k] p:=by
    intro k hk p;rw [List.take_succ_eq_append_getElem hk];constructor
    · rintro ⟨t,g,h⟩;rcases List.mem_append.1 g with g | g
      · exact .inl ⟨t,g,h⟩
      · rw [List.mem_singleton] at g;subst g;exact .inr h
    · rintro (⟨t,g,h⟩ | h)
      · exact ⟨t,List.mem_append_left _ g,h⟩
      · exact ⟨v[k],List.mem_append_right _ (List.mem_singleton.2 rfl),h⟩
  have:=Kx (f:=q2v (y,v) r) (σ:=List (qf × Bool)) (fun k c=>((k : Int),c)) v.length (fun k c=>KS c (fun p=>S p∨∃ t∈v.take k,J6 F G y t p)∧c.length≤400)
    (fun o=>(∃ a',o = .inl a'∧KS a' (fun p=>S p∨∃ t∈v,J6 F G y t p)∧a'.length≤400)∨(o = .inr ([],false)∧∃ b T,KS b T∧400 < b.length∧∀ p,T p→S p∨∃ t∈v,J6 F G y t p)) ?_ ?_ (k0:=0) (c0:=a) q9 ⟨h.congr fun p=>qc,w⟩
  · obtain ⟨o,e1,z⟩:=this;have e1 : loop (q2v (y,v) r) (0,a) = some o:=e1;rcases z with ⟨a',rfl,j,l⟩ | ⟨rfl,j⟩
    · exact .inl ⟨a',by unfold Ua;rw [e1];rfl,j,l⟩
    · exact .inr ⟨by unfold Ua;rw [e1];rfl,j⟩
  · rintro k c hk ⟨m,n⟩;obtain ⟨a',j,e1⟩:=qxu x s u hk m;have l : KS a' (fun p=>S p∨∃ t∈v.take (k + 1),J6 F G y t p):=j.congr fun p=>by rw [q k hk,or_assoc]
    by_cases d : 400 < a'.length
    · rw [qz d] at e1;refine .inr ⟨_,e1,.inr ⟨rfl,a',_,l,d,?_⟩⟩;rintro p (hp | ⟨t,g,hp⟩)
      · exact .inl hp
      · exact .inr ⟨t,List.mem_of_mem_take g,hp⟩
    · rw [qy d] at e1;exact .inl ⟨a',e1,l,q9⟩
  · rintro c ⟨m,n⟩;have hb : decide ((v.length : Int) < (v.length : Int)) = false:=Q9 q9;refine ⟨.inl c,by simp only [q2v,hb,Q7],.inl ⟨c,rfl,?_,n⟩⟩
    rwa [List.take_length] at m
def q11 (F G : Int→Int→Prop) (l : List (Int × List qh)) (p : qf) : Prop:=∃ e∈l,∃ t∈e.2,J6 F G e.1 t p
theorem qbu (n : Rep r.rows_ F) (m : Rep r.columns_ G) : ∀ (l : List (Int × List qh)),(∀ e∈l,e∈r.rows_)→∀ {a : List (qf × Bool)} {S : qf→Prop},KS a S→a.length≤400→
    (∃ a',Kk (Ua r) l a = some (.inl a')∧KS a' (fun p=>S p∨q11 F G l p)∧a'.length≤400)∨
    (Kk (Ua r) l a = some (.inr ([],false))∧∃ b T,KS b T∧400 < b.length∧∀ p,T p→S p∨q11 F G l p)
  | [],_,a,S,h,ha=>.inl ⟨a,rfl,h.congr fun p=>by simp [q11],ha⟩
  | (y,v)::l,hl,a,S,h,ha=>by
    have d : ∀ p,q11 F G ((y,v)::l) p↔(∃ t∈v,J6 F G y t p)∨q11 F G l p:=by
      intro p;simp [q11]
    rcases qv6 n m (hl (y,v) qc) h ha with ⟨a',e1,c,g⟩ | ⟨e1,b,T,c,g,q⟩
    · rcases qbu n m l (fun e s=>hl e (by simp [s])) c g with ⟨u,k,f,j⟩ | ⟨k,b,T,f,j,o⟩
      · exact .inl ⟨u,by rw [q4q e1];exact k,f.congr fun p=>by rw [d,or_assoc],j⟩
      · refine .inr ⟨by rw [q4q e1];exact k,b,T,f,j,fun p hp=>?_⟩
        rw [d,← or_assoc];exact o p hp
    · refine .inr ⟨qpv e1,b,T,c,g,fun p hp=>?_⟩
      rw [d,← or_assoc];exact .inl (q p hp)
theorem qv8 (o : Rep r.rows_ F) (k : Rep r.columns_ G) : U6 (fun (x y : List (qf × Bool))=>List.Perm x y) (Ua r) r.rows_ [] = some ():=by
  refine qea fun l j=>?_;have f : ∀ p,q11 F G l p↔q11 F G r.rows_ p:=by intro p;simp only [q11,j.mem_iff]
  have A:=qbu o k r.rows_ (fun e g=>g) KS.nil qc;have B:=qbu o k l (fun e g=>(j.mem_iff).1 g) KS.nil qc;rcases A with ⟨t,e1,d,u⟩ | ⟨e1,b,T,d,u,s⟩
  · rcases B with ⟨m,c,a,n⟩ | ⟨c,b,T,a,n,q⟩
    · refine ⟨_,_,e1,c,?_⟩;show m.Perm t;exact KS.perm (a.congr fun p=>by rw [f]) d
    · have:=a.le d (fun p hp=>by rcases q p hp with h | h;exact .inl h;exact .inr ((f p).1 h));omega
  · rcases B with ⟨m,c,a,n⟩ | ⟨c,_⟩
    · have:=d.le a (fun p hp=>by rcases s p hp with h | h;exact .inl h;exact .inr ((f p).2 h));omega
    · exact ⟨_,_,e1,c,rfl⟩
end
end Go.Sh
namespace Go.Sh
open Go Go.Am
open Classical
section
variable {F G : Int→Int→Prop} {r : Y8}
def q6l (F G : Int→Int→Prop) (l : List (Int × List qh)) (p : qf) : Prop:=∃ e∈l,∃ t∈e.2,q6j F G e.1 t p
theorem takeN {α : Type} {v : List α} {k : Nat} (hk : k < v.length) {P : α→Prop} : (∃ t∈v.take (k + 1),P t)↔(∃ t∈v.take k,P t)∨P v[k]:=by
  rw [List.take_succ_eq_append_getElem hk];constructor
  · rintro ⟨t,a,h⟩;rcases List.mem_append.1 a with a | a
    · exact .inl ⟨t,a,h⟩
    · rw [List.mem_singleton] at a;subst a;exact .inr h
  · rintro (⟨t,a,h⟩ | h)
    · exact ⟨t,List.mem_append_left _ a,h⟩
    · exact ⟨v[k],List.mem_append_right _ (List.mem_singleton.2 rfl),h⟩
theorem qmy (s : Rep r.rows_ F) (b : Rep r.columns_ G) {x : Int} {v : List qh} (l : (x,v)∈r.columns_) {a : List (qf × Bool)} {S : qf→Prop} (h : KS a S) :
    ∃ a',q2x r a (x,v) = some (.inl a')∧KS a' (fun p=>S p∨∃ t∈v,q6j F G x t p)∧a'.length≤a.length + 2 * v.length:=by
  have g:=b.key x (List.mem_map_of_mem (f:=(·.1)) l);have z:=b.len x v l
  have:=Kx (f:=q4a (x,v) r) (σ:=List (qf × Bool)) (fun k c=>((k : Int),c)) v.length (fun k c=>KS c (fun p=>S p∨∃ t∈v.take k,q6j F G x t p)∧c.length≤a.length + 2 * k)
    (fun o=>KS o (fun p=>S p∨∃ t∈v,q6j F G x t p)∧o.length≤a.length + 2 * v.length) ?_ ?_ (k0:=0) (c0:=a) q9 ⟨h.congr fun p=>qc,q9⟩
  · obtain ⟨o,e1,m⟩:=this;have e1 : loop (q4a (x,v) r) (0,a) = some o:=e1;exact ⟨o,by unfold q2x;rw [e1];rfl,m⟩
  · rintro k c hk ⟨j,n⟩;have hb : decide ((k : Int) < (v.length : Int)) = true:=Q8 q9;obtain ⟨v1,v2,v3⟩:=(b.good x v l).1 _ (Kw hk);obtain ⟨a1,e1,u,l1⟩:=qbo s b (p:={X:=x,Y:=(v[k]).Lo}) ⟨g.1,g.2,by simp only;omega,by simp only;omega⟩ j;obtain ⟨y,m,w,l2⟩:=qbo s b (p:={X:=x,Y:=(v[k]).Hi}) ⟨g.1,g.2,by simp only;omega,by simp only;omega⟩ u;refine .inl ⟨y,?_,w.congr fun p=>?_,q9⟩
    · simp only [q4a,hb,Q6,K0 hk,qr,e1,m];rw [Qd q9];rfl
    · rw [takeN hk];unfold q6j;constructor
      · rintro (((h | h) | ⟨rfl,h⟩) | ⟨rfl,h⟩)
        · exact .inl h
        · exact .inr (.inl h)
        · exact .inr (.inr ⟨rfl,.inl rfl,h⟩)
        · exact .inr (.inr ⟨rfl,.inr rfl,h⟩)
      · rintro (h | h | ⟨d,h | h,q⟩)
        · exact .inl (.inl (.inl h))
        · exact .inl (.inl (.inr h))
        · have : p = {X:=x,Y:=(v[k]).Lo}:=by rw [← h,← d]
          exact .inl (.inr ⟨this,by rw [← h,← d];exact q⟩)
        · have : p = {X:=x,Y:=(v[k]).Hi}:=by rw [← h,← d]
          exact .inr ⟨this,by rw [← h,← d];exact q⟩
  · rintro c ⟨j,n⟩;have hb : decide ((v.length : Int) < (v.length : Int)) = false:=Q9 q9;refine ⟨c,by simp only [q4a,hb,Q7],?_,n⟩
    rwa [List.take_length] at j
theorem qap (c : Rep r.rows_ F) (b : Rep r.columns_ G) : ∀ (l : List (Int × List qh)),(∀ e∈l,e∈r.columns_)→∀ {a : List (qf × Bool)} {S : qf→Prop},KS a S→
    ∃ a',Kk (q2x r) l a = some (.inl a')∧KS a' (fun p=>S p∨q6l F G l p)∧a'.length≤a.length + 1600 * l.length
  | [],_,a,S,h=>⟨a,rfl,h.congr fun p=>by simp [q6l],qc⟩
  | (x,v)::l,hl,a,S,h=>by
    obtain ⟨m,e1,d,n⟩:=qmy c b (hl (x,v) qc) h
    obtain ⟨j,k,f,o⟩:=qap c b l (fun e g=>hl e (by simp [g])) d
    have:=b.len x v (hl (x,v) qc)
    refine ⟨j,by rw [q4q e1];exact k,f.congr fun p=>?_,by simp only [List.length_cons];omega⟩
    rw [or_assoc];simp [q6l]
theorem qn5 (f : Rep r.rows_ F) (d : Rep r.columns_ G) {a : List (qf × Bool)} {S : qf→Prop} (h : KS a S) : U6 (fun (x y : List (qf × Bool))=>List.Perm x y) (q2x r) r.columns_ a = some ():=by
  refine qea fun l c=>?_;obtain ⟨k,e1,g,_⟩:=qap f d r.columns_ (fun e b=>b) h;obtain ⟨m,n,j,_⟩:=qap f d l (fun e b=>(c.mem_iff).1 b) h;refine ⟨_,_,e1,n,?_⟩;show m.Perm k;exact KS.perm (j.congr fun p=>by simp only [q6l,c.mem_iff]) g
theorem qff : ∀ (l : List (qf × Bool)) (acc : List qf),acc.length + l.length≤1000000→Kk q1z l acc = some (.inl (acc ++ l.map (·.1)))
  | [],acc,_=>by simp [Kk]
  | e::l,acc,h=>by
    simp only [List.length_cons] at h
    have hs : q1z acc e = some (.inl (acc ++ [e.1])):=by
      unfold q1z;rw [Ye (by simp;omega)];rfl
    rw [q4q hs,qff l _ (by simp;omega)]
    simp
theorem qfg {l : List (qf × Bool)} {S : qf→Prop} (h : KS l S) (b : l.length≤1000000) (hb : ∀ p,S p→PtB p) : ∃ ys,(Kk q1z l []).bind (q68 q2y) = some (ys,decide (ys.length≤400))∧ys.Pairwise ltP∧∀ p,p∈ys↔S p:=by
  obtain ⟨ys,e1,a,c⟩:=qxj (l.map (·.1)) (by simpa using b) (fun p hp=>hb p ((h.mem p).1 hp)) h.nd;refine ⟨ys,?_,c,fun p=>by rw [a.mem_iff,h.mem]⟩;rw [qff l [] (by simpa using b)];show q2y ([] ++ l.map (·.1)) = _;rw [List.nil_append];unfold q2y;have le : Qv ys.length (l.map (·.1)).length = some ():=by unfold Qv;rw [qz a.length_eq]
  rw [e1,qr,le,qr];congr 2;exact decide_eq_decide.2 (by have:=a.length_eq;omega)
theorem qe3 (g : Rep r.rows_ F) (k : Rep r.columns_ G) (p : qf) : (q11 F G r.rows_ p∨q6l F G r.columns_ p)↔Y7 F G p.X p.Y:=by
  constructor
  · rintro (⟨⟨y,v⟩,j,t,f,rfl,⟨_,h⟩ | ⟨h3,h4,o⟩⟩ | ⟨e,j,t,f,_,_,h⟩)
    · exact h
    · have g1 : F p.Y p.X:=(g.pts _ _ j _).1 ⟨t,f,q9,q9⟩;have g2 : F p.Y (p.X - 1):=(g.pts _ _ j _).1 ⟨t,f,q9,q9⟩;unfold Y7;rw [Q8 g1,Q8 g2];simp only at o;rcases o with o | o
      · rw [Q8 o];generalize decide (G p.X (p.Y - 1)) = b;revert b;decide
      · rw [Q8 o];generalize decide (G p.X p.Y) = b;revert b;decide
    · exact h
  · intro h
    have row : ∀ x,F p.Y x→∃ v,(p.Y,v)∈r.rows_:=fun x u=>by
      obtain ⟨⟨a,v⟩,c,j⟩:=List.mem_map.1 (g.all _ _ u);simp only at j;subst j;exact ⟨v,c⟩
    have q : ∀ y,G p.X y→∃ v,(p.X,v)∈r.columns_:=fun x u=>by
      obtain ⟨⟨a,v⟩,c,j⟩:=List.mem_map.1 (k.all _ _ u);simp only at j;subst j;exact ⟨v,c⟩
    by_cases e : F p.Y p.X <;> by_cases w : F p.Y (p.X - 1)
    ·
      obtain ⟨v,c⟩:=row _ e;have hc:=(g.good _ _ c).can;obtain ⟨t,f,t1,t2⟩:=(g.pts _ _ c _).2 e
      have ac : t.Lo≠p.X:=fun z=>by
        have:=((qcm hc p.X).1 ⟨t,f,z⟩).2;exact this ((g.pts _ _ c _).2 w)
      refine .inl ⟨(p.Y,v),c,t,f,rfl,.inr ⟨q9,t2,?_⟩⟩;unfold Y7 at h;rw [Q8 e,Q8 w] at h;by_cases n : G p.X p.Y
      · exact .inl n
      · by_cases s : G p.X (p.Y - 1)
        · exact .inr s
        · rw [Q9 n,Q9 s] at h;exact absurd h Q3
    · obtain ⟨v,c⟩:=row _ e;obtain ⟨t,f,d⟩:=(qcm (g.good _ _ c).can p.X).2 ⟨(g.pts _ _ c _).2 e,fun l=>w ((g.pts _ _ c _).1 l)⟩;exact .inl ⟨(p.Y,v),c,t,f,rfl,.inl ⟨.inl d.symm,h⟩⟩
    · obtain ⟨v,c⟩:=row _ w;obtain ⟨t,f,d⟩:=(qfw (g.good _ _ c).can p.X).2 ⟨fun l=>e ((g.pts _ _ c _).1 l),(g.pts _ _ c _).2 w⟩;exact .inl ⟨(p.Y,v),c,t,f,rfl,.inl ⟨.inr d.symm,h⟩⟩
    · right;have m:=h;unfold Y7 at m;rw [Q9 e,Q9 w] at m;by_cases n : G p.X p.Y <;> by_cases s : G p.X (p.Y - 1)
      · rw [Q8 n,Q8 s] at m;exact absurd m Q3
      · obtain ⟨v,c⟩:=q _ n;obtain ⟨t,f,d⟩:=(qcm (k.good _ _ c).can p.Y).2 ⟨(k.pts _ _ c _).2 n,fun l=>s ((k.pts _ _ c _).1 l)⟩;exact ⟨(p.X,v),c,t,f,rfl,.inl d.symm,h⟩
      · obtain ⟨v,c⟩:=q _ s;obtain ⟨t,f,d⟩:=(qfw (k.good _ _ c).can p.Y).2 ⟨fun l=>n ((k.pts _ _ c _).1 l),(k.pts _ _ c _).2 s⟩;exact ⟨(p.X,v),c,t,f,rfl,.inr d.symm,h⟩
      · rw [Q9 n,Q9 s] at m;exact absurd m Q3
theorem Rep.bnd {R : List (Int × List qh)} {F : Int→Int→Prop} (h : Rep R F) {k x : Int} (b : F k x) : -1000000≤k∧k≤1000000∧-1000000≤x∧x < 1000000:=by
  have hk:=h.key k (h.all _ _ b);obtain ⟨⟨a,v⟩,c,d⟩:=List.mem_map.1 (h.all _ _ b);simp only at d;subst d;obtain ⟨t,f,l,g⟩:=(h.pts _ _ c _).2 b;obtain ⟨m,j,n⟩:=(h.good _ _ c).1 t f;exact ⟨hk.1,hk.2,q9,q9⟩
theorem qe2 {C : List (Int × List qh)} {R : List (Int × List qh)} (b : Rep R F) (a : Rep C G) {x y : Int} (h : Y7 F G x y) : PtB {X:=x,Y:=y}:=by
  unfold PtB;simp only;by_cases e : F y x
  · have:=b.bnd e;omega
  · by_cases n : G x y
    · have:=a.bnd n;omega
    · by_cases w : F y (x - 1)
      · have:=b.bnd w;omega
      · by_cases s : G x (y - 1)
        · have:=a.bnd s;omega
        · unfold Y7 at h;rw [Q9 e,Q9 n,Q9 w,Q9 s] at h;exact absurd h Q3
structure Ze (F G : Int→Int→Prop) (N : List qf) : Prop where
  srt : N.Pairwise ltP
  mem : ∀ p,p∈N↔Y7 F G p.X p.Y
theorem qqx (d : Rep r.rows_ F) (c : Rep r.columns_ G) : (∃ N,Ze F G N∧N.length≤400∧q67 r = some (N,true))∨((∃ b : List qf,b.Nodup∧400 < b.length∧∀ p∈b,Y7 F G p.X p.Y)∧∃ q,q67 r = some (q,false)):=by
  unfold q67;rw [qv8 d c];simp only [qr];rcases qbu d c r.rows_ (fun e k=>k) KS.nil qc with ⟨a1,e1,f,v⟩ | ⟨e1,b,T,f,v,y⟩
  · rw [e1];simp only [qr];rw [qn5 d c f];simp only [qr];obtain ⟨t,x,k2,l2⟩:=qap d c r.columns_ (fun e k=>k) f;rw [x];simp only [qr];have hc:=c.cnt;have g : t.length≤1000000:=by omega
    have m : KS t (fun p=>Y7 F G p.X p.Y):=k2.congr fun p=>by
      rw [← qe3 d c p];simp
    have hb : ∀ p : qf,Y7 F G p.X p.Y→PtB p:=fun p hp=>qe2 d c hp;obtain ⟨ys,f1,s,u⟩:=qfg m g hb
    have j : q3w (fun l=>(Kk q1z l []).bind (q68 q2y)) t = some ():=by
      refine qwg fun l n=>?_;have k4 : KS l (fun p=>Y7 F G p.X p.Y):=⟨((n.map (·.1)).nodup_iff).2 m.nd,fun e k=>m.val e ((n.mem_iff).1 k),fun p=>by rw [((n.map (·.1)).mem_iff),m.mem]⟩
      obtain ⟨zs,z,w,g3⟩:=qfg k4 (by rw [n.length_eq];exact g) hb;simp only [f1,z];have : zs = ys:=qc4 q3c w s fun p=>by rw [g3,u]
      rw [this]
    rw [j];simp only [qr];rw [f1];by_cases o : ys.length≤400
    · exact .inl ⟨ys,⟨s,u⟩,o,by rw [Q8 o]⟩
    · refine .inr ⟨⟨ys,s.imp (by rintro a b h rfl;exact q3c a a h h),q9,fun p hp=>(u p).1 hp⟩,ys,by rw [Q9 o]⟩
  · rw [e1];refine .inr ⟨⟨b.map (·.1),f.nd,by simpa using v,fun p hp=>?_⟩,[],rfl⟩;rcases y p ((f.mem p).1 hp) with h | h
    · exact h.elim
    · exact (qe3 d c p).1 (.inl h)
end
end Go.Sh
namespace Go.Sh
open Go Go.Am
open Classical
theorem qpd {α : Type} (out : List α) (z v : α) (b : Nat) (hb : b≤out.length) :
    (cpyw (out ++ [z]) (b + 1,(out ++ [z]).length - (b + 1)) ((((out ++ [z]).drop b).take ((out ++ [z]).length - b)))).set b v = out.take b ++ v::out.drop b:=by
  have e1 : ((out ++ [z]).drop b).take ((out ++ [z]).length - b) = (out ++ [z]).drop b:=List.take_of_length_le qc;rw [e1];unfold cpyw splice;have h : (min ((out ++ [z]).drop b).length ((out ++ [z]).length - (b + 1))) = out.length - b:=by simp;omega
  simp only [h]
  have c : ((out ++ [z]).drop b).take (out.length - b) = out.drop b:=by
    rw [List.drop_append_of_le_length hb,List.take_append_of_le_length qc];exact List.take_of_length_le qc
  rw [c]
  have g : (out ++ [z]).drop (b + 1 + (out.drop b).length) = []:=by
    apply List.drop_of_length_le;simp;omega
  rw [g,List.append_nil]
  have a : ∃ y,(out ++ [z]).take (b + 1) = out.take b ++ [y]:=by
    refine ⟨(out ++ [z])[b]'(by simp;omega),?_⟩;rw [List.take_succ_eq_append_getElem (by simp;omega),List.take_append_of_le_length hb]
  obtain ⟨y,f⟩:=a
  have key : ∀ (xs ys : List α) (y v : α),(xs ++ (y::ys)).set xs.length v = xs ++ v::ys:=by
    intro xs ys y v
    induction xs with
    | nil=>rfl
    | cons x xs ih=>simp [ih]
  have d : (out.take b).length = b:=by simp;omega
  rw [f,List.append_assoc];have:=key (out.take b) (out.drop b) y v;rw [d] at this;exact this
theorem qpu (a b : qf) : q55 a b = some (decide (ltP a b)):=by
  unfold q55 ltP;by_cases c : a.X < b.X
  · simp [c]
  · by_cases d : a.X = b.X
    · have : (a.X == b.X) = true:=by simpa using d
      rw [Q9 c,Q7,this];simp [d]
    · have : (a.X == b.X) = false:=by simpa using d
      rw [Q9 c,Q7,this];simp [c,d]
theorem qu3 (N : List qf) (p : qf) (m : N.length≤1000) : ∃ b : Nat,loop (q2n N p) 0 = some (b : Int)∧b≤N.length∧(∀ j (h : j < N.length),j < b→ltP N[j] p)∧∀ (h : b < N.length),¬ ltP N[b] p:=by
  have:=Kx (f:=q2n N p) (σ:=Unit) (fun k _=>(k : Int)) N.length (fun k _=>∀ j (h : j < N.length),j < k→ltP N[j] p) (fun c=>∃ b : Nat,c = (b : Int)∧b≤N.length∧(∀ j (h : j < N.length),j < b→ltP N[j] p)∧∀ (h : b < N.length),¬ ltP N[b] p) ?_ ?_ (k0:=0) (c0:=()) q9 (fun j h n=>q9)
  · obtain ⟨c,e,b,rfl,h⟩:=this;exact ⟨b,e,h⟩
  · rintro k _ hk h;have hb : decide ((k : Int) < (N.length : Int)) = true:=Q8 q9;have d : q55 N[k] ({X:=p.X,Y:=p.Y} : qf) = some (decide (ltP N[k] p)):=qpu _ _;by_cases a : ltP N[k] p
    · refine .inl ⟨(),?_,fun j l g=>?_⟩
      · simp only [q2n,hb,Q6,K0 hk,qr,d,Q8 a];rw [Qd q9];rfl
      · by_cases e : j = k
        · subst e;exact a
        · exact h j l q9
    · refine .inr ⟨(k : Int),?_,k,rfl,q9,h,fun _=>a⟩;simp only [q2n,hb,Q6,K0 hk,qr,d,Q9 a,Q7]
  · rintro _ h;have hb : decide ((N.length : Int) < (N.length : Int)) = false:=Q9 q9;exact ⟨(N.length : Int),by simp only [q2n,hb,Q7,qr],N.length,rfl,q9,h,fun h=>q9⟩
theorem qq9 {a b c : qf} (d : ltP a b) (f : ltP b c) : ltP a c:=by unfold ltP at *;omega
theorem qv9 (N : List qf) (p : qf) (hl : N.length≤500) (hs : N.Pairwise ltP) : ∃ n,q2m N p = some n∧n.Pairwise ltP∧(∀ q,q∈n↔q∈N∨q = p)∧N.length≤n.length∧n.length≤N.length + 1:=by
  obtain ⟨b,e,hb,h1,y⟩:=qu3 N p q9;unfold q2m;rw [e,qr];by_cases r : ∃ h : b < N.length,N[b] = p
  · obtain ⟨d,v⟩:=r;have l : decide ((b : Int) < (N.length : Int)) = true:=Q8 q9;rw [l,Q6,K0 d,qr,v];simp only [beq_self_eq_true,Bool.and_self,qr,Q6];refine ⟨N,rfl,hs,fun q=>?_,q9,q9⟩;constructor
    · exact .inl
    · rintro (h | rfl)
      · exact h
      · rw [← v];exact Kw d
  · have l : (cond (decide ((b : Int) < (N.length : Int))) ((idx N (b : Int)).bind fun k=>some ((k.X == p.X) && ((k.Y == p.Y) && true))) (some false)) = some false:=by
      by_cases d : b < N.length
      · rw [Q8 (show (b : Int) < (N.length : Int) by omega),Q6,K0 d,qr];congr 1;have s : ¬ N[b] = p:=fun h=>r ⟨d,h⟩;by_cases e1 : N[b].X = p.X
        · have e2 : ¬ N[b].Y = p.Y:=fun h=>s (by
            have : N[b] = ⟨N[b].X,N[b].Y⟩:=rfl
            rw [this,e1,h])
          simp [e2]
        · simp [e1]
      · rw [Q9 (show ¬ (b : Int) < (N.length : Int) by omega),Q7]
    rw [l,qr,Q7,Ye (by simp;omega),qr]
    have x : sub2 (N ++ [({X:=0,Y:=0} : qf)]).length (w64 ((b : Int) + 1)) ((N ++ [({X:=0,Y:=0} : qf)]).length : Int) = some (b + 1,(N ++ [({X:=0,Y:=0} : qf)]).length - (b + 1)):=by
      unfold sub2;rw [Qd q9,qz (by simp;omega)];simp
    have w2 : sub2 (N ++ [({X:=0,Y:=0} : qf)]).length (b : Int) ((N ++ [({X:=0,Y:=0} : qf)]).length : Int) = some (b,(N ++ [({X:=0,Y:=0} : qf)]).length - b):=by
      unfold sub2;rw [qz (by simp;omega)];simp
    rw [x,qr,w2,qr];have z:=qpd N ({X:=0,Y:=0} : qf) p b hb
    have o : (cpyw (N ++ [({X:=0,Y:=0} : qf)]) (b + 1,(N ++ [({X:=0,Y:=0} : qf)]).length - (b + 1)) (((N ++ [({X:=0,Y:=0} : qf)]).drop b).take ((N ++ [({X:=0,Y:=0} : qf)]).length - b))).length = N.length + 1:=by
      rw [qat (by simp;omega)];simp
    rw [K0 (by rw [o];omega),qr,Int.toNat_natCast];have g : N = N.take b ++ N.drop b:=(List.take_append_drop b N).symm
    have hT : ∀ q∈N.take b,ltP q p:=by
      intro q t;obtain ⟨j,u,rfl⟩:=List.mem_iff_getElem.1 t;simp only [List.length_take] at u;rw [List.getElem_take];exact h1 j q9 q9
    have hD : ∀ q∈N.drop b,ltP p q:=by
      intro q t;obtain ⟨j,u,rfl⟩:=List.mem_iff_getElem.1 t;simp only [List.length_drop] at u;rw [List.getElem_drop];have m : ltP p N[b]:=qdp (y q9) (fun h=>r ⟨q9,h⟩);rcases Nat.eq_zero_or_pos j with rfl | h
      · exact m
      · exact qq9 m (List.pairwise_iff_getElem.1 hs b (b + j) q9 q9 q9)
    have f:=hs;rw [g,List.pairwise_append] at f;refine ⟨N.take b ++ p::N.drop b,congrArg some z,?_,fun q=>?_,?_,?_⟩
    · rw [List.pairwise_append,List.pairwise_cons];refine ⟨f.1,⟨hD,f.2.1⟩,fun a w c l=>?_⟩;rcases List.mem_cons.1 l with rfl | l
      · exact hT a w
      · exact f.2.2 a w c l
    · have : q∈N↔q∈N.take b∨q∈N.drop b:=by rw [← List.mem_append,← g]
      rw [List.mem_append,List.mem_cons,this];constructor
      · rintro (h | h | h) <;> simp [h]
      · rintro ((h | h) | h) <;> simp [h]
    · simp;omega
    · simp;omega
section
variable {F G : Int→Int→Prop} {L M : List K2}
structure JN (F G : Int→Int→Prop) (N : List qf) (S : qf→Prop) : Prop where
  srt : N.Pairwise ltP
  sub : ∀ p∈N,Y7 F G p.X p.Y
  all : N.length≤400→∀ p,S p→Y7 F G p.X p.Y→p∈N
  len : N.length≤402
theorem JN.congr {N : List qf} {S T : qf→Prop} (h : JN F G N S) (e : ∀ p,T p→S p) : JN F G N T:=⟨h.srt,h.sub,fun a p hp=>h.all a p (e p hp),h.len⟩
theorem qep (n : Rep (asc L) F) (l : Rep (asc M) G) {p : qf} (hp : PtB p) {N : List qf} {S : qf→Prop} (h : JN F G N S) (s : N.length≤401) :
    ∃ c,((q1r L M p).bind fun r=>cond r ((q2m N p).bind fun e=>some e) (some N)) = some c∧JN F G c (fun q=>S q∨q = p)∧N.length≤c.length∧c.length≤N.length + 1:=by
  rw [qph n l hp,qr];by_cases f : Y7 F G p.X p.Y
  · obtain ⟨c,e,k,g,o,j⟩:=qv9 N p q9 h.srt;rw [Q8 f,Q6,e];refine ⟨c,rfl,⟨k,fun q b=>?_,fun d q b a=>?_,q9⟩,o,j⟩
    · rcases (g q).1 b with m | rfl
      · exact h.sub q m
      · exact f
    · rcases b with b | rfl
      · exact (g q).2 (.inl (h.all q9 q b a))
      · exact (g q).2 (.inr rfl)
  · rw [Q9 f,Q7];refine ⟨N,rfl,⟨h.srt,h.sub,fun d q b a=>?_,h.len⟩,q9,q9⟩;rcases b with b | rfl
    · exact h.all d q b a
    · exact absurd a f
end
end Go.Sh
