/- Rs1 Rs2 Rs3 Qb1 Rs4 Qb2 Pf3 Rs5 Rs6 Rs7 Rs8 Pt6a Pt8a -/
import Derived.Test.YtlchefooafpdlaaGreatK11
namespace Go.Sh
open Go Go.Am
theorem qjh {α β : Type} {f : α→Option (α ⊕ β)} (st : Nat→α) (n : Nat) (ok : Nat→Prop) (b e : β)
    (step : ∀ k,k < n→(∀ j,j≤k→ok j)→f (st k) = some (.inl (st (k + 1))))
    (bad : ∀ k,k < n→(∀ j,j < k→ok j)→¬ ok k→f (st k) = some (.inr e))
    (done : (∀ j,j < n→ok j)→f (st n) = some (.inr b)) :
    ((∀ j,j < n→ok j)∧loop f (st 0) = some b)∨(∃ j,j < n∧¬ ok j∧loop f (st 0) = some e):=by
  by_cases h : ∀ j,j < n→ok j
  · exact .inl ⟨h,Zp st n b (fun k hk=>step k hk fun j hj=>h j q7) (done h) (Nat.zero_le _)⟩
  · refine .inr ?_
    have h2 : ∃ k,(k < n∧¬ ok k)∧∀ j,j < k→ok j:=by
      have : ∃ k,k < n∧¬ ok k:=by
        refine Classical.byContradiction fun hn=>h fun k hk=>?_
        exact Classical.byContradiction fun h=>hn ⟨k,hk,h⟩
      obtain ⟨k,hk⟩:=this
      induction k using Nat.strongRecOn with
      | _ k ih=>
        by_cases hj : ∃ j,j < k∧(j < n∧¬ ok j)
        · obtain ⟨j,h1,h2⟩:=hj;exact ih j h1 h2
        · exact ⟨k,hk,fun j h1=>Classical.byContradiction fun h=>hj ⟨j,h1,q7,h⟩⟩
    obtain ⟨K,⟨hK,hb⟩,hmin⟩:=h2
    exact ⟨K,hK,hb,Zp st K e (fun k hk=>step k q7 fun j hj=>hmin j q7) (bad K hK hmin hb) (Nat.zero_le _)⟩
theorem qfg (xs : List Int) (h : xs.length≤1000000) :
    ((Jr xs).bind fun e127=>(Qr e127.length xs.length).bind fun u129=>(Uq e127).bind fun e132=>(Qr e132.2.length e127.length).bind fun u134=>(Uw e132.2.length e132.1).bind fun u137=>some ((e132.2.drop e132.1.1).take e132.1.2)) = some (Qu xs):=by
  obtain ⟨ys,s1,s2,s3⟩:=qm0 xs h
  have hys : ys.length = xs.length:=s2.length_eq
  obtain ⟨w,a,c1,c2,c3,c4⟩:=qh9 s3 q7
  obtain ⟨_,d2,_⟩:=Uy h
  have huniq : a.take w = Qu xs:=by
    refine qm1 (l:=xs) ⟨c4.1,fun x=>?_⟩ d2
    rw [c4.2 x];exact s2.mem_iff
  simp only [Option.bind_some,s1,Qr,hys,if_true,c1,c2,Uw]
  rw [if_pos q7]
  simp only [Option.bind_some,List.drop_zero,huniq]
theorem qn1 (l : List ql) (o : List Int) (hl : l.length≤400) (ho : o.length≤10000) : loop (Zr l) (0,o) = some (o ++ xsOf l):=
  q47 l q7 (fun r=>[r.X0,r.X1]) o (fun o=>o) (Zr l) (fun k hk o' ho'=>by
    have h8 : o'.length = o.length + 2 * k:=by
      rw [ho',List.length_append];have:=q1v (l.take k);rw [List.length_take,Nat.min_eq_left q7] at this
      unfold xsOf at this;omega
    simp only [Zr,dlt hk,cond_true,K1 hk,Option.bind_some,w64s hk q7]
    rw [Za (by simp;omega)]
    rfl) (fun o=>by simp only [Zr,dnl,cond_false])
theorem qtz (l : List ql) (hl : l.length≤1000000) : q8d l (fun x0=>q2m x0) = some (decide (¬ ∀ r∈l,vR r)):=by
  have hs : ∀ (k : Nat) (h : k < l.length),q3n l (fun x0=>q2m x0) (k : Int) = some (if (fun r=>!decide (vR r)) l[k] = true then .inr (.inr (k : Int)) else .inl ((k + 1 : Nat) : Int)):=by
    intro k h
    simp only [q3n,dlt h,cond_true,K1 h,Option.bind_some,w64s h hl,q2m,qmu]
    by_cases hv : vR l[k] <;> simp [hv]
  have hd : q3n l (fun x0=>q2m x0) (l.length : Int) = some (.inr (.inl ())):=by simp only [q3n,dnl,cond_false]
  unfold q8d qbr
  rcases q7g l (fun r=>!decide (vR r)) (fun k _=>(k : Int)) () _ hs hd with ⟨h1,h2⟩ | ⟨k,hk,hc,_,h2⟩
  · rw [h2]
    have : ∀ r∈l,vR r:=fun r hr=>by simpa using h1 r hr
    simp []
    omega
  · rw [h2]
    have : ¬ ∀ r∈l,vR r:=fun h=>by simp [h _ (List.getElem_mem hk)] at hc
    simp only [Option.bind_some]
    rw [decide_eq_true this,decide_eq_true q7]
theorem qkv (l : List ql) : q1g l = some (mkR l):=by
  unfold q1g mkR
  by_cases h4 : 400 < l.length
  · rw [decide_eq_true (by omega : (l.length : Int) > 400),cond_true,if_pos h4]
  rw [decide_eq_false (by omega : ¬ (l.length : Int) > 400),cond_false,if_neg h4,qtz l q7,Option.bind_some]
  by_cases hv : ∀ r∈l,vR r
  · rw [decide_eq_false (fun h=>h hv),cond_false,qjj l q7 hv,if_pos hv];rfl
  · rw [decide_eq_true hv,cond_true,if_neg hv]
theorem qtw (p q : List ql) : q86 p q = some (if Kh p≠0 then Kh p else Kh q):=by
  unfold q86
  simp only [qet,Option.bind_some]
  by_cases h : Kh p = 0
  · simp [h]
  · have : (Kh p != 0) = true:=by simpa using h
    simp [h,this]
theorem rj1 : qbf = Zr:=rfl
theorem rj2 : qbg = Zr:=rfl
theorem rj4 : qbh = U6:=rfl
theorem rj5 : qbi = U6:=rfl
theorem qgw {p : List ql} (h : Kh p = 0) (x : Int) : Yb (covS p x) = 0∧Good (covS p x):=by
  obtain ⟨h1,h2,h3⟩:=q35.1 h
  have hg : Good (covS p x):=⟨qhe h2 x,(h3.cov x).2⟩
  have:=q1y p x
  refine ⟨?_,hg⟩
  unfold Yb
  rw [if_neg q7,if_pos hg]
theorem qk3 (kind : Int) {p q : List ql} (hp : Kh p = 0) (hq : Kh q = 0) (x : Int) : opS kind (covS p x) (covS q x) = if 400 < (secJ kind p q x).length then ([],4) else (secJ kind p q x,0):=by
  unfold opS
  rw [if_neg (by simp [(qgw hp x).1]),if_neg (by simp [(qgw hq x).1])]
  rfl
theorem qkx (kind : Int) (f : List qm→List qm→Option (List qm × Int)) (hf : ∀ a b,f a b = some (opS kind a b)) (p q : List ql) : q5h p q f = some (jR kind p q):=by
  unfold q5h jR
  rw [qtw,Option.bind_some]
  by_cases hp : ¬ Kh p = 0
  · rw [if_pos hp,if_pos hp]
    have : (Kh p != 0) = true:=by simpa using hp
    rw [this,cond_true]
  replace hp:=Classical.not_not.1 hp
  by_cases hq : ¬ Kh q = 0
  · rw [if_neg (by simp [hp]),if_neg (by simp [hp]),if_pos hq]
    have : (Kh q != 0) = true:=by simpa using hq
    rw [this,cond_true]
  replace hq:=Classical.not_not.1 hq
  rw [if_neg (by simp [hp]),if_neg (by simp [hp]),if_neg (by simp [hq]),hq]
  obtain ⟨lp,vp,cp⟩:=q35.1 hp
  obtain ⟨lq,vq,cq⟩:=q35.1 hq
  have hx1:=q1v p
  have hx2:=q1v q
  rw [show ((0 : Int) != 0) = false from rfl,cond_false]
  simp only [show idx [p,q] 0 = some p from rfl,show idx [p,q] 1 = some q from rfl,Option.bind_some,rj1,rj2,qn1 p [] lp qf,List.nil_append,qn1 q (xsOf p) lq q7]
  rw [qfg _ (by simp;omega)]
  simp only [Option.bind_some]
  obtain ⟨_,hso,hlen⟩:=Uy (l:=xsOf p ++ xsOf q) (by simp;omega)
  have hlen : (Qu (xsOf p ++ xsOf q)).length≤1600:=by simp at hlen;omega
  have hle : ∀ x,(secJ kind p q x).length≤(mrgR kind p q).length:=fun x=>qvp kind q7 x
  have hmr : mrgR kind p q = (Qo putR Qn (Yk (Qu (xsOf p ++ xsOf q)) (secJ kind p q))).flat putR:=rfl
  rw [hmr] at hle ⊢
  generalize Qu (xsOf p ++ xsOf q) = xs at hso hlen hle ⊢
  generalize hst : Yk xs (secJ kind p q) = steps at hle ⊢
  have hsl : steps.length = xs.length - 1:=by rw [← hst];exact qc7 _ _
  have hgk : ∀ k (hk : k < steps.length),steps[k] = (xs[k]'(q7),xs[k + 1]'(q7),secJ kind p q (xs[k]'(q7))):=fun k hk=>by subst hst;exact qfh hk q7
  have hml : ∀ k,k≤steps.length→(∀ j,j < k→∀ t,steps[j]? = some t→t.2.2.length≤400)→((Qo putR Qn (steps.take k)).flat putR).length≤1600 * 400:=fun k hk hj=>by
    have h1:=qaj putR (s0:=Qn) (M:=400) (steps:=steps.take k) (fun t ht=>by
      obtain ⟨i,hi,rfl⟩:=List.getElem_of_mem ht
      rw [List.length_take] at hi
      rw [List.getElem_take]
      exact hj i q7 _ (List.getElem?_eq_getElem q7))
    have h2 : (steps.take k).length≤1600:=by rw [List.length_take];omega
    have h3 : (Qn.flat putR : List ql).length = 0:=rfl
    have h4 : (steps.take k).length * 400≤1600 * 400:=Nat.mul_le_mul_right _ h2
    omega
  have hcov : ∀ x,loop (U6 p x) (0,[]) = some (covS p x):=fun x=>qe2 p lp x
  have hcoq : ∀ x,loop (U6 q x) (0,[]) = some (covS q x):=fun x=>qe2 q lq x
  have main:=qjh (f:=q3m xs p q f) (fun k=>(((k + 1 : Nat) : Int),(Qo putR Qn (steps.take k)).sec,((Qo putR Qn (steps.take k)).done.length : Int),(Qo putR Qn (steps.take k)).hi,(Qo putR Qn (steps.take k)).flat putR))
    steps.length (fun j=>∀ t,steps[j]? = some t→t.2.2.length≤400) (.inl ((Qo putR Qn steps).sec,((Qo putR Qn steps).done.length : Int),(Qo putR Qn steps).hi,(Qo putR Qn steps).flat putR)) (.inr ([],4))
    (fun k hk hj=>by
      have hk1 : k + 1 < xs.length:=by omega
      have hk0 : k < xs.length:=by omega
      have i1 : idx xs (w64 (((k + 1 : Nat) : Int) - 1)) = some xs[k]:=by rw [Q0 q7];exact J2 q7 q7
      have hc:=hj k (Nat.le_refl _) _ (List.getElem?_eq_getElem hk)
      have hm:=hml k q7 fun j hjk=>hj j q7
      rw [qak putR hk,hgk k hk] at *
      simp only at hc
      have hb:=qgk (Qo putR Qn (steps.take k)) xs[k] xs[k + 1] (secJ kind p q xs[k]) q7
      have ho : f (covS p xs[k]) (covS q xs[k]) = some (secJ kind p q xs[k],0):=by rw [hf,qk3 kind hp hq,if_neg q7]
      simp only [q3m,dlt hk1,cond_true,i1,K1 hk1,Option.bind_some,show idx [p,q] 0 = some p from rfl,show idx [p,q] 1 = some q from rfl,rj4,rj5,hcov,hcoq,ho,show ((0 : Int) != 0) = false from rfl,cond_false,hb]
      rw [w64s hk1 q7])
    (fun k hk hj hbad=>by
      have hk1 : k + 1 < xs.length:=by omega
      have hk0 : k < xs.length:=by omega
      have i1 : idx xs (w64 (((k + 1 : Nat) : Int) - 1)) = some xs[k]:=by rw [Q0 q7];exact J2 q7 q7
      have hc : 400 < (secJ kind p q xs[k]).length:=by
        refine Nat.lt_of_not_le fun h=>hbad fun t ht=>?_
        rw [List.getElem?_eq_getElem hk,hgk k hk] at ht
        cases ht;exact h
      have ho : f (covS p xs[k]) (covS q xs[k]) = some ([],4):=by rw [hf,qk3 kind hp hq,if_pos hc]
      simp only [q3m,dlt hk1,cond_true,i1,K1 hk1,Option.bind_some,show idx [p,q] 0 = some p from rfl,show idx [p,q] 1 = some q from rfl,rj4,rj5,hcov,hcoq,ho,show ((4 : Int) != 0) = true from rfl,cond_true])
    (fun _=>by
      have : decide (((steps.length + 1 : Nat) : Int) < (xs.length : Int)) = false:=decide_eq_false q7
      simp only [List.take_length,q3m,this,cond_false])
  have h00 : ((((0 + 1 : Nat) : Int),(Qo putR Qn (steps.take 0)).sec,((Qo putR Qn (steps.take 0)).done.length : Int),(Qo putR Qn (steps.take 0)).hi,(Qo putR Qn (steps.take 0)).flat putR) : Int × List qm × Int × Int × List ql) = (1,[],0,0,[]):=rfl
  rw [h00] at main
  rcases main with ⟨_,h2⟩ | ⟨j,hj,hbad,h2⟩
  · rw [h2]
    simp only [Option.bind_some]
    by_cases h4 : 400 < ((Qo putR Qn steps).flat putR).length
    · rw [decide_eq_true (by omega : (((Qo putR Qn steps).flat putR).length : Int) > 400),if_pos h4];rfl
    · rw [decide_eq_false (by omega : ¬ (((Qo putR Qn steps).flat putR).length : Int) > 400),if_neg h4];rfl
  · rw [h2]
    have hj0 : j < xs.length:=by omega
    have h5 : 400 < (secJ kind p q xs[j]).length:=by
      refine Nat.lt_of_not_le fun h=>hbad fun t ht=>?_
      rw [List.getElem?_eq_getElem hj,hgk j hj] at ht
      cases ht;exact h
    have h6:=hle xs[j]
    have h4 : 400 < ((Qo putR Qn steps).flat putR).length:=Nat.lt_of_lt_of_le h5 h6
    rw [if_pos h4];rfl
theorem qtu (p q : List ql) : q5d p q = some (jR 2 p q):=by
  unfold q5d;rw [qkx 2 _ (fun a b=>q10i a b)];rfl
theorem qts (p q : List ql) : q5c p q = some (jR 1 p q):=by
  unfold q5c;rw [qkx 1 _ (fun a b=>qrc a b)];rfl
end Go.Sh
namespace Go.Sh
open Go Go.Am
theorem qz2 (v : qi) : q6r v = some (decide ((-1000000≤v.X∧-1000000≤v.Y∧-1000000≤v.Z)∧v.X≤1000000∧v.Y≤1000000∧v.Z≤1000000)):=by
  unfold q6r
  by_cases h1 : min (min v.X v.Y) v.Z ≥ -1000000
  · by_cases h2 : max (max v.X v.Y) v.Z≤1000000
    · rw [decide_eq_true h1,decide_eq_true h2,cond_true,Option.bind_some];congr 1;exact (decide_eq_true q7).symm
    · rw [decide_eq_true h1,decide_eq_false h2,cond_true,Option.bind_some];congr 1;exact (decide_eq_false q7).symm
  · rw [decide_eq_false h1,cond_false,Option.bind_some];congr 1;exact (decide_eq_false q7).symm
theorem qz3 (b : qk) : q9d b = some (decide (vB b)):=by
  unfold q9d vB
  simp only [qz2,Option.bind_some]
  by_cases h1 : b.Lo.X < b.Hi.X
  · by_cases h2 : b.Lo.Y < b.Hi.Y
    · by_cases h3 : b.Lo.Z < b.Hi.Z
      · simp only [h1,h2,h3,decide_true,cond_true,Option.bind_some,true_and]
        by_cases h4 : (-1000000≤b.Lo.X∧-1000000≤b.Lo.Y∧-1000000≤b.Lo.Z)∧b.Lo.X≤1000000∧b.Lo.Y≤1000000∧b.Lo.Z≤1000000
        · rw [decide_eq_true h4]
          simp only [cond_true,Option.bind_some]
          congr 1
          exact decide_eq_decide.2 q7
        · rw [decide_eq_false h4]
          simp only [cond_false,Option.bind_some]
          congr 1
          exact (decide_eq_false q7).symm
      · simp [h1,h2,h3]
    · simp [h1,h2]
  · simp [h1]
theorem qz1 (l : List qk) (hl : l.length≤1000000) : q8f l (fun x0=>q2u x0) = some (decide (¬ ∀ r∈l,vB r)):=by
  have hs : ∀ (k : Nat) (h : k < l.length),q3p l (fun x0=>q2u x0) (k : Int) = some (if (fun r=>!decide (vB r)) l[k] = true then .inr (.inr (k : Int)) else .inl ((k + 1 : Nat) : Int)):=by
    intro k h
    simp only [q3p,dlt h,cond_true,K1 h,Option.bind_some,w64s h hl,q2u,qz3]
    by_cases hv : vB l[k] <;> simp [hv]
  have hd : q3p l (fun x0=>q2u x0) (l.length : Int) = some (.inr (.inl ())):=by simp only [q3p,dnl,cond_false]
  unfold q8f qbt
  rcases q7g l (fun r=>!decide (vB r)) (fun k _=>(k : Int)) () _ hs hd with ⟨h1,h2⟩ | ⟨k,hk,hc,_,h2⟩
  · rw [h2]
    have : ∀ r∈l,vB r:=fun r hr=>by simpa using h1 r hr
    simp []
    omega
  · rw [h2]
    have : ¬ ∀ r∈l,vB r:=fun h=>by simp [h _ (List.getElem_mem hk)] at hc
    simp only [Option.bind_some]
    rw [decide_eq_true this,decide_eq_true q7]
theorem qlu (s : Mg ql qk) (a b : Int) (c : List ql) (hl : (s.flat putB).length + c.length≤1000000) :
    q6o (s.flat putB) s.sec (s.done.length : Int) s.hi a b c = some ((addM putB s a b c).sec,((addM putB s a b c).done.length : Int),(addM putB s a b c).hi,(addM putB s a b c).flat putB):=by
  have hfl : (s.flat putB).length = s.done.length + s.sec.length:=by simp [Mg.flat]
  have hsec : s.sec.length≤1000000:=by omega
  unfold q6o
  rcases q48 putB s a b c with ⟨h1,h2,h3,h4⟩ | ⟨h1,h4⟩
  · have hb : decide ((c.length : Int) > 0) = true:=decide_eq_true (by have:=List.length_pos_iff.2 h1;omega)
    have he : (s.hi == a) = true:=by simpa using h3
    rw [h2] at hb
    rw [h4,h2]
    simp only [hb,cond_true,he,Option.bind_some,q4h _ _ hsec,decide_true]
    have:=qdh (fun v : qk=>({Lo:=v.Lo,Hi:=({X:=v.Hi.X,Y:=v.Hi.Y,Z:=b} : qi)} : qk)) s.done (s.sec.map (putB s.lo s.hi)) (by simp;omega) (q6p b) (fun k o hk ho=>by
      have h5 : (s.done ++ s.sec.map (putB s.lo s.hi)).length = (s.flat putB).length:=rfl
      simp only [q6p,dlt hk,cond_true,K1 hk,Option.bind_some,w64s hk q7,Int.toNat_natCast]) (fun o=>by simp only [q6p,dnl,cond_false])
    rw [show s.flat putB = s.done ++ s.sec.map (putB s.lo s.hi) from rfl,this]
    simp only [Option.bind_some,Mg.flat,List.map_map]
    rfl
  · rw [h4]
    have hc : ((cond (decide ((c.length : Int) > 0)) (some (s.hi == a)) (some false)).bind fun c101=>(cond c101 ((Ur s.sec c).bind fun r121=>some r121) (some false))) = some false:=by
      by_cases h5 : c = []
      · subst h5;simp
      · have hb : decide ((c.length : Int) > 0) = true:=decide_eq_true (by have:=List.length_pos_iff.2 h5;omega)
        simp only [hb,cond_true,Option.bind_some,q4h _ _ hsec]
        by_cases h6 : s.hi = a
        · have h7 : s.sec≠c:=fun h=>h1 ⟨h5,h.symm,h6⟩
          simp [h6,h7]
        · have : (s.hi == a) = false:=by simpa using h6
          simp [this]
    have hap:=qax c (putB a b) (s.flat putB) (fun o=>(c,((s.flat putB).length : Int),b,o)) (q6q c a b (s.flat putB)) (fun k hk o ho=>by
      simp only [q6q,dlt hk,cond_true,K1 hk,Option.bind_some,w64s hk q7]
      rw [Za (by simp;omega)]
      rfl) (fun o=>by simp only [q6q,dnl,cond_false])
    rw [← Option.bind_assoc,hc]
    simp only [Option.bind_some,cond_false,hap]
    simp [Mg.flat]
theorem qg3 (l : List qk) (o : List Int) (hl : l.length≤400) (ho : o.length≤10000) : loop (q1n l) (0,o) = some (o ++ zsOf l):=
  q47 l q7 (fun r=>[r.Lo.Z,r.Hi.Z]) o (fun o=>o) (q1n l) (fun k hk o' ho'=>by
    have h8 : o'.length = o.length + 2 * k:=by
      rw [ho',List.length_append];have:=q2z (l.take k);rw [List.length_take,Nat.min_eq_left q7] at this
      unfold zsOf at this;omega
    simp only [q1n,dlt hk,cond_true,K1 hk,Option.bind_some,w64s hk q7]
    rw [Za (by simp;omega)]
    rfl) (fun o=>by simp only [q1n,dnl,cond_false])
theorem q4b (l : List qk) (hl : l.length≤400) (x : Int) : loop (q1o l x) (0,[]) = some (atB l x):=by
  have:=q47 l q7 (fun r=>if covB x r = true then [J7 r] else []) [] (fun o=>o) (q1o l x) (fun k hk o ho=>by
    have h8 : o.length≤k:=by rw [ho,List.nil_append];have:=q4a (l.take k) x;rw [List.length_take,Nat.min_eq_left q7] at this;exact this
    simp only [q1o,dlt hk,cond_true,K1 hk,Option.bind_some,w64s hk q7]
    by_cases h1 : l[k].Lo.Z≤x
    · by_cases h2 : x < l[k].Hi.Z
      · simp only [h1,h2,decide_true,cond_true,Option.bind_some,covB,Bool.and_self,if_true]
        rw [Za (by simp;omega)]
        rfl
      · simp only [h1,h2,decide_true,decide_false,cond_true,cond_false,Option.bind_some,covB,Bool.and_false,if_false,Bool.false_eq_true,List.append_nil]
    · simp only [h1,decide_false,cond_false,Option.bind_some,covB,Bool.false_and,if_false,Bool.false_eq_true,List.append_nil]) (fun o=>by simp only [q1o,dnl,cond_false])
  rw [List.nil_append] at this
  exact this
theorem qlj {kind : Int} {p q : List qk} {xs : List Int} (hxs : Qu (zsOf p ++ zsOf q) = xs) (h : p.length + q.length≤800) (F : Int × List ql × Int × Int × List qk→Option ((Int × List ql × Int × Int × List qk) ⊕ ((List ql × Int × Int × List qk) ⊕ (List qk × Int))))
    (hgo : ∀ (a b : Int) (k : Nat) (s : Mg ql qk),(s.flat putB).length + 400≤1000000→(h1 : k + 1 < xs.length)→a = xs[k]'(q7)→b = xs[k + 1]'h1→(secB kind p q a).length≤400→
      F (((k + 1 : Nat) : Int),s.sec,(s.done.length : Int),s.hi,s.flat putB) = some (.inl (((k + 1 + 1 : Nat) : Int),(addM putB s a b (secB kind p q a)).sec,((addM putB s a b (secB kind p q a)).done.length : Int),(addM putB s a b (secB kind p q a)).hi,(addM putB s a b (secB kind p q a)).flat putB)))
    (hbad : ∀ (a : Int) (k : Nat) (s : Mg ql qk),(h1 : k + 1 < xs.length)→a = xs[k]'(q7)→400 < (secB kind p q a).length→
      F (((k + 1 : Nat) : Int),s.sec,(s.done.length : Int),s.hi,s.flat putB) = some (.inr (.inr ([],4))))
    (hend : ∀ (k : Nat) (s : Mg ql qk),xs.length≤k + 1→F (((k + 1 : Nat) : Int),s.sec,(s.done.length : Int),s.hi,s.flat putB) = some (.inr (.inl (s.sec,(s.done.length : Int),s.hi,s.flat putB)))) :
    (∃ a b c,loop F (1,[],0,0,[]) = some (.inl (a,b,c,mrgB kind p q)))∨(400 < (mrgB kind p q).length∧loop F (1,[],0,0,[]) = some (.inr ([],4))):=by
  have hx1:=q2z p
  have hx2:=q2z q
  obtain ⟨_,hso,hlen⟩:=Uy (l:=zsOf p ++ zsOf q) (by simp;omega)
  have hlen : (Qu (zsOf p ++ zsOf q)).length≤1600:=by simp at hlen;omega
  have hle : ∀ x,(secB kind p q x).length≤(mrgB kind p q).length:=fun x=>qvn kind q7 x
  have hmr : mrgB kind p q = (Qo putB Qn (Yk (Qu (zsOf p ++ zsOf q)) (secB kind p q))).flat putB:=rfl
  rw [hmr] at hle ⊢
  rw [hxs] at hso hlen hle ⊢
  generalize hst : Yk xs (secB kind p q) = steps at hle ⊢
  have hsl : steps.length = xs.length - 1:=by rw [← hst];exact qc7 _ _
  have hgk : ∀ k (hk : k < steps.length),steps[k] = (xs[k]'(q7),xs[k + 1]'(q7),secB kind p q (xs[k]'(q7))):=fun k hk=>by subst hst;exact qfh hk q7
  have hml : ∀ k,k≤steps.length→(∀ j,j < k→∀ t,steps[j]? = some t→t.2.2.length≤400)→((Qo putB Qn (steps.take k)).flat putB).length≤1600 * 400:=fun k hk hj=>by
    have h1:=qaj putB (s0:=Qn) (M:=400) (steps:=steps.take k) (fun t ht=>by
      obtain ⟨i,hi,rfl⟩:=List.getElem_of_mem ht
      rw [List.length_take] at hi
      rw [List.getElem_take]
      exact hj i q7 _ (List.getElem?_eq_getElem q7))
    have h2 : (steps.take k).length≤1600:=by rw [List.length_take];omega
    have h3 : (Qn.flat putB : List qk).length = 0:=rfl
    have h4 : (steps.take k).length * 400≤1600 * 400:=Nat.mul_le_mul_right _ h2
    omega
  have main:=qjh (f:=F) (fun k=>(((k + 1 : Nat) : Int),(Qo putB Qn (steps.take k)).sec,((Qo putB Qn (steps.take k)).done.length : Int),(Qo putB Qn (steps.take k)).hi,(Qo putB Qn (steps.take k)).flat putB))
    steps.length (fun j=>∀ t,steps[j]? = some t→t.2.2.length≤400) (.inl ((Qo putB Qn steps).sec,((Qo putB Qn steps).done.length : Int),(Qo putB Qn steps).hi,(Qo putB Qn steps).flat putB)) (.inr ([],4))
    (fun k hk hj=>by
      have hk1 : k + 1 < xs.length:=by omega
      have hc:=hj k (Nat.le_refl _) _ (List.getElem?_eq_getElem hk)
      have hm:=hml k q7 fun j hjk=>hj j q7
      rw [qak putB hk,hgk k hk] at *
      simp only at hc
      exact hgo _ _ k (Qo putB Qn (steps.take k)) q7 hk1 rfl rfl hc)
    (fun k hk hj hb=>by
      have hk1 : k + 1 < xs.length:=by omega
      have hk0 : k < xs.length:=by omega
      refine hbad _ k (Qo putB Qn (steps.take k)) hk1 rfl ?_
      refine Nat.lt_of_not_le fun h=>hb fun t ht=>?_
      rw [List.getElem?_eq_getElem hk,hgk k hk] at ht
      cases ht;exact h)
    (fun _=>by
      rw [List.take_length]
      exact hend steps.length _ q7)
  have h00 : ((((0 + 1 : Nat) : Int),(Qo putB Qn (steps.take 0)).sec,((Qo putB Qn (steps.take 0)).done.length : Int),(Qo putB Qn (steps.take 0)).hi,(Qo putB Qn (steps.take 0)).flat putB) : Int × List ql × Int × Int × List qk) = (1,[],0,0,[]):=rfl
  rw [h00] at main
  rcases main with ⟨_,h2⟩ | ⟨j,hj,hb,h2⟩
  · exact .inl ⟨_,_,_,h2⟩
  · refine .inr ⟨?_,h2⟩
    have hj0 : j < xs.length:=by omega
    have h5 : 400 < (secB kind p q xs[j]).length:=by
      refine Nat.lt_of_not_le fun h=>hb fun t ht=>?_
      rw [List.getElem?_eq_getElem hj,hgk j hj] at ht
      cases ht;exact h
    exact Nat.lt_of_lt_of_le h5 (hle xs[j])
theorem que (l : List qk) (hl : l.length≤400) (hv : ∀ b∈l,vB b) : q9f l = some (if 400 < (mrgB 2 l []).length then ([],4) else (mrgB 2 l [],0)):=by
  unfold q9f
  have hx1:=q2z l
  simp only [show idx [l] 0 = some l from rfl,Option.bind_some,qg3 l [] hl qf,List.nil_append]
  rw [qfg _ q7]
  simp only [Option.bind_some]
  have hz : zsOf l = zsOf l ++ zsOf []:=by simp [zsOf]
  obtain ⟨_,hso,hlen⟩:=Uy (l:=zsOf l ++ zsOf []) (by rw [← hz];omega)
  have hlen : (Qu (zsOf l ++ zsOf [])).length≤800:=by rw [← hz] at hlen ⊢;omega
  have hmk : ∀ z,q1g (atB l z) = some (if 400 < (secB 2 l [] z).length then ([],4) else (secB 2 l [] z,0)):=fun z=>by
    have:=q4a l z
    rw [qkv,mkR,if_neg q7,if_pos (qmt hv z)];rfl
  rw [hz]
  have:=qlj (kind:=2) (p:=l) (q:=[]) rfl (by simp;omega) (q42 (Qu (zsOf l ++ zsOf [])) l)
    (fun a b k s hs h1 ha hb hc=>by
      have h0 : k < (Qu (zsOf l ++ zsOf [])).length:=by omega
      have i1 : idx (Qu (zsOf l ++ zsOf [])) (w64 (((k + 1 : Nat) : Int) - 1)) = some a:=by rw [Q0 q7,ha];exact J2 q7 q7
      have i2 : idx (Qu (zsOf l ++ zsOf [])) ((k + 1 : Nat) : Int) = some b:=by rw [hb];exact K1 h1
      have hm:=hmk a
      rw [if_neg q7] at hm
      simp only [q42,dlt h1,cond_true,i1,i2,Option.bind_some,show idx [l] 0 = some l from rfl,q4b l hl,hm,show ((0 : Int) != 0) = false from rfl,cond_false,qlu s a b (secB 2 l [] a) q7]
      rw [w64s h1 q7])
    (fun a k s h1 ha hc=>by
      have i1 : idx (Qu (zsOf l ++ zsOf [])) (w64 (((k + 1 : Nat) : Int) - 1)) = some a:=by rw [Q0 q7,ha];exact J2 q7 q7
      have hm:=hmk a
      rw [if_pos hc] at hm
      simp only [q42,dlt h1,cond_true,i1,K1 h1,Option.bind_some,show idx [l] 0 = some l from rfl,q4b l hl,hm,show ((4 : Int) != 0) = true from rfl])
    (fun k s h1=>by
      have : decide (((k + 1 : Nat) : Int) < ((Qu (zsOf l ++ zsOf [])).length : Int)) = false:=decide_eq_false q7
      simp only [q42,this,cond_false])
  rcases this with ⟨a,b,c,h2⟩ | ⟨h4,h2⟩
  · rw [h2]
    simp only [Option.bind_some]
    by_cases h4 : 400 < (mrgB 2 l []).length
    · rw [decide_eq_true (by omega : ((mrgB 2 l []).length : Int) > 400),if_pos h4];rfl
    · rw [decide_eq_false (by omega : ¬ ((mrgB 2 l []).length : Int) > 400),if_neg h4];rfl
  · rw [h2,if_pos h4];rfl
theorem qpj (p q : List qk) (hl : p.length≤1000000) : qbp p q = some (decide (p = q)):=sameBox p q hl
theorem qby (l : List qk) : q1m l = some (K7 l):=by
  unfold q1m K7
  by_cases h4 : 400 < l.length
  · rw [decide_eq_true (by omega : (l.length : Int) > 400),cond_true,if_pos h4]
  rw [decide_eq_false (by omega : ¬ (l.length : Int) > 400),cond_false,if_neg h4,qz1 l q7,Option.bind_some]
  by_cases hv : ∀ r∈l,vB r
  · rw [decide_eq_false (fun h=>h hv),cond_false,que l q7 hv,if_pos hv,Option.bind_some]
    by_cases hm : 400 < (mrgB 2 l []).length
    · have hne : mrgB 2 l []≠l:=fun h=>by rw [h] at hm;exact h4 hm
      rw [if_pos hm,if_neg hne];rfl
    · rw [if_neg hm]
      simp only [qpj (mrgB 2 l []) l q7]
      by_cases he : mrgB 2 l [] = l <;> simp [he]
  · rw [decide_eq_true hv,cond_true,if_neg hv]
end Go.Sh
namespace Go.Sh
open Go Go.Am
theorem sj1 : qbz = q1n:=rfl
theorem sj2 : qc0 = q1n:=rfl
theorem sj4 : qc1 = q1o:=rfl
theorem sj5 : qc2 = q1o:=rfl
theorem qd8 {p : List qk} (h : K7 p = 0) (z : Int) : Kh (atB p z) = 0:=by
  obtain ⟨h1,h2,h3⟩:=Zv.1 h
  have:=q4a p z
  exact q35.2 ⟨q7,qmt h2 z,h3.at z⟩
theorem qb1 {p : List qk} (h : K7 p = 0) (z : Int) : q1g (atB p z) = some (atB p z,0):=by
  obtain ⟨h1,h2,h3⟩:=q35.1 (qd8 h z)
  rw [qkv,mkR,if_neg q7,if_pos h2,qjw q7 h3,if_neg q7]
theorem quf (kind : Int) (g : List ql→List ql→Option (List ql × Int)) (hg : ∀ a b,g a b = some (jR kind a b)) (p q : List qk) (hp : K7 p = 0) (hq : K7 q = 0) :
    q9e g p q = some (if 400 < (mrgB kind p q).length then ([],4) else (mrgB kind p q,0)):=by
  obtain ⟨lp,vp,cp⟩:=Zv.1 hp
  obtain ⟨lq,vq,cq⟩:=Zv.1 hq
  unfold q9e
  have hx1:=q2z p
  have hx2:=q2z q
  simp only [show idx [p,q] 0 = some p from rfl,show idx [p,q] 1 = some q from rfl,Option.bind_some,sj1,sj2,qg3 p [] lp qf,List.nil_append,qg3 q (zsOf p) lq q7]
  rw [qfg _ (by simp;omega)]
  simp only [Option.bind_some]
  obtain ⟨_,hso,hlen⟩:=Uy (l:=zsOf p ++ zsOf q) (by simp;omega)
  have hlen : (Qu (zsOf p ++ zsOf q)).length≤1600:=by simp at hlen;omega
  have hj : ∀ z,g (atB p z) (atB q z) = some (if 400 < (secB kind p q z).length then ([],4) else (secB kind p q z,0)):=fun z=>by
    rw [hg,jR,if_neg (by simp [qd8 hp z]),if_neg (by simp [qd8 hq z])];rfl
  have:=qlj (kind:=kind) (p:=p) (q:=q) rfl q7 (q41 (Qu (zsOf p ++ zsOf q)) p q g)
    (fun a b k s hs h1 ha hb hc=>by
      have h0 : k < (Qu (zsOf p ++ zsOf q)).length:=by omega
      have i1 : idx (Qu (zsOf p ++ zsOf q)) (w64 (((k + 1 : Nat) : Int) - 1)) = some a:=by rw [Q0 q7,ha];exact J2 q7 q7
      have i2 : idx (Qu (zsOf p ++ zsOf q)) ((k + 1 : Nat) : Int) = some b:=by rw [hb];exact K1 h1
      have hm:=hj a
      rw [if_neg q7] at hm
      simp only [q41,dlt h1,cond_true,i1,i2,Option.bind_some,show idx [p,q] 0 = some p from rfl,show idx [p,q] 1 = some q from rfl,sj4,sj5,q4b p lp,q4b q lq,qb1 hp,qb1 hq,show ((0 : Int) == 0) = true from rfl,hm,show ((0 : Int) != 0) = false from rfl,cond_false,qlu s a b (secB kind p q a) q7]
      rw [w64s h1 q7])
    (fun a k s h1 ha hc=>by
      have i1 : idx (Qu (zsOf p ++ zsOf q)) (w64 (((k + 1 : Nat) : Int) - 1)) = some a:=by rw [Q0 q7,ha];exact J2 q7 q7
      have hm:=hj a
      rw [if_pos hc] at hm
      simp only [q41,dlt h1,cond_true,i1,K1 h1,Option.bind_some,show idx [p,q] 0 = some p from rfl,show idx [p,q] 1 = some q from rfl,sj4,sj5,q4b p lp,q4b q lq,qb1 hp,qb1 hq,show ((0 : Int) == 0) = true from rfl,hm,show ((4 : Int) != 0) = true from rfl])
    (fun k s h1=>by
      have : decide (((k + 1 : Nat) : Int) < ((Qu (zsOf p ++ zsOf q)).length : Int)) = false:=decide_eq_false q7
      simp only [q41,this,cond_false])
  rcases this with ⟨a,b,c,h2⟩ | ⟨h4,h2⟩
  · rw [h2]
    simp only [Option.bind_some]
    by_cases h4 : 400 < (mrgB kind p q).length
    · rw [decide_eq_true (by omega : ((mrgB kind p q).length : Int) > 400),if_pos h4];rfl
    · rw [decide_eq_false (by omega : ¬ ((mrgB kind p q).length : Int) > 400),if_neg h4];rfl
  · rw [h2,if_pos h4];rfl
theorem qj5 (kind : Int) (g : List ql→List ql→Option (List ql × Int)) (hg : ∀ a b,g a b = some (jR kind a b)) (p q : List qk) : q6s p q g = some (jB kind p q):=by
  unfold q6s jB
  simp only [qby,Option.bind_some]
  by_cases hp : ¬ K7 p = 0
  · rw [if_pos hp]
    have : (K7 p != 0) = true:=by simpa using hp
    rw [this,cond_true]
  replace hp:=Classical.not_not.1 hp
  by_cases hq : ¬ K7 q = 0
  · rw [if_neg (by simp [hp]),if_pos hq,hp]
    have : (K7 q != 0) = true:=by simpa using hq
    rw [this];rfl
  replace hq:=Classical.not_not.1 hq
  rw [if_neg (by simp [hp]),if_neg (by simp [hq]),quf kind g hg p q hp hq,hp,hq]
  rfl
theorem qyw (p q : List qk) : q6l p q = some (jB 2 p q):=by
  unfold q6l;rw [qj5 2 _ (fun a b=>qtu a b)];rfl
theorem qyu (p q : List qk) : q6k p q = some (jB 1 p q):=by
  unfold q6k;rw [qj5 1 _ (fun a b=>qts a b)];rfl
end Go.Sh
namespace Go.Sh
open Go Go.Am
def sumN : Nat→(Int→Int)→Int
  | 0,_=>0
  | n + 1,f=>sumN n f + f n
theorem qmi {f g : Int→Int} : ∀ {n : Nat},sumN n (fun x=>f x + g x) = sumN n f + sumN n g
  | 0=>rfl
  | n + 1=>by rw [sumN,sumN,sumN,qmi (n:=n)];omega
theorem qmm {f g : Int→Int} : ∀ {n : Nat},sumN n (fun x=>f x - g x) = sumN n f - sumN n g
  | 0=>rfl
  | n + 1=>by rw [sumN,sumN,sumN,qmm (n:=n)];omega
theorem qml {c : Int} {f : Int→Int} : ∀ {n : Nat},sumN n (fun x=>c * f x) = c * sumN n f
  | 0=>by simp [sumN]
  | n + 1=>by rw [sumN,sumN,qml (n:=n),Int.mul_add]
theorem qmn : ∀ {n : Nat},sumN n (fun _=>0) = 0
  | 0=>rfl
  | n + 1=>by rw [sumN,qmn (n:=n)];rfl
theorem qmk {f g : Int→Int} : ∀ {n : Nat},(∀ k : Nat,k < n→f k≤g k)→sumN n f≤sumN n g
  | 0,_=>Int.le_refl _
  | n + 1,h=>by have:=qmk (n:=n) fun k hk=>h k q7;have:=h n q7;rw [sumN,sumN];omega
noncomputable def ind (p : Prop) : Int:=by classical exact if p then 1 else 0
theorem q4q {p : Prop} (h : p) : ind p = 1:=by unfold ind;simp [h]
theorem Jn {p : Prop} (h : ¬ p) : ind p = 0:=by unfold ind;simp [h]
theorem q2d {p q : Prop} (h : p↔q) : ind p = ind q:=by rw [propext h]
theorem q4o {p q : Prop} : ind (p∧q) = ind p * ind q:=by
  by_cases hp : p <;> by_cases hq : q
  · rw [q4q ⟨hp,hq⟩,q4q hp,q4q hq];rfl
  · rw [Jn (fun h=>hq h.2),Jn hq];simp
  · rw [Jn (fun h=>hp h.1),Jn hp];simp
  · rw [Jn (fun h=>hp h.1),Jn hp];simp
theorem qqp {p q : Prop} : ind (p∨q) = ind p + ind q - ind (p∧q):=by
  by_cases hp : p <;> by_cases hq : q <;> simp [ind,hp,hq]
theorem qqo {p : Prop} : ind (¬ p) = 1 - ind p:=by by_cases hp : p <;> simp [ind,hp]
theorem q4p {p : Prop} : 0≤ind p∧ind p≤1:=by by_cases hp : p <;> simp [ind,hp]
theorem qmj (a b : Int) : ∀ {n : Nat},sumN n (fun x=>ind (a≤x∧x < b)) = max 0 (min b n - max a 0)
  | 0=>by rw [sumN];omega
  | n + 1=>by
    rw [sumN,qmj a b (n:=n)]
    by_cases h : a≤(n : Int)∧(n : Int) < b
    · rw [q4q h];omega
    · rw [Jn h];omega
def sumZ (N : Nat) (f : Int→Int) : Int:=sumN (2 * N) fun k=>f (k - N)
theorem q103 {N : Nat} {f g : Int→Int} : sumZ N (fun x=>f x + g x) = sumZ N f + sumZ N g:=qmi
theorem q104 {N : Nat} {f g : Int→Int} : sumZ N (fun x=>f x - g x) = sumZ N f - sumZ N g:=qmm
theorem q1s {N : Nat} {c : Int} {f : Int→Int} : sumZ N (fun x=>c * f x) = c * sumZ N f:=qml
theorem qfq {N : Nat} : sumZ N (fun _=>0) = 0:=qmn
theorem qcd {N : Nat} {f g : Int→Int} (h : ∀ x : Int,-(N : Int)≤x→x < N→f x≤g x) : sumZ N f≤sumZ N g:=
  qmk fun k hk=>h _ q7 q7
theorem qcc {N : Nat} {a b : Int} (h1 : -N≤a) (h2 : a≤b) (h3 : b≤N) : sumZ N (fun x=>ind (a≤x∧x < b)) = b - a:=by
  unfold sumZ
  have : (fun k : Int=>ind (a≤k - N∧k - N < b)) = fun k=>ind (a + N≤k∧k < b + N):=by
    funext k;exact q2d ⟨fun h=>q7,fun h=>q7⟩
  simp only [this]
  rw [qmj];omega
theorem qfo {N : Nat} {f : Int→Int} (h : ∀ x : Int,-(N : Int)≤x→x < N→0≤f x) : 0≤sumZ N f:=by
  rw [← qfq (N:=N)];exact qcd h
theorem qfn {N : Nat} {c : Int} : sumZ N (fun _=>c) = 2 * N * c:=by
  have : ∀ n : Nat,sumN n (fun _=>c) = n * c:=by
    intro n
    induction n with
    | zero=>simp [sumN]
    | succ n ih=>rw [sumN,ih,Int.natCast_succ,Int.add_mul,Int.one_mul]
  unfold sumZ;rw [this];simp
noncomputable def cnt3 (N : Nat) (P : Int→Int→Int→Prop) : Int:=sumZ N fun x=>sumZ N fun y=>sumZ N fun z=>ind (P x y z)
def sumL {α : Type} (f : α→Int) : List α→Int
  | []=>0
  | a::r=>f a + sumL f r
theorem q9o {α : Type} (f : α→Int) (a b : List α) : sumL f (a ++ b) = sumL f a + sumL f b:=by
  induction a with
  | nil=>simp [sumL]
  | cons x a ih=>rw [List.cons_append,sumL,sumL,ih];omega
theorem q1r {α : Type} {f g : α→Int} {l : List α} (h : ∀ a∈l,f a = g a) : sumL f l = sumL g l:=by
  induction l with
  | nil=>rfl
  | cons a l ih=>rw [sumL,sumL,h a qf,ih fun b hb=>h b (by simp [hb])]
theorem qca {α : Type} (c : Int) (f : α→Int) (l : List α) : sumL (fun a=>c * f a) l = c * sumL f l:=by
  induction l with
  | nil=>simp [sumL]
  | cons a l ih=>rw [sumL,sumL,ih,Int.mul_add]
theorem qfm {α : Type} (f g : α→Int) (l : List α) : sumL (fun a=>f a + g a) l = sumL f l + sumL g l:=by
  induction l with
  | nil=>rfl
  | cons a l ih=>rw [sumL,sumL,sumL,ih];omega
theorem qmg {α : Type} (f g : α→Int) (l : List α) : sumL (fun a=>f a - g a) l = sumL f l - sumL g l:=by
  induction l with
  | nil=>rfl
  | cons a l ih=>rw [sumL,sumL,sumL,ih];omega
theorem qmh {α : Type} (l : List α) : sumL (fun _ : α=>0) l = 0:=by
  induction l with
  | nil=>rfl
  | cons a l ih=>rw [sumL,ih];rfl
theorem qcb {α : Type} {N : Nat} (f : α→Int→Int) (l : List α) : sumL (fun a=>sumZ N (f a)) l = sumZ N fun x=>sumL (fun a=>f a x) l:=by
  induction l with
  | nil=>exact qfq.symm
  | cons a l ih=>
    have : (fun x=>sumL (fun a=>f a x) (a::l)) = fun x=>f a x + (fun x=>sumL (fun a=>f a x) l) x:=rfl
    rw [sumL,ih,this,q103]
def inB (b : qk) (x y z : Int) : Prop:=(b.Lo.X≤x∧x < b.Hi.X)∧(b.Lo.Y≤y∧y < b.Hi.Y)∧(b.Lo.Z≤z∧z < b.Hi.Z)
def inR (r : ql) (x y : Int) : Prop:=(r.X0≤x∧x < r.X1)∧(r.Y0≤y∧y < r.Y1)
def inS (t : qm) (x : Int) : Prop:=t.Lo≤x∧x < t.Hi
def volB (b : qk) : Int:=(b.Hi.X - b.Lo.X) * (b.Hi.Y - b.Lo.Y) * (b.Hi.Z - b.Lo.Z)
theorem q10k {N : Nat} {b : qk} (h : (b.Lo.X≤b.Hi.X∧b.Lo.Y≤b.Hi.Y∧b.Lo.Z≤b.Hi.Z)∧(-(N : Int)≤b.Lo.X∧-(N : Int)≤b.Lo.Y∧-(N : Int)≤b.Lo.Z)∧b.Hi.X≤N∧b.Hi.Y≤N∧b.Hi.Z≤N) :
    volB b = cnt3 N (inB b):=by
  obtain ⟨⟨h1,h2,h3⟩,⟨h4,h5,h6⟩,h7,h8,h9⟩:=h
  unfold cnt3
  have e : ∀ x y,(sumZ N fun z=>ind (inB b x y z)) = ind (b.Lo.X≤x∧x < b.Hi.X) * (ind (b.Lo.Y≤y∧y < b.Hi.Y) * (b.Hi.Z - b.Lo.Z)):=fun x y=>by
    have : (fun z=>ind (inB b x y z)) = fun z=>ind (b.Lo.X≤x∧x < b.Hi.X) * (ind (b.Lo.Y≤y∧y < b.Hi.Y) * ind (b.Lo.Z≤z∧z < b.Hi.Z)):=by
      funext z;unfold inB;rw [q4o (p:=_∧_) (q:=(_∧_)∧_),q4o (p:=_∧_) (q:=_∧_)]
    rw [this,q1s,q1s,qcc h6 h3 h9]
  have e2 : ∀ x,(sumZ N fun y=>sumZ N fun z=>ind (inB b x y z)) = ind (b.Lo.X≤x∧x < b.Hi.X) * ((b.Hi.Y - b.Lo.Y) * (b.Hi.Z - b.Lo.Z)):=fun x=>by
    have : (fun y=>sumZ N fun z=>ind (inB b x y z)) = fun y=>ind (b.Lo.X≤x∧x < b.Hi.X) * ((b.Hi.Z - b.Lo.Z) * ind (b.Lo.Y≤y∧y < b.Hi.Y)):=by
      funext y;rw [e,Int.mul_comm (b.Hi.Z - b.Lo.Z)]
    rw [this,q1s,q1s,qcc h5 h2 h8,Int.mul_comm (b.Hi.Z - b.Lo.Z)]
  have : (fun x=>sumZ N fun y=>sumZ N fun z=>ind (inB b x y z)) = fun x=>((b.Hi.Y - b.Lo.Y) * (b.Hi.Z - b.Lo.Z)) * ind (b.Lo.X≤x∧x < b.Hi.X):=by
    funext x;rw [e2,Int.mul_comm]
  rw [this,q1s,qcc h4 h1 h7,volB]
  simp only [Int.mul_assoc,Int.mul_left_comm,Int.mul_comm]
noncomputable def cntS (s : List qm) (y : Int) : Int:=sumL (fun t=>ind (inS t y)) s
noncomputable def cntR (l : List ql) (x y : Int) : Int:=sumL (fun t=>ind (inR t x y)) l
noncomputable def cntB (l : List qk) (x y z : Int) : Int:=sumL (fun t=>ind (inB t x y z)) l
theorem qh1 : ∀ {s : List qm},Can s→∀ y,cntS s y = ind (has s y)
  | [],_,y=>by rw [Jn (q1d y)];rfl
  | a::s,h,y=>by
    have ih:=qh1 h.tail y
    unfold cntS at ih ⊢
    rw [sumL,ih,q2d (Zj (a:=a) (s:=s) (x:=y)),qqp]
    have : ¬ ((a.Lo≤y∧y < a.Hi)∧has s y):=fun ⟨h1,h2⟩=>by have:=h.tail_gt h2;omega
    rw [Jn this];unfold inS;omega
theorem qot (l : List ql) (x y : Int) : cntR l x y = cntS (covS l x) y:=by
  unfold cntR cntS
  induction l with
  | nil=>rfl
  | cons r l ih=>
    have e : covS (r::l) x = (if covR x r = true then [ysp r] else []) ++ covS l x:=rfl
    rw [sumL,ih,e,q9o]
    congr 1
    by_cases hc : covR x r = true
    · rw [if_pos hc]
      have:=q4g.1 hc
      simp only [sumL,Int.add_zero]
      exact q2d ⟨fun h=>h.2,fun h=>⟨this,h⟩⟩
    · rw [if_neg hc]
      rw [q4g] at hc
      exact Jn fun h=>hc h.1
theorem qos (l : List qk) (x y z : Int) : cntB l x y z = cntR (atB l z) x y:=by
  unfold cntB cntR
  induction l with
  | nil=>rfl
  | cons r l ih=>
    have e : atB (r::l) z = (if covB z r = true then [J7 r] else []) ++ atB l z:=rfl
    rw [sumL,ih,e,q9o]
    congr 1
    by_cases hc : covB z r = true
    · rw [if_pos hc]
      have:=q1x.1 hc
      simp only [sumL,Int.add_zero]
      exact q2d ⟨fun h=>⟨h.1,h.2.1⟩,fun h=>⟨h.1,h.2,this⟩⟩
    · rw [if_neg hc]
      rw [q1x] at hc
      exact Jn fun h=>hc h.2.2
theorem CanR.cnt {l : List ql} (h : CanR l) (x y : Int) : cntR l x y = ind (hasR l x y):=by
  rw [qot,qh1 (h.cov x),q2d q4n]
theorem CanB.cnt {l : List qk} (h : CanB l) (x y z : Int) : cntB l x y z = ind (hasB l x y z):=by
  rw [qos,(h.at z).cnt,q2d q3d]
def volL (l : List qk) : Int:=sumL volB l
theorem qmw {N : Nat} {l : List qk} (hc : ∀ x y z,cntB l x y z = ind (hasB l x y z)) (h : ∀ b∈l,(b.Lo.X≤b.Hi.X∧b.Lo.Y≤b.Hi.Y∧b.Lo.Z≤b.Hi.Z)∧(-(N : Int)≤b.Lo.X∧-(N : Int)≤b.Lo.Y∧-(N : Int)≤b.Lo.Z)∧b.Hi.X≤N∧b.Hi.Y≤N∧b.Hi.Z≤N) :
    volL l = cnt3 N (hasB l):=by
  unfold volL
  rw [q1r fun b hb=>q10k (h b hb)]
  unfold cnt3
  rw [qcb]
  congr 1;funext x
  rw [qcb]
  congr 1;funext y
  rw [qcb]
  congr 1;funext z
  exact hc x y z
theorem q10m {l : List qk} (hc : CanB l) (h : ∀ b∈l,vB b) : volL l = cnt3 1000000 (hasB l):=
  qmw hc.cnt fun b hb=>by have:=h b hb;unfold vB at this;omega
end Go.Sh
namespace Go.Sh
open Go Go.Am
theorem qi5 {α β γ : Type} (l : List α) (hl : l.length≤1000000) (g : γ→α→γ) (fin : γ→β) (f : γ × Int→Option ((γ × Int) ⊕ β))
    (hs : ∀ k (h : k < l.length) (s : γ),f (s,(k : Int)) = some (.inl (g s l[k],((k + 1 : Nat) : Int)))) (hd : ∀ s,f (s,(l.length : Int)) = some (.inr (fin s))) (s : γ) :
    loop f (s,0) = some (fin (l.foldl g s)):=by
  have key:=Zp (f:=f) (fun k=>((l.take k).foldl g s,(k : Int))) l.length (fin (l.foldl g s)) (fun k hk=>by
    rw [hs k hk,List.take_succ_eq_append_getElem hk,List.foldl_append];rfl) (by rw [List.take_length,hd]) (Nat.zero_le _)
  exact key
theorem qfu (x : Int) : w64 x = if 9223372036854775808≤x % 18446744073709551616 then x % 18446744073709551616 - 18446744073709551616 else x % 18446744073709551616:=by
  unfold w64 IntKind.wrap
  simp [IntKind.bits,IntKind.signed]
theorem qfv (x y : Int) (h : x % 18446744073709551616 = y % 18446744073709551616) : w64 x = w64 y:=by rw [qfu,qfu,h]
theorem qfw (x : Int) : w64 x % 18446744073709551616 = x % 18446744073709551616:=by rw [qfu];split <;> omega
theorem qft (a b : Int) : w64 (w64 a + b) = w64 (a + b):=qfv _ _ (by have:=qfw a;omega)
theorem q10p (a b : Int) : w64 (a + w64 b) = w64 (a + b):=qfv _ _ (by have:=qfw b;omega)
theorem q10r (a b : Int) : w64 (a - w64 b) = w64 (a - b):=qfv _ _ (by have:=qfw b;omega)
theorem qb7 {x y z : Int} (hx : 0≤x∧x≤2000000) (hy : 0≤y∧y≤2000000) (hz : 0≤z∧z≤2000000) : (0≤x * y∧x * y≤4000000000000)∧0≤x * y * z∧x * y * z≤8000000000000000000:=by
  have h1 : 0≤x * y:=Int.mul_nonneg hx.1 hy.1
  have h2 : x * y≤2000000 * 2000000:=Int.mul_le_mul hx.2 hy.2 hy.1 q7
  have h3 : 0≤x * y * z:=Int.mul_nonneg h1 hz.1
  have h4 : x * y * z≤4000000000000 * 2000000:=Int.mul_le_mul q7 hz.2 hz.1 q7
  omega
theorem q10o {b : qk} (h : vB b) : w64 ((w64 ((w64 (b.Hi.X - b.Lo.X)) * (w64 (b.Hi.Y - b.Lo.Y)))) * (w64 (b.Hi.Z - b.Lo.Z))) = volB b:=by
  unfold vB at h
  rw [Q0 (x:=b.Hi.X - b.Lo.X) q7,Q0 (x:=b.Hi.Y - b.Lo.Y) q7,Q0 (x:=b.Hi.Z - b.Lo.Z) q7]
  have:=qb7 (x:=b.Hi.X - b.Lo.X) (y:=b.Hi.Y - b.Lo.Y) (z:=b.Hi.Z - b.Lo.Z) q7 q7 q7
  rw [Q0 (x:=(b.Hi.X - b.Lo.X) * (b.Hi.Y - b.Lo.Y)) q7,Q0 q7];rfl
theorem qdo {α : Type} (f : α→Int) : ∀ (l : List α) (n m : Int),n = w64 m→l.foldl (fun n b=>w64 (n + f b)) n = w64 (m + sumL f l)
  | [],n,m,h=>by simp [sumL,h]
  | b::l,n,m,h=>by
    rw [List.foldl_cons,qdo f l _ (m + f b) (by rw [h,qft]),sumL,Int.add_assoc]
theorem qi9 {α γ : Type} {f g : γ→α→γ} : ∀ {l : List α} {s : γ},(∀ b∈l,∀ s,f s b = g s b)→l.foldl f s = l.foldl g s
  | [],_,_=>rfl
  | b::l,s,h=>by rw [List.foldl_cons,List.foldl_cons,h b qf,qi9 fun c hc=>h c (by simp [hc])]
theorem qh0 (N : Nat) (P : Int→Int→Int→Prop) : 0≤cnt3 N P∧cnt3 N P≤2 * N * (2 * N * (2 * N * 1)):=by
  constructor
  · exact qfo fun x _ _=>qfo fun y _ _=>qfo fun z _ _=>q4p.1
  · rw [← qfn (N:=N) (c:=1),← qfn,← qfn]
    exact qcd fun x _ _=>qcd fun y _ _=>qcd fun z _ _=>q4p.2
theorem q10l {l : List qk} (h : K7 l = 0) : 0≤volL l∧volL l≤8000000000000000000:=by
  obtain ⟨h1,h2,h3⟩:=Zv.1 h
  rw [q10m h3 h2]
  have:=qh0 1000000 (hasB l)
  omega
noncomputable def volume (l : List qk) : Int × Int:=if K7 l≠0 then (0,K7 l) else (volL l,0)
theorem q10n {l : List qk} (h : K7 l = 0) : l.foldl (fun n b=>w64 (n + w64 ((w64 ((w64 (b.Hi.X - b.Lo.X)) * (w64 (b.Hi.Y - b.Lo.Y)))) * (w64 (b.Hi.Z - b.Lo.Z))))) 0 = volL l:=by
  obtain ⟨h1,h2,h3⟩:=Zv.1 h
  rw [qi9 (g:=fun n b=>w64 (n + volB b)) fun b hb s=>by rw [q10o (h2 b hb)]]
  rw [qdo volB l 0 0 (by rw [Q0 q7])]
  have:=q10l h
  rw [Q0 (by unfold volL at this;omega),Int.zero_add];rfl
theorem qyy (l : List qk) : q6m l = some (volume l):=by
  unfold q6m volume
  rw [qby,Option.bind_some]
  by_cases h : K7 l = 0
  · rw [if_neg (by simp [h]),h,show ((0 : Int) != 0) = false from rfl,cond_false]
    have hl:=(Zv.1 h).1
    rw [qi5 l q7 (fun n b=>w64 (n + w64 ((w64 ((w64 (b.Hi.X - b.Lo.X)) * (w64 (b.Hi.Y - b.Lo.Y)))) * (w64 (b.Hi.Z - b.Lo.Z))))) (fun n=>n) (q6n l) (fun k hk s=>by
      simp only [q6n,dlt hk,cond_true,K1 hk,Option.bind_some,q6t,w64s hk q7]) (fun s=>by simp only [q6n,dnl,cond_false]) 0,q10n h]
    rfl
  · have : (K7 l != 0) = true:=by simpa using h
    rw [if_pos h,this,cond_true]
theorem qiw {b : qk} {l : List qk} {x y z : Int} : hasB (b::l) x y z↔inB b x y z∨hasB l x y z:=by
  constructor
  · rintro ⟨c,hc,h⟩
    rcases List.mem_cons.1 hc with rfl | hc
    · exact .inl h
    · exact .inr ⟨c,hc,h⟩
  · rintro (h | ⟨c,hc,h⟩)
    · exact ⟨b,qf,h⟩
    · exact ⟨c,by simp [hc],h⟩
instance (b : qk) (x y z : Int) : Decidable (inB b x y z):=by unfold inB;infer_instance
instance qpe : (l : List qk)→(x y z : Int)→Decidable (hasB l x y z)
  | [],x,y,z=>isFalse (q7n x y z)
  | b::l,x,y,z=>by
    have:=qpe l x y z
    exact decidable_of_iff _ qiw.symm
end Go.Sh
namespace Go.Sh
open Go Go.Am
def Zk {α : Type} (f : α→α→Int) (l : List α) : Nat→Int
  | 0=>0
  | n + 1=>Zk f l n + (match l[n]? with
    | some b=>sumL (fun c=>f b c) (l.take n)
    | none=>0)
theorem qkb {α : Type} (f : α→α→Int) (hs : ∀ a b,f a b = f b a) (l : List α) : ∀ n,n≤l.length→
    sumL (fun b=>sumL (fun c=>f b c) (l.take n)) (l.take n) = sumL (fun b=>f b b) (l.take n) + 2 * Zk f l n
  | 0,_=>by simp [sumL,Zk]
  | n + 1,h=>by
    have ih:=qkb f hs l n q7
    rw [List.take_succ_eq_append_getElem q7]
    simp only [q9o,sumL,Int.add_zero,Zk,List.getElem?_eq_getElem (show n < l.length by omega),qfm]
    have : sumL (fun b=>f b l[n]) (l.take n) = sumL (fun c=>f l[n] c) (l.take n):=q1r fun b _=>hs b _
    rw [this]
    omega
theorem qmf {α : Type} (f g : α→α→Int) {l : List α} (hp : l.Pairwise fun a b=>f a b = g a b∧f b a = g b a) : ∀ n,n≤l.length→
    sumL (fun b=>sumL (fun c=>f b c - g b c) (l.take n)) (l.take n) = sumL (fun b=>f b b - g b b) (l.take n)
  | 0,_=>by simp [sumL]
  | n + 1,h=>by
    have ih:=qmf f g hp n q7
    have hq:=List.pairwise_iff_getElem.1 hp
    rw [List.take_succ_eq_append_getElem q7]
    simp only [q9o,sumL,Int.add_zero,qfm,ih]
    have hm : ∀ b∈l.take n,f b l[n] = g b l[n]∧f l[n] b = g l[n] b:=fun b hb=>by
      obtain ⟨i,hi,rfl⟩:=List.getElem_of_mem hb
      rw [List.length_take] at hi
      rw [List.getElem_take]
      exact hq i n q7 q7 q7
    have s1 : sumL (fun b=>f b l[n] - g b l[n]) (l.take n) = 0:=(q1r (g:=fun _=>0) fun b hb=>by have:=hm b hb;omega).trans (qmh _)
    have s2 : sumL (fun c=>f l[n] c - g l[n] c) (l.take n) = 0:=(q1r (g:=fun _=>0) fun b hb=>by have:=hm b hb;omega).trans (qmh _)
    omega
theorem qj2 {a b c : Prop} : ind (a∧b∧c) = ind a * (ind b * ind c):=by rw [q4o,q4o]
def ov (a0 a1 b0 b1 : Int) : Int:=max 0 (min a1 b1 - max a0 b0)
theorem qfp {N : Nat} {a0 a1 b0 b1 : Int} (h1 : -N≤a0) (h2 : a1≤N) : sumZ N (fun x=>ind (a0≤x∧x < a1) * ind (b0≤x∧x < b1)) = ov a0 a1 b0 b1:=by
  have : (fun x : Int=>ind (a0≤x∧x < a1) * ind (b0≤x∧x < b1)) = fun x=>ind (max a0 b0≤x∧x < min a1 b1):=by
    funext x
    rw [← q4o]
    exact q2d ⟨fun h=>q7,fun h=>q7⟩
  rw [this]
  unfold ov
  by_cases h : max a0 b0≤min a1 b1
  · by_cases hb : b0≤a1∧a0≤b1
    · rw [qcc q7 h q7];omega
    · omega
  · have : (fun x : Int=>ind (max a0 b0≤x∧x < min a1 b1)) = fun _=>0:=by
      funext x;exact Jn q7
    rw [this,qfq];omega
theorem qou {N : Nat} {b : qk} {cx0 cx1 cy0 cy1 cz0 cz1 : Int} (h : (-(N : Int)≤b.Lo.X∧-(N : Int)≤b.Lo.Y∧-(N : Int)≤b.Lo.Z)∧b.Hi.X≤N∧b.Hi.Y≤N∧b.Hi.Z≤N) :
    (sumZ N fun x=>sumZ N fun y=>sumZ N fun z=>ind (inB b x y z) * ind ((cx0≤x∧x < cx1)∧(cy0≤y∧y < cy1)∧(cz0≤z∧z < cz1))) = ov b.Lo.X b.Hi.X cx0 cx1 * (ov b.Lo.Y b.Hi.Y cy0 cy1 * ov b.Lo.Z b.Hi.Z cz0 cz1):=by
  obtain ⟨⟨h4,h5,h6⟩,h7,h8,h9⟩:=h
  have e : ∀ x y,(sumZ N fun z=>ind (inB b x y z) * ind ((cx0≤x∧x < cx1)∧(cy0≤y∧y < cy1)∧(cz0≤z∧z < cz1))) = (ind (b.Lo.X≤x∧x < b.Hi.X) * ind (cx0≤x∧x < cx1)) * ((ind (b.Lo.Y≤y∧y < b.Hi.Y) * ind (cy0≤y∧y < cy1)) * ov b.Lo.Z b.Hi.Z cz0 cz1):=fun x y=>by
    have : (fun z=>ind (inB b x y z) * ind ((cx0≤x∧x < cx1)∧(cy0≤y∧y < cy1)∧(cz0≤z∧z < cz1))) = fun z=>(ind (b.Lo.X≤x∧x < b.Hi.X) * ind (cx0≤x∧x < cx1)) * ((ind (b.Lo.Y≤y∧y < b.Hi.Y) * ind (cy0≤y∧y < cy1)) * (ind (b.Lo.Z≤z∧z < b.Hi.Z) * ind (cz0≤z∧z < cz1))):=by
      funext z;unfold inB;rw [qj2,qj2]
      simp only [Int.mul_assoc,Int.mul_left_comm,Int.mul_comm]
    rw [this,q1s,q1s,qfp h6 h9]
  have e2 : ∀ x,(sumZ N fun y=>sumZ N fun z=>ind (inB b x y z) * ind ((cx0≤x∧x < cx1)∧(cy0≤y∧y < cy1)∧(cz0≤z∧z < cz1))) = (ov b.Lo.Y b.Hi.Y cy0 cy1 * ov b.Lo.Z b.Hi.Z cz0 cz1) * (ind (b.Lo.X≤x∧x < b.Hi.X) * ind (cx0≤x∧x < cx1)):=fun x=>by
    have : (fun y=>sumZ N fun z=>ind (inB b x y z) * ind ((cx0≤x∧x < cx1)∧(cy0≤y∧y < cy1)∧(cz0≤z∧z < cz1))) = fun y=>((ind (b.Lo.X≤x∧x < b.Hi.X) * ind (cx0≤x∧x < cx1)) * ov b.Lo.Z b.Hi.Z cz0 cz1) * (ind (b.Lo.Y≤y∧y < b.Hi.Y) * ind (cy0≤y∧y < cy1)):=by
      funext y;rw [e];simp only [Int.mul_assoc,Int.mul_left_comm,Int.mul_comm]
    rw [this,q1s,qfp h5 h8]
    simp only [Int.mul_assoc,Int.mul_left_comm,Int.mul_comm]
  simp only [e2]
  rw [q1s,qfp h4 h7,Int.mul_comm]
def U7 (b c : qk) : Int:=
  ov b.Lo.X b.Hi.X (c.Lo.X - 1) (c.Hi.X - 1) * (ov b.Lo.Y b.Hi.Y c.Lo.Y c.Hi.Y * ov b.Lo.Z b.Hi.Z c.Lo.Z c.Hi.Z) + ov b.Lo.X b.Hi.X (c.Lo.X + 1) (c.Hi.X + 1) * (ov b.Lo.Y b.Hi.Y c.Lo.Y c.Hi.Y * ov b.Lo.Z b.Hi.Z c.Lo.Z c.Hi.Z) +
  (ov b.Lo.X b.Hi.X c.Lo.X c.Hi.X * (ov b.Lo.Y b.Hi.Y (c.Lo.Y - 1) (c.Hi.Y - 1) * ov b.Lo.Z b.Hi.Z c.Lo.Z c.Hi.Z) + ov b.Lo.X b.Hi.X c.Lo.X c.Hi.X * (ov b.Lo.Y b.Hi.Y (c.Lo.Y + 1) (c.Hi.Y + 1) * ov b.Lo.Z b.Hi.Z c.Lo.Z c.Hi.Z)) +
  (ov b.Lo.X b.Hi.X c.Lo.X c.Hi.X * (ov b.Lo.Y b.Hi.Y c.Lo.Y c.Hi.Y * ov b.Lo.Z b.Hi.Z (c.Lo.Z - 1) (c.Hi.Z - 1)) + ov b.Lo.X b.Hi.X c.Lo.X c.Hi.X * (ov b.Lo.Y b.Hi.Y c.Lo.Y c.Hi.Y * ov b.Lo.Z b.Hi.Z (c.Lo.Z + 1) (c.Hi.Z + 1)))
def Kt (a b : qk) : Int:=
  let x:=min a.Hi.X b.Hi.X - max a.Lo.X b.Lo.X
  let y:=min a.Hi.Y b.Hi.Y - max a.Lo.Y b.Lo.Y
  let z:=min a.Hi.Z b.Hi.Z - max a.Lo.Z b.Lo.Z
  if x = 0∧y > 0∧z > 0 then y * z else if x > 0∧y = 0∧z > 0 then x * z else if x > 0∧y > 0∧z = 0 then x * y else 0
theorem qp3 (a b : qk) : Kt a b = Kt b a:=by
  unfold Kt
  simp only [Int.min_comm b.Hi.X,Int.max_comm b.Lo.X,Int.min_comm b.Hi.Y,Int.max_comm b.Lo.Y,Int.min_comm b.Hi.Z,Int.max_comm b.Lo.Z]
def ltB (b : qk) : Prop:=b.Lo.X < b.Hi.X∧b.Lo.Y < b.Hi.Y∧b.Lo.Z < b.Hi.Z
theorem ov3 {a0 a1 b0 b1 : Int} (ha : a0 < a1) (hb : b0 < b1) :
    (min a1 b1 - max a0 b0 < 0∧ov a0 a1 b0 b1 = 0∧ov a0 a1 (b0 - 1) (b1 - 1) + ov a0 a1 (b0 + 1) (b1 + 1) = 0∧ov a0 a1 (b0 - 1) (b1 - 1) = 0∧ov a0 a1 (b0 + 1) (b1 + 1) = 0)∨
    (min a1 b1 - max a0 b0 = 0∧ov a0 a1 b0 b1 = 0∧ov a0 a1 (b0 - 1) (b1 - 1) + ov a0 a1 (b0 + 1) (b1 + 1) = 1)∨
    (min a1 b1 - max a0 b0 > 0∧ov a0 a1 b0 b1 = min a1 b1 - max a0 b0):=by
  unfold ov;omega
theorem qma {b c : qk} (hb : ltB b) (hc : ltB c) (hd : ∀ x y z,¬ (inB b x y z∧inB c x y z)) : U7 b c = Kt b c:=by
  obtain ⟨b1,b2,b3⟩:=hb
  obtain ⟨c1,c2,c3⟩:=hc
  have hdis : ¬ (min b.Hi.X c.Hi.X - max b.Lo.X c.Lo.X > 0∧min b.Hi.Y c.Hi.Y - max b.Lo.Y c.Lo.Y > 0∧min b.Hi.Z c.Hi.Z - max b.Lo.Z c.Lo.Z > 0):=fun ⟨h1,h2,h3⟩=>
    hd (max b.Lo.X c.Lo.X) (max b.Lo.Y c.Lo.Y) (max b.Lo.Z c.Lo.Z) (by unfold inB;omega)
  have key : ∀ {X0 X1 Y0 Y1 Z0 Z1 x y z : Int},((x < 0∧X0 = 0∧X1 = 0)∨(x = 0∧X0 = 0∧X1 = 1)∨(x > 0∧X0 = x))→((y < 0∧Y0 = 0∧Y1 = 0)∨(y = 0∧Y0 = 0∧Y1 = 1)∨(y > 0∧Y0 = y))→
      ((z < 0∧Z0 = 0∧Z1 = 0)∨(z = 0∧Z0 = 0∧Z1 = 1)∨(z > 0∧Z0 = z))→¬ (x > 0∧y > 0∧z > 0)→
      X1 * (Y0 * Z0) + X0 * (Y1 * Z0) + X0 * (Y0 * Z1) = if x = 0∧y > 0∧z > 0 then y * z else if x > 0∧y = 0∧z > 0 then x * z else if x > 0∧y > 0∧z = 0 then x * y else 0:=by
    intro X0 X1 Y0 Y1 Z0 Z1 x y z hx hy hz hn
    rcases hx with ⟨hx,rfl,rfl⟩ | ⟨rfl,rfl,rfl⟩ | ⟨hx,rfl⟩ <;> rcases hy with ⟨hy,rfl,rfl⟩ | ⟨rfl,rfl,rfl⟩ | ⟨hy,rfl⟩ <;> rcases hz with ⟨hz,rfl,rfl⟩ | ⟨rfl,rfl,rfl⟩ | ⟨hz,rfl⟩ <;>
      first
        | (exfalso;omega)
        | (simp only [Int.zero_mul,Int.mul_zero,Int.add_zero,Int.zero_add,Int.one_mul,Int.mul_one];clear hd hdis b1 b2 b3 c1 c2 c3;(repeat' split) <;> first | omega | (simp_all;done) | (simp_all;omega))
  have e : U7 b c = (ov b.Lo.X b.Hi.X (c.Lo.X - 1) (c.Hi.X - 1) + ov b.Lo.X b.Hi.X (c.Lo.X + 1) (c.Hi.X + 1)) * (ov b.Lo.Y b.Hi.Y c.Lo.Y c.Hi.Y * ov b.Lo.Z b.Hi.Z c.Lo.Z c.Hi.Z) +
      ov b.Lo.X b.Hi.X c.Lo.X c.Hi.X * ((ov b.Lo.Y b.Hi.Y (c.Lo.Y - 1) (c.Hi.Y - 1) + ov b.Lo.Y b.Hi.Y (c.Lo.Y + 1) (c.Hi.Y + 1)) * ov b.Lo.Z b.Hi.Z c.Lo.Z c.Hi.Z) +
      ov b.Lo.X b.Hi.X c.Lo.X c.Hi.X * (ov b.Lo.Y b.Hi.Y c.Lo.Y c.Hi.Y * (ov b.Lo.Z b.Hi.Z (c.Lo.Z - 1) (c.Hi.Z - 1) + ov b.Lo.Z b.Hi.Z (c.Lo.Z + 1) (c.Hi.Z + 1))):=by
    unfold U7;simp only [Int.add_mul,Int.mul_add]
  rw [e]
  unfold Kt
  refine key ?_ ?_ ?_ hdis
  · rcases ov3 b1 c1 with h | h | h
    · exact .inl ⟨h.1,h.2.1,h.2.2.1⟩
    · exact .inr (.inl h)
    · exact .inr (.inr h)
  · rcases ov3 b2 c2 with h | h | h
    · exact .inl ⟨h.1,h.2.1,h.2.2.1⟩
    · exact .inr (.inl h)
    · exact .inr (.inr h)
  · rcases ov3 b3 c3 with h | h | h
    · exact .inl ⟨h.1,h.2.1,h.2.2.1⟩
    · exact .inr (.inl h)
    · exact .inr (.inr h)
def Ko (b : qk) : Int:=2 * ((b.Hi.X - b.Lo.X) * (b.Hi.Y - b.Lo.Y) + (b.Hi.X - b.Lo.X) * (b.Hi.Z - b.Lo.Z) + (b.Hi.Y - b.Lo.Y) * (b.Hi.Z - b.Lo.Z))
theorem qzq {b : qk} (hb : ltB b) : 6 * volB b - U7 b b = Ko b:=by
  obtain ⟨b1,b2,b3⟩:=hb
  have o : ∀ {a c : Int},a < c→ov a c a c = c - a∧ov a c (a - 1) (c - 1) = c - a - 1∧ov a c (a + 1) (c + 1) = c - a - 1:=fun h=>by unfold ov;omega
  obtain ⟨x0,x1,x2⟩:=o b1
  obtain ⟨y0,y1,y2⟩:=o b2
  obtain ⟨z0,z1,z2⟩:=o b3
  unfold U7 volB Ko
  rw [x0,x1,x2,y0,y1,y2,z0,z1,z2]
  generalize b.Hi.X - b.Lo.X = x
  generalize b.Hi.Y - b.Lo.Y = y
  generalize b.Hi.Z - b.Lo.Z = z
  simp only [Int.sub_mul,Int.mul_sub,Int.one_mul,Int.mul_one,Int.mul_assoc]
  omega
noncomputable def q9p (N : Nat) (P : Int→Int→Int→Prop) : Int:=
  (cnt3 N (fun x y z=>P x y z∧¬ P (x + 1) y z) + cnt3 N (fun x y z=>P x y z∧¬ P (x - 1) y z)) +
  (cnt3 N (fun x y z=>P x y z∧¬ P x (y + 1) z) + cnt3 N (fun x y z=>P x y z∧¬ P x (y - 1) z)) +
  (cnt3 N (fun x y z=>P x y z∧¬ P x y (z + 1)) + cnt3 N (fun x y z=>P x y z∧¬ P x y (z - 1)))
def Uv (l : List qk) : Int:=sumL Ko l - 2 * Zk Kt l l.length
def vBN (N : Nat) (b : qk) : Prop:=ltB b∧(-(N : Int)≤b.Lo.X∧-(N : Int)≤b.Lo.Y∧-(N : Int)≤b.Lo.Z)∧b.Hi.X≤N∧b.Hi.Y≤N∧b.Hi.Z≤N
theorem q4f {N : Nat} {l : List qk} (hc : ∀ x y z,cntB l x y z = ind (hasB l x y z)) (h : ∀ b∈l,vBN N b) (dx dy dz : Int) :
    cnt3 N (fun x y z=>hasB l x y z∧¬ hasB l (x + dx) (y + dy) (z + dz)) = volL l - sumL (fun b=>sumL (fun c=>ov b.Lo.X b.Hi.X (c.Lo.X - dx) (c.Hi.X - dx) * (ov b.Lo.Y b.Hi.Y (c.Lo.Y - dy) (c.Hi.Y - dy) * ov b.Lo.Z b.Hi.Z (c.Lo.Z - dz) (c.Hi.Z - dz))) l) l:=by
  have e1 : ∀ x y z,ind (hasB l x y z∧¬ hasB l (x + dx) (y + dy) (z + dz)) = ind (hasB l x y z) - sumL (fun b=>sumL (fun c=>ind (inB b x y z) * ind ((c.Lo.X - dx≤x∧x < c.Hi.X - dx)∧(c.Lo.Y - dy≤y∧y < c.Hi.Y - dy)∧(c.Lo.Z - dz≤z∧z < c.Hi.Z - dz))) l) l:=fun x y z=>by
    have e2 : sumL (fun b=>sumL (fun c=>ind (inB b x y z) * ind ((c.Lo.X - dx≤x∧x < c.Hi.X - dx)∧(c.Lo.Y - dy≤y∧y < c.Hi.Y - dy)∧(c.Lo.Z - dz≤z∧z < c.Hi.Z - dz))) l) l = ind (hasB l x y z) * ind (hasB l (x + dx) (y + dy) (z + dz)):=by
      rw [← hc,← hc]
      have e3 : ∀ b : qk,sumL (fun c : qk=>ind (inB b x y z) * ind ((c.Lo.X - dx≤x∧x < c.Hi.X - dx)∧(c.Lo.Y - dy≤y∧y < c.Hi.Y - dy)∧(c.Lo.Z - dz≤z∧z < c.Hi.Z - dz))) l = cntB l (x + dx) (y + dy) (z + dz) * ind (inB b x y z):=fun b=>by
        rw [qca,Int.mul_comm]
        unfold cntB
        rw [q1r fun c _=>q2d (q:=inB c (x + dx) (y + dy) (z + dz)) ⟨fun h=>by unfold inB;omega,fun h=>by unfold inB at h;omega⟩]
      simp only [e3]
      rw [qca,Int.mul_comm]
      rfl
    rw [e2,q4o,qqo,Int.mul_sub,Int.mul_one]
  unfold cnt3
  simp only [e1,q104]
  have e4 : (sumZ N fun x=>sumZ N fun y=>sumZ N fun z=>ind (hasB l x y z)) = volL l:=(qmw hc fun b hb=>by have:=h b hb;unfold vBN ltB at this;omega).symm
  rw [e4]
  congr 1
  simp only [← qcb]
  refine q1r fun b hb=>q1r fun c hcm=>?_
  have:=h b hb
  unfold vBN at this
  exact qou this.2
theorem qov {l : List qk} (hc : ∀ x y z,cntB l x y z = ind (hasB l x y z)) : l.Pairwise fun b c=>∀ x y z,¬ (inB b x y z∧inB c x y z):=by
  have key : ∀ l : List qk,(∀ x y z,cntB l x y z≤1)→l.Pairwise fun b c=>∀ x y z,¬ (inB b x y z∧inB c x y z):=by
    intro l
    induction l with
    | nil=>intro _;exact .nil
    | cons b l ih=>
      intro h
      have nn : ∀ (l : List qk) x y z,0≤cntB l x y z:=fun l x y z=>by
        unfold cntB;induction l with
        | nil=>exact Int.le_refl _
        | cons c l ih=>have:=(q4p (p:=inB c x y z)).1;rw [sumL];omega
      have hh : ∀ x y z,ind (inB b x y z) + cntB l x y z≤1:=h
      refine List.pairwise_cons.2 ⟨fun c hc x y z ⟨h1,h2⟩=>?_,ih fun x y z=>by have:=hh x y z;have:=(q4p (p:=inB b x y z)).1;omega⟩
      have h3:=hh x y z
      rw [q4q h1] at h3
      have h4 : ∀ l : List qk,c∈l→1≤cntB l x y z:=by
        intro l
        induction l with
        | nil=>intro h;cases h
        | cons d l ih2=>
          intro hm
          have e : cntB (d::l) x y z = ind (inB d x y z) + cntB l x y z:=rfl
          rcases List.mem_cons.1 hm with rfl | hm
          · have:=nn l x y z;rw [e,q4q h2];omega
          · have:=ih2 hm;have:=(q4p (p:=inB d x y z)).1;rw [e];omega
      have:=h4 l hc
      omega
  exact key l fun x y z=>by rw [hc];exact q4p.2
theorem q107 {N : Nat} {l : List qk} (hc : ∀ x y z,cntB l x y z = ind (hasB l x y z)) (h : ∀ b∈l,vBN N b) : Uv l = q9p N (hasB l):=by
  have hd:=qov hc
  have e1:=q4f hc h 1 0 0
  have e2:=q4f hc h (-1) 0 0
  have e3:=q4f hc h 0 1 0
  have e4:=q4f hc h 0 (-1) 0
  have e5:=q4f hc h 0 0 1
  have e6:=q4f hc h 0 0 (-1)
  simp only [Int.add_zero,Int.sub_zero,Int.sub_neg,← Int.sub_eq_add_neg] at e1 e2 e3 e4 e5 e6
  unfold q9p
  rw [e1,e2,e3,e4,e5,e6]
  have e7 : sumL (fun b=>sumL (fun c=>U7 b c) l) l = 6 * volL l - sumL Ko l + 2 * Zk Kt l l.length:=by
    have h1:=qmf U7 Kt (l:=l) (List.Pairwise.imp_of_mem (fun {b c} hb hcm hdis=>⟨qma (h b hb).1 (h c hcm).1 hdis,qma (h c hcm).1 (h b hb).1 fun x y z hh=>hdis x y z ⟨hh.2,hh.1⟩⟩) hd) l.length (Nat.le_refl _)
    have h2:=qkb Kt qp3 l l.length (Nat.le_refl _)
    rw [List.take_length] at h1 h2
    simp only [qmg] at h1
    have h3 : sumL (fun b=>6 * volB b - U7 b b) l = sumL Ko l:=q1r fun b hb=>qzq (h b hb).1
    rw [qmg,qca] at h3
    unfold volL
    have h4 : sumL (fun b=>sumL (fun c=>U7 b c) l) l - sumL (fun b=>sumL (fun c=>Kt b c) l) l = sumL (fun b=>U7 b b) l - sumL (fun b=>Kt b b) l:=h1
    omega
  unfold Uv
  unfold U7 at e7
  simp only [qfm] at e7
  omega
theorem q10j {b : qk} (h : vB b) : vBN 1000000 b:=by unfold vB at h;unfold vBN ltB;omega
theorem q106 {l : List qk} (hc : CanB l) (h : ∀ b∈l,vB b) : Uv l = q9p 1000000 (hasB l):=q107 hc.cnt fun b hb=>q10j (h b hb)
end Go.Sh
namespace Go.Sh
open Go Go.Am
theorem q11i {n : Int} (h : (Lit.int .u8 n).wf = true) : 0≤n:=by
  simp [Lit.wf,IntKind.min,IntKind.max,IntKind.signed,IntKind.bits] at h
  omega
abbrev V3:=qi × qi × qi
def zeroV : qi:=⟨0,0,0⟩
noncomputable def axT (t : Nat) : V3:=match q21 (t : Int) with
  | some m=>m
  | none=>(zeroV,zeroV,zeroV)
theorem qal : ∀ t : Nat,t < 24→q21 (t : Int) = some (axT t):=by decide +kernel
def Z9 (v : qi) : Prop:=-1≤v.X∧v.X≤1∧-1≤v.Y∧v.Y≤1∧-1≤v.Z∧v.Z≤1
instance (v : qi) : Decidable (Z9 v):=by unfold Z9;infer_instance
theorem qcx : ∀ t : Nat,t < 24→Z9 (axT t).1∧Z9 (axT t).2.1∧Z9 (axT t).2.2:=by decide +kernel
theorem qnt : ∀ t : Nat,t < 24→∀ u : Nat,u < 24→axT t = axT u→t = u:=by decide +kernel
theorem qgj : axT 0 = (⟨1,0,0⟩,⟨0,1,0⟩,⟨0,0,1⟩):=by decide +kernel
def mulV (m : V3) (v : qi) : qi:=⟨v.X * m.1.X + v.Y * m.2.1.X + v.Z * m.2.2.X,v.X * m.1.Y + v.Y * m.2.1.Y + v.Z * m.2.2.Y,v.X * m.1.Z + v.Y * m.2.1.Z + v.Z * m.2.2.Z⟩
def addV (a b : qi) : qi:=⟨a.X + b.X,a.Y + b.Y,a.Z + b.Z⟩
def Qw (v : qi) (n : Int) : Prop:=-n≤v.X∧v.X≤n∧-n≤v.Y∧v.Y≤n∧-n≤v.Z∧v.Z≤n
theorem qrj {a b : Int} {n : Int} (ha : -n≤a∧a≤n) (hb : -1≤b∧b≤1) : -n≤a * b∧a * b≤n:=by
  have : b = -1∨b = 0∨b = 1:=by omega
  rcases this with rfl | rfl | rfl <;> simp <;> omega
theorem qjx {m : V3} {v : qi} {n : Int} (hm : Z9 m.1∧Z9 m.2.1∧Z9 m.2.2) (hv : Qw v n) :
    (∀ a∈[v.X * m.1.X,v.Y * m.2.1.X,v.Z * m.2.2.X,v.X * m.1.Y,v.Y * m.2.1.Y,v.Z * m.2.2.Y,v.X * m.1.Z,v.Y * m.2.1.Z,v.Z * m.2.2.Z],-n≤a∧a≤n):=by
  obtain ⟨⟨a1,a2,a3,a4,a5,a6⟩,⟨b1,b2,b3,b4,b5,b6⟩,⟨c1,c2,c3,c4,c5,c6⟩⟩:=hm
  obtain ⟨v1,v2,v3,v4,v5,v6⟩:=hv
  intro a ha
  simp only [List.mem_cons,List.not_mem_nil,or_false] at ha
  rcases ha with rfl | rfl | rfl | rfl | rfl | rfl | rfl | rfl | rfl <;> exact qrj ⟨by assumption,by assumption⟩ ⟨by assumption,by assumption⟩
theorem qri {m : V3} {v : qi} {n : Int} (hm : Z9 m.1∧Z9 m.2.1∧Z9 m.2.2) (hv : Qw v n) : Qw (mulV m v) (3 * n):=by
  have b:=qjx hm hv
  simp only [List.mem_cons,List.not_mem_nil,or_false,forall_eq_or_imp,forall_eq] at b
  unfold Qw mulV
  simp only
  omega
theorem qap {m : V3} {v : qi} (hm : Z9 m.1∧Z9 m.2.1∧Z9 m.2.2) (hv : Qw v 1000000000000) : q4l m v = some (mulV m v):=by
  have b:=qjx hm hv
  simp only [List.mem_cons,List.not_mem_nil,or_false,forall_eq_or_imp,forall_eq] at b
  unfold q4l mulV
  congr 2
  · rw [Q0 (x:=v.X * m.1.X) q7,Q0 (x:=v.Y * m.2.1.X) q7,Q0 (x:=v.Z * m.2.2.X) q7,Q0 (x:=v.X * m.1.X + _) q7,Q0 q7]
  · rw [Q0 (x:=v.X * m.1.Y) q7,Q0 (x:=v.Y * m.2.1.Y) q7,Q0 (x:=v.Z * m.2.2.Y) q7,Q0 (x:=v.X * m.1.Y + _) q7,Q0 q7]
  · rw [Q0 (x:=v.X * m.1.Z) q7,Q0 (x:=v.Y * m.2.1.Z) q7,Q0 (x:=v.Z * m.2.2.Z) q7,Q0 (x:=v.X * m.1.Z + _) q7,Q0 q7]
noncomputable def Yd (t : Nat) (at_ v : qi) : qi:=addV (mulV (axT t) v) at_
theorem qig {f : Qq} {t : Nat} {v : qi} (ht : f.Turn = t) (h : t < 24) (ha : Qw f.At 1000000000000) (hv : Qw v 1000000000000) : q3a f v = some (Yd t f.At v):=by
  have hu:=qcx t h
  unfold q3a
  rw [ht,qal t h]
  simp only [Option.bind_some,qap hu hv]
  have b:=qri hu hv
  unfold Qw at b ha
  unfold Yd addV
  rw [Q0 q7,Q0 q7,Q0 q7]
theorem qrk {u : Nat} (h : u < 24) : q7l (axT u) = some (u : Int):=by
  have key:=J4 (f:=q4k (axT u)) (σ:=Unit) (fun k _=>(k : Int)) 24 (fun k _=>k≤u) (fun b=>b = .inr (u : Int)) ?_ ?_ (k0:=0) (c0:=()) q7 q7
  · obtain ⟨b,h1,rfl⟩:=key
    have h1 : loop (q4k (axT u)) 0 = some (.inr (u : Int)):=h1
    unfold q7l;rw [h1];rfl
  · intro k _ hk hku
    have hb : decide ((k : Int) < 24) = true:=decide_eq_true q7
    simp only [q4k,hb,cond_true,qal k hk,Option.bind_some]
    by_cases e : k = u
    · subst e
      exact .inr ⟨.inr (k : Int),qf,rfl⟩
    · have hne : axT k≠axT u:=fun he=>e (qnt k hk u h he)
      refine .inl ⟨(),?_,q7⟩
      have hw : IntKind.u8.wrap ((k : Int) + 1) = ((k + 1 : Nat) : Int):=by
        simp [IntKind.wrap,IntKind.bits,IntKind.signed];omega
      have hbeq : ((axT k).1.X == (axT u).1.X && ((axT k).1.Y == (axT u).1.Y && ((axT k).1.Z == (axT u).1.Z && ((axT k).2.1.X == (axT u).2.1.X && ((axT k).2.1.Y == (axT u).2.1.Y && ((axT k).2.1.Z == (axT u).2.1.Z && ((axT k).2.2.X == (axT u).2.2.X && ((axT k).2.2.Y == (axT u).2.2.Y && ((axT k).2.2.Z == (axT u).2.2.Z && true))))))))) = false:=by
        rw [Bool.eq_false_iff]
        intro hh
        simp only [Bool.and_eq_true,beq_iff_eq] at hh
        apply hne
        generalize axT k = a at hh ⊢
        generalize axT u = b at hh ⊢
        obtain ⟨⟨a1,a2,a3⟩,⟨a4,a5,a6⟩,⟨a7,a8,a9⟩⟩:=a
        obtain ⟨⟨b1,b2,b3⟩,⟨b4,b5,b6⟩,⟨b7,b8,b9⟩⟩:=b
        simp only at hh
        obtain ⟨rfl,rfl,rfl,rfl,rfl,rfl,rfl,rfl,rfl,_⟩:=hh
        rfl
      rw [hbeq,hw];rfl
  · intro _ hi;omega
def Zw (n m : V3) : V3:=(mulV n m.1,mulV n m.2.1,mulV n m.2.2)
noncomputable def Zb (t u : Nat) : Nat:=match (List.range 24).find? (fun v=>decide (axT v = Zw (axT u) (axT t))) with
  | some v=>v
  | none=>0
theorem qa6 : ∀ t : Nat,t < 24→∀ u : Nat,u < 24→Zb t u < 24∧axT (Zb t u) = Zw (axT u) (axT t):=by decide +kernel
theorem qox : ∀ u : Nat,u < 24→Zb 0 u = u:=by decide +kernel
theorem qfs {v : qi} (h : Z9 v) : Qw v 1000000000000:=by unfold Z9 at h;unfold Qw;omega
theorem q10y {f g : Qq} {t u : Nat} (ht : f.Turn = t) (hu : g.Turn = u) (h : t < 24) (h' : u < 24) (hf : Qw f.At 1000000000000) (hg : Qw g.At 1000000000000) : q7m f g = some ⟨(Zb t u : Nat),Yd u g.At f.At⟩:=by
  have au:=qcx u h'
  obtain ⟨b1,b2,b3⟩:=qcx t h
  unfold q7m
  rw [ht,hu,qal t h,qal u h']
  simp only [Option.bind_some]
  have s1:=qap au (qfs b1)
  have s2:=qap au (qfs b2)
  have s3:=qap au (qfs b3)
  have key : loop (q22 (axT u)) (0,[(axT t).1,(axT t).2.1,(axT t).2.2]) = some [mulV (axT u) (axT t).1,mulV (axT u) (axT t).2.1,mulV (axT u) (axT t).2.2]:=by
    rw [Qv (a':=((1 : Int),[mulV (axT u) (axT t).1,(axT t).2.1,(axT t).2.2])) (by simp [q22,idxA,s1,Q0])]
    rw [Qv (a':=((2 : Int),[mulV (axT u) (axT t).1,mulV (axT u) (axT t).2.1,(axT t).2.2])) (by simp [q22,idxA,s2,Q0])]
    rw [Qv (a':=((3 : Int),[mulV (axT u) (axT t).1,mulV (axT u) (axT t).2.1,mulV (axT u) (axT t).2.2])) (by simp [q22,idxA,s3,Q0])]
    exact K8 (by simp [q22])
  rw [key]
  simp only [Option.bind_some,arr3]
  obtain ⟨c1,c2⟩:=qa6 t h u h'
  have : (mulV (axT u) (axT t).1,mulV (axT u) (axT t).2.1,mulV (axT u) (axT t).2.2) = axT (Zb t u):=c2.symm
  rw [this,qrk c1,qig hu h' hg hf]
  rfl
def InV (v : qi) (lo : Int) : Prop:=lo≤v.X∧v.X≤1000000∧lo≤v.Y∧v.Y≤1000000∧lo≤v.Z∧v.Z≤1000000
instance (v : qi) (lo : Int) : Decidable (InV v lo):=by unfold InV;infer_instance
theorem qag (v : qi) (lo : Int) : q12 v lo = some (decide (InV v lo)):=by
  unfold q12
  by_cases a : min (min v.X v.Y) v.Z ≥ lo
  · by_cases b : max (max v.X v.Y) v.Z≤1000000
    · have : InV v lo:=by unfold InV;omega
      simp only [decide_eq_true a,decide_eq_true b,decide_eq_true this,cond_true,Option.bind_some]
    · have : ¬ InV v lo:=by unfold InV;omega
      simp only [decide_eq_true a,decide_eq_false b,decide_eq_false this,cond_true,Option.bind_some]
  · have : ¬ InV v lo:=by unfold InV;omega
    simp only [decide_eq_false a,decide_eq_false this,cond_false,Option.bind_some]
theorem qg5 (v : qi) (lo : Int) : q52 v lo = some (decide (InV v lo)):=by
  unfold q52 InV
  by_cases a : v.X ≥ lo <;> by_cases b : v.Y ≥ lo <;> by_cases c : v.Z ≥ lo <;> by_cases d : v.X≤1000000 <;> by_cases e : v.Y≤1000000 <;> by_cases f : v.Z≤1000000 <;> simp [a,b,c,d,e,f] <;> omega
def FOk (f : Qq) : Prop:=f.Turn < 24∧InV f.At (-1000000)
instance (f : Qq) : Decidable (FOk f):=by unfold FOk;infer_instance
def SOk (s : Q2) : Prop:=FOk s.Frame∧InV s.Size 0
instance (s : Q2) : Decidable (SOk s):=by unfold SOk;infer_instance
theorem qa5 {P Q : Prop} [Decidable P] [Decidable Q] {R : Prop} [Decidable R] (h : R↔P∧Q) : ((cond (decide (¬ P)) (some true) ((some (decide Q)).bind fun r10=>some (!r10))).bind fun c3=>cond c3 (some (8 : Int)) (some 0)) = some (if R then 0 else 8):=by
  by_cases p : P <;> by_cases q : Q <;> simp [p,q,h]
theorem q7h (f : Qq) : q11 f = some (if FOk f then 0 else 8):=by
  unfold q11
  rw [qag]
  have e : decide (f.Turn ≥ 24) = decide (¬ f.Turn < 24):=by rw [decide_eq_decide];omega
  rw [e]
  exact qa5 Iff.rfl
theorem qt9 (f : Qq) : q80 f = some (if FOk f then 0 else 8):=by
  unfold q80
  rw [qg5]
  have e : decide (f.Turn ≥ 24) = decide (¬ f.Turn < 24):=by rw [decide_eq_decide];omega
  rw [e]
  exact qa5 Iff.rfl
theorem qjy {P : Prop} [Decidable P] {a : Int} (h : a≠0) : ((if P then (0 : Int) else a) != 0) = decide (¬ P):=by
  by_cases p : P <;> simp [p,h]
theorem qdk (s : Q2) : q4j s = some (if SOk s then 0 else 8):=by
  unfold q4j
  rw [q7h,qag]
  simp only [Option.bind_some,qjy (show (8 : Int)≠0 by omega)]
  exact qa5 Iff.rfl
theorem qn5 (s : Q2) : q81 s = some (if SOk s then 0 else 8):=by
  unfold q81
  rw [qt9,qg5]
  simp only [Option.bind_some,qjy (show (8 : Int)≠0 by omega)]
  exact qa5 Iff.rfl
theorem qj1 {v : qi} {lo : Int} (h : InV v lo) (hl : -1000000≤lo) : Qw v 1000000000000:=by unfold InV at h;unfold Qw;omega
def q115 : Qq:=⟨0,⟨0,0,0⟩⟩
def Kf : Q2:=⟨⟨0,⟨0,0,0⟩⟩,⟨0,0,0⟩⟩
theorem qn7 {f g : Qq} {t u : Nat} (ht : f.Turn = t) (hu : g.Turn = u) (hf : FOk f) (hg : FOk g) :
    q7k f g = some (if FOk ⟨(Zb t u : Nat),Yd u g.At f.At⟩ then (⟨(Zb t u : Nat),Yd u g.At f.At⟩,0) else (q115,16)):=by
  unfold q7k
  rw [q7h,q7h,if_pos hf,if_pos hg]
  have h1 : ((0 : Int) != 0) = false:=rfl
  simp only [Option.bind_some,h1,cond_false]
  have t24 : t < 24:=by have:=hf.1;omega
  have u24 : u < 24:=by have:=hg.1;omega
  rw [q10y ht hu t24 u24 (qj1 hf.2 q7) (qj1 hg.2 q7)]
  simp only [Option.bind_some,q7h]
  by_cases h : FOk ⟨(Zb t u : Nat),Yd u g.At f.At⟩
  · simp only [if_pos h];rfl
  · simp only [if_neg h];rfl
theorem qcp {s : Q2} {a z : qi} {t u : Nat} (hu : s.Frame.Turn = u) (hs : SOk s) (h24 : t < 24) (ha : InV a (-1000000)) (hz : InV z 0) :
    Zz s a z (t : Int) = some (if FOk ⟨(Zb t u : Nat),Yd u s.Frame.At a⟩ then (⟨⟨(Zb t u : Nat),Yd u s.Frame.At a⟩,z⟩,0) else (Kf,16)):=by
  unfold Zz
  have hf : FOk ⟨(t : Int),a⟩:=⟨by show (t : Int) < 24;omega,ha⟩
  rw [qdk,if_pos hs,q7h,if_pos hf,qag,decide_eq_true hz]
  have h1 : ((0 : Int) != 0) = false:=rfl
  simp only [Option.bind_some,h1,cond_false,Bool.not_true]
  rw [qn7 (f:=⟨(t : Int),a⟩) rfl hu hf hs.1]
  by_cases h : FOk ⟨(Zb t u : Nat),Yd u s.Frame.At a⟩
  · simp only [if_pos h];rfl
  · simp only [if_neg h];rfl
theorem qn3 {s : Q2} {a z : qi} {t : Int} (hs : ¬ SOk s) : Zz s a z t = some (Kf,8):=by
  unfold Zz
  rw [qdk,if_neg hs]
  rfl
theorem qqn (u : Nat) (a : qi) : Yd u a ⟨0,0,0⟩ = a:=by
  unfold Yd addV mulV;simp
end Go.Sh
namespace Go.Sh
open Go Go.Am
def rowOk (a b c : Int) : Prop:=(a = 1∧b = 0∧c = 0)∨(a = -1∧b = 0∧c = 0)∨(a = 0∧b = 1∧c = 0)∨(a = 0∧b = -1∧c = 0)∨(a = 0∧b = 0∧c = 1)∨(a = 0∧b = 0∧c = -1)
instance (a b c : Int) : Decidable (rowOk a b c):=by unfold rowOk;infer_instance
def qc3 (p q : qi) : qk:={Lo:=({X:=min p.X q.X,Y:=min p.Y q.Y,Z:=min p.Z q.Z} : qi),Hi:=({X:=max p.X q.X,Y:=max p.Y q.Y,Z:=max p.Z q.Z} : qi)}
noncomputable def qkh (t : Nat) (at_ : qi) (b : qk) : qk:=qc3 (Yd t at_ b.Lo) (Yd t at_ b.Hi)
noncomputable def place (l : List qk) (f : Qq) : List qk × Int:=
  if K7 l≠0 then ([],K7 l) else if ¬ FOk f then ([],8) else if ∀ b∈l,vB (qkh f.Turn.toNat f.At b) then mkB (l.map (qkh f.Turn.toNat f.At)) else ([],16)
end Go.Sh
namespace Go.Sh
open Go Go.Am
theorem q10q (a b : Int) : w64 (a - w64 b) = w64 (a + -b):=by rw [q10r,Int.sub_eq_add_neg]
theorem q50 {x y : Int} (hx : -2000002≤x∧x≤2000002) (hy : -2000002≤y∧y≤2000002) : -4000008000004≤x * y∧x * y≤4000008000004:=by
  by_cases h1 : 0≤x
  · by_cases h2 : 0≤y
    · have:=Int.mul_le_mul hx.2 hy.2 h2 q7;have:=Int.mul_nonneg h1 h2;omega
    · have h3 : 0≤-y:=by omega
      have h4:=Int.mul_le_mul hx.2 (show -y≤2000002 by omega) h3 q7;have h5:=Int.mul_nonneg h1 h3;rw [Int.mul_neg] at h4 h5;omega
  · have h1' : 0≤-x:=by omega
    by_cases h2 : 0≤y
    · have h4:=Int.mul_le_mul (show -x≤2000002 by omega) hy.2 h2 q7;have h5:=Int.mul_nonneg h1' h2;rw [Int.neg_mul] at h4 h5;omega
    · have h3 : 0≤-y:=by omega
      have h4:=Int.mul_le_mul (show -x≤2000002 by omega) (show -y≤2000002 by omega) h3 q7;have h5:=Int.mul_nonneg h1' h3;rw [Int.neg_mul_neg] at h4 h5;omega
theorem qyz {b c : qk} (hb : vB b) (hc : vB c) : q9c b c = some (Kt b c):=by
  unfold q9c Kt
  unfold vB at hb hc
  have wx : w64 (min b.Hi.X c.Hi.X - max b.Lo.X c.Lo.X) = min b.Hi.X c.Hi.X - max b.Lo.X c.Lo.X:=Q0 q7
  have wy : w64 (min b.Hi.Y c.Hi.Y - max b.Lo.Y c.Lo.Y) = min b.Hi.Y c.Hi.Y - max b.Lo.Y c.Lo.Y:=Q0 q7
  have wz : w64 (min b.Hi.Z c.Hi.Z - max b.Lo.Z c.Lo.Z) = min b.Hi.Z c.Hi.Z - max b.Lo.Z c.Lo.Z:=Q0 q7
  simp only [wx,wy,wz]
  have bx : -2000002≤min b.Hi.X c.Hi.X - max b.Lo.X c.Lo.X∧min b.Hi.X c.Hi.X - max b.Lo.X c.Lo.X≤2000002:=by omega
  have bY : -2000002≤min b.Hi.Y c.Hi.Y - max b.Lo.Y c.Lo.Y∧min b.Hi.Y c.Hi.Y - max b.Lo.Y c.Lo.Y≤2000002:=by omega
  have bz : -2000002≤min b.Hi.Z c.Hi.Z - max b.Lo.Z c.Lo.Z∧min b.Hi.Z c.Hi.Z - max b.Lo.Z c.Lo.Z≤2000002:=by omega
  generalize min b.Hi.X c.Hi.X - max b.Lo.X c.Lo.X = x at *
  generalize min b.Hi.Y c.Hi.Y - max b.Lo.Y c.Lo.Y = y at *
  generalize min b.Hi.Z c.Hi.Z - max b.Lo.Z c.Lo.Z = z at *
  have p1:=q50 bY bz
  have p2:=q50 bx bz
  have p3:=q50 bx bY
  rw [Q0 (x:=y * z) q7,Q0 (x:=x * z) q7,Q0 (x:=x * y) q7]
  by_cases x0 : x = 0
  · subst x0
    by_cases y0 : y > 0 <;> by_cases z0 : z > 0 <;> simp [y0,z0]
  · have ex : (x == 0) = false:=by simpa using x0
    by_cases x1 : x > 0
    · by_cases y0 : y = 0
      · subst y0
        by_cases z0 : z > 0 <;> simp [x0,ex,x1,z0]
      · have ey : (y == 0) = false:=by simpa using y0
        by_cases y1 : y > 0
        · by_cases z0 : z = 0
          · subst z0;simp [x0,ex,x1,y0,ey,y1]
          · have ez : (z == 0) = false:=by simpa using z0
            simp [x0,ex,x1,y0,ey,y1,z0,ez]
        · simp [x0,ex,x1,y0,ey,y1]
    · simp [x0,ex,x1]
theorem qpv {b : qk} (h : vB b) : w64 (2 * (w64 ((w64 ((w64 ((w64 (b.Hi.X - b.Lo.X)) * (w64 (b.Hi.Y - b.Lo.Y)))) + (w64 ((w64 (b.Hi.X - b.Lo.X)) * (w64 (b.Hi.Z - b.Lo.Z)))))) + (w64 ((w64 (b.Hi.Y - b.Lo.Y)) * (w64 (b.Hi.Z - b.Lo.Z))))))) = Ko b:=by
  unfold vB at h
  rw [Q0 (x:=b.Hi.X - b.Lo.X) q7,Q0 (x:=b.Hi.Y - b.Lo.Y) q7,Q0 (x:=b.Hi.Z - b.Lo.Z) q7]
  have p1:=q50 (x:=b.Hi.X - b.Lo.X) (y:=b.Hi.Y - b.Lo.Y) q7 q7
  have p2:=q50 (x:=b.Hi.X - b.Lo.X) (y:=b.Hi.Z - b.Lo.Z) q7 q7
  have p3:=q50 (x:=b.Hi.Y - b.Lo.Y) (y:=b.Hi.Z - b.Lo.Z) q7 q7
  unfold Ko
  rw [Q0 (x:=(b.Hi.X - b.Lo.X) * (b.Hi.Y - b.Lo.Y)) q7,Q0 (x:=(b.Hi.X - b.Lo.X) * (b.Hi.Z - b.Lo.Z)) q7,Q0 (x:=(b.Hi.Y - b.Lo.Y) * (b.Hi.Z - b.Lo.Z)) q7]
  rw [Q0 (x:=(b.Hi.X - b.Lo.X) * (b.Hi.Y - b.Lo.Y) + (b.Hi.X - b.Lo.X) * (b.Hi.Z - b.Lo.Z)) q7,Q0 (x:=(b.Hi.X - b.Lo.X) * (b.Hi.Y - b.Lo.Y) + (b.Hi.X - b.Lo.X) * (b.Hi.Z - b.Lo.Z) + (b.Hi.Y - b.Lo.Y) * (b.Hi.Z - b.Lo.Z)) q7,Q0 q7]
theorem q109 {l : List qk} (hl : l.length≤1000000) (hv : ∀ c∈l,vB c) {b : qk} (hb : vB b) (n m : Int) (hn : n = w64 m) :
    loop (q40 l b) (n,0) = some (w64 (m - 2 * sumL (fun c=>Kt b c) l)):=by
  rw [qi5 l hl (fun n c=>w64 (n + (-2) * (if vB c then Kt b c else 0))) (fun n=>n) (q40 l b) (fun k hk s=>by
    have hc:=hv _ (List.getElem_mem hk)
    simp only [q40,dlt hk,cond_true,K1 hk,Option.bind_some,qyz hb hc,w64s hk hl,if_pos hc]
    rw [q10q]
    have : -(2 * Kt b l[k]) = -2 * Kt b l[k]:=by omega
    rw [this]) (fun s=>by simp only [q40,dnl,cond_false]) n]
  rw [qdo (fun c=>-2 * (if vB c then Kt b c else 0)) l n m hn,qca,q1r (g:=fun c=>Kt b c) fun c hc=>by rw [if_pos (hv c hc)]]
  congr 2
  omega
theorem q10a {l : List qk} (hl : l.length≤400) (hv : ∀ c∈l,vB c) : loop (q3z l) (0,0) = some (w64 (Uv l)):=by
  have key:=Zp (f:=q3z l) (fun k=>(w64 (sumL Ko (l.take k) - 2 * Zk Kt l k),(k : Int))) l.length (w64 (Uv l)) (fun k hk=>by
    have hb:=hv _ (List.getElem_mem hk)
    have hz : slc l 0 (k : Int) = some (l.take k):=by
      unfold slc;rw [if_pos q7];simp
    have hin:=q109 (l:=l.take k) (by rw [List.length_take];omega) (fun c hc=>hv c (List.mem_of_mem_take hc)) hb (w64 (w64 (sumL Ko (l.take k) - 2 * Zk Kt l k) + Ko l[k])) (sumL Ko (l.take k) - 2 * Zk Kt l k + Ko l[k]) (qft _ _)
    simp only [q3z,dlt hk,cond_true,K1 hk,Option.bind_some,q6t,hz,qpv hb,hin,w64s hk q7]
    congr 3
    rw [List.take_succ_eq_append_getElem hk,q9o]
    simp only [Zk,List.getElem?_eq_getElem hk,sumL,Int.add_zero]
    congr 1
    omega) (by
    simp only [q3z,dnl,cond_false,List.take_length];rfl) (Nat.zero_le _)
  have h0 : (w64 (sumL Ko (l.take 0) - 2 * Zk Kt l 0),((0 : Nat) : Int)) = ((0 : Int),(0 : Int)):=by
    simp [sumL,Zk]
    exact Q0 q7
  rw [h0] at key
  exact key
theorem qp4 (b c : qk) : 0≤Kt b c:=by
  unfold Kt
  simp only
  split
  · rename_i h;exact Int.mul_nonneg q7 q7
  · split
    · rename_i h;exact Int.mul_nonneg q7 q7
    · split
      · rename_i h;exact Int.mul_nonneg q7 q7
      · exact Int.le_refl _
noncomputable def qce (l : List qk) : Int × Int:=if K7 l≠0 then (0,K7 l) else (Uv l,0)
theorem q108 (N : Nat) (P : Int→Int→Int→Prop) : 0≤q9p N P:=by
  unfold q9p
  have:=fun Q=>(qh0 N Q).1
  have h1:=this fun x y z=>P x y z∧¬ P (x + 1) y z
  have h2:=this fun x y z=>P x y z∧¬ P (x - 1) y z
  have h3:=this fun x y z=>P x y z∧¬ P x (y + 1) z
  have h4:=this fun x y z=>P x y z∧¬ P x (y - 1) z
  have h5:=this fun x y z=>P x y z∧¬ P x y (z + 1)
  have h6:=this fun x y z=>P x y z∧¬ P x y (z - 1)
  omega
theorem q105 {l : List qk} (h : K7 l = 0) : 0≤Uv l∧Uv l≤9600000000000000000 / 1000:=by
  obtain ⟨h1,h2,h3⟩:=Zv.1 h
  refine ⟨by rw [q106 h3 h2];exact q108 _ _,?_⟩
  have hp : ∀ n,0≤Zk Kt l n:=by
    intro n
    induction n with
    | zero=>exact Int.le_refl _
    | succ n ih=>
      rw [Zk]
      have : ∀ (b : qk) (l : List qk),0≤sumL (fun c=>Kt b c) l:=fun b l=>by
        induction l with
        | nil=>exact Int.le_refl _
        | cons c l ih=>rw [sumL];have:=qp4 b c;omega
      split
      · rename_i b _;have:=this b (l.take n);omega
      · omega
  have hf : ∀ l : List qk,(∀ b∈l,vB b)→sumL Ko l≤l.length * 24000000000000:=by
    intro l
    induction l with
    | nil=>intro _;exact Int.le_refl _
    | cons b l ih=>
      intro hv
      have i1:=ih fun c hc=>hv c (by simp [hc])
      have hb:=hv b qf
      unfold vB at hb
      have p1:=(qb7 (x:=b.Hi.X - b.Lo.X) (y:=b.Hi.Y - b.Lo.Y) (z:=0) q7 q7 q7).1
      have p2:=(qb7 (x:=b.Hi.X - b.Lo.X) (y:=b.Hi.Z - b.Lo.Z) (z:=0) q7 q7 q7).1
      have p3:=(qb7 (x:=b.Hi.Y - b.Lo.Y) (y:=b.Hi.Z - b.Lo.Z) (z:=0) q7 q7 q7).1
      have : Ko b≤24000000000000:=by unfold Ko;omega
      rw [sumL,List.length_cons]
      omega
  have:=hf l h2
  have:=hp l.length
  unfold Uv
  omega
theorem qfe (l : List qk) : Us l = some (qce l):=by
  unfold Us qce
  rw [qby,Option.bind_some]
  by_cases h : ¬ K7 l = 0
  · have : (K7 l != 0) = true:=by simpa using h
    rw [if_pos h,this,cond_true]
  replace h:=Classical.not_not.1 h
  obtain ⟨hl,hv,hc⟩:=Zv.1 h
  have:=q105 h
  rw [if_neg (by simp [h]),h,show ((0 : Int) != 0) = false from rfl,cond_false,q10a hl hv,Q0 q7];rfl
end Go.Sh
namespace Go.Sh
open Go Go.Am
def grpR : List ql→List (Grp qm)
  | []=>[]
  | r::l=>match grpR l with
    | g::gs=>if g.lo = r.X0∧g.hi = r.X1 then ⟨g.lo,g.hi,ysp r::g.sec⟩::gs else ⟨r.X0,r.X1,[ysp r]⟩::g::gs
    | []=>[⟨r.X0,r.X1,[ysp r]⟩]
def grpB : List qk→List (Grp ql)
  | []=>[]
  | r::l=>match grpB l with
    | g::gs=>if g.lo = r.Lo.Z∧g.hi = r.Hi.Z then ⟨g.lo,g.hi,J7 r::g.sec⟩::gs else ⟨r.Lo.Z,r.Hi.Z,[J7 r]⟩::g::gs
    | []=>[⟨r.Lo.Z,r.Hi.Z,[J7 r]⟩]
theorem qiv : ∀ l : List ql,Kp putR (grpR l) = l
  | []=>rfl
  | r::l=>by
    have ih:=qiv l
    unfold grpR
    split
    · rename_i g gs h
      rw [h] at ih
      split
      · rename_i h1
        obtain ⟨h1,h2⟩:=h1
        rw [← ih]
        simp only [Kp,List.flatMap_cons,List.map_cons,List.cons_append,h1,h2]
        congr 1
      · rw [← ih];rfl
    · rename_i h
      rw [h] at ih
      rw [← ih];rfl
theorem qiu : ∀ l : List qk,Kp putB (grpB l) = l
  | []=>rfl
  | r::l=>by
    have ih:=qiu l
    unfold grpB
    split
    · rename_i g gs h
      rw [h] at ih
      split
      · rename_i h1
        obtain ⟨h1,h2⟩:=h1
        rw [← ih]
        simp only [Kp,List.flatMap_cons,List.map_cons,List.cons_append,h1,h2]
        congr 1
      · rw [← ih];rfl
    · rename_i h
      rw [h] at ih
      rw [← ih];rfl
instance {σ : Type} [DecidableEq σ] (gs : List (Grp σ)) : Decidable (CanG gs):=by unfold CanG;infer_instance
instance (s : List qm) : Decidable (Can s):=by unfold Can;infer_instance
def isR (l : List ql) : Prop:=CanG (grpR l)∧∀ g∈grpR l,Can g.sec
instance (l : List ql) : Decidable (isR l):=by unfold isR;infer_instance
def isB (l : List qk) : Prop:=CanG (grpB l)∧∀ g∈grpB l,isR g.sec
instance (l : List qk) : Decidable (isB l):=by unfold isB;infer_instance
theorem isR.can {l : List ql} (h : isR l) : CanR l:=⟨grpR l,(qiv l).symm,h.1,h.2⟩
theorem isB.can {l : List qk} (h : isB l) : CanB l:=⟨grpB l,(qiu l).symm,h.1,fun g hg=>(h.2 g hg).can⟩
theorem qgt {l : List qk} (h : l.length≤400∧(∀ b∈l,vB b)∧isB l) : K7 l = 0:=Zv.2 ⟨h.1,h.2.1,h.2.2.can⟩
theorem qrf {kind : Int} {p q out : List qk} (h : p.length + q.length≤100000) (ho : CanB out) (he : ∀ x y z,Ky kind (hasB p x y z) (hasB q x y z)↔hasB out x y z) : mrgB kind p q = out:=
  qgp (qeb kind h) ho fun x y z=>by rw [qds kind h];exact he x y z
theorem qj4 {kind : Int} {p q out : List qk} (hp : K7 p = 0) (hq : K7 q = 0) (ho : CanB out) (hl : out.length≤400) (he : ∀ x y z,Ky kind (hasB p x y z) (hasB q x y z)↔hasB out x y z) : jB kind p q = (out,0):=by
  have lp:=(Zv.1 hp).1
  have lq:=(Zv.1 hq).1
  have e:=qrf (kind:=kind) (p:=p) (q:=q) q7 ho he
  unfold jB
  rw [if_neg (by simp [hp]),if_neg (by simp [hq]),e,if_neg q7]
def bx (x y z u v w : Int) : qk:={Lo:=({X:=x,Y:=y,Z:=z} : qi),Hi:=({X:=u,Y:=v,Z:=w} : qi)}
instance (kind : Int) (a b : Prop) [Decidable a] [Decidable b] : Decidable (Ky kind a b):=by unfold Ky;infer_instance
end Go.Sh
namespace Go.Sh
open Go Go.Am
end Go.Sh
namespace Go.Sh
open Go Go.Am
theorem qkt (z : Int) : q57 z = some (decide (Jy z)):=qi2 z
noncomputable def qel (p : List ql) (a b : Int) : List qk × Int:=
  if Kh p≠0 then ([],Kh p) else if Jy a∧Jy b∧a < b then (p.map (putB a b),0) else ([],2)
theorem qvt (p : List ql) (hl : p.length≤400) (a b : Int) : q84 0 0 a b p = some (p,0,b,p.map (putB a b)):=by
  unfold q84
  have hc : ((cond (decide ((p.length : Int) > 0)) (some ((0 : Int) == a)) (some false)).bind fun c101=>(cond c101 ((Ur [] p).bind fun r121=>some r121) (some false))) = some false:=by
    by_cases h5 : p = []
    · subst h5;simp
    · rw [q4h [] p qf]
      have : ([] : List ql)≠p:=fun h=>h5 h.symm
      rw [decide_eq_false this]
      cases (decide ((p.length : Int) > 0)) <;> cases ((0 : Int) == a) <;> rfl
  have hap:=qax p (putB a b) [] (fun o=>(p,(0 : Int),b,o)) (q58 p a b) (fun k hk o ho=>by
    simp only [q58,dlt hk,cond_true,K1 hk,Option.bind_some,w64s hk q7]
    rw [Za (by simp at ho ⊢;omega)]
    rfl) (fun o=>by simp only [q58,dnl,cond_false])
  rw [← Option.bind_assoc,hc]
  simp only [Option.bind_some,cond_false,hap,List.nil_append]
theorem qtg (p : List ql) (a b : Int) : q54 p a b = some (qel p a b):=by
  unfold q54 qel
  rw [qet,Option.bind_some]
  by_cases hc : Kh p = 0
  · have h1 : (Kh p != 0) = false:=by simp [hc]
    have hl:=(qgv hc).1
    rw [h1,cond_false,if_neg (by simp [hc])]
    simp only [qkt,Option.bind_some,qvt p hl]
    by_cases ha : Jy a
    · by_cases hb : Jy b
      · by_cases hab : a < b
        · have h2 : ¬ (b≤a):=by omega
          have h3 : decide (((p.map (putB a b)).length : Int) > 400) = false:=decide_eq_false (by simp;omega)
          rw [if_pos ⟨ha,hb,hab⟩]
          simp only [ha,hb,decide_true,Bool.not_true,cond_false,Option.bind_some,ge_iff_le,h2,decide_false,h3]
        · have h2 : b≤a:=by omega
          rw [if_neg (fun h=>hab h.2.2)]
          simp only [ha,hb,decide_true,Bool.not_true,cond_false,Option.bind_some,ge_iff_le,h2,cond_true]
      · rw [if_neg (fun h=>hb h.2.1)]
        simp only [ha,hb,decide_true,decide_false,Bool.not_true,Bool.not_false,cond_false,Option.bind_some,cond_true]
    · rw [if_neg (fun h=>ha h.1)]
      simp only [ha,decide_false,Bool.not_false,Option.bind_some,cond_true]
  · have h1 : (Kh p != 0) = true:=by simpa using hc
    rw [h1,cond_true,if_pos hc]
end Go.Sh
namespace Go.Sh
open Go Go.Am
theorem quh (s : Mg ql qk) (a b : Int) (c : List ql) (hl : (s.flat putB).length + c.length≤1000000) :
    q85 (s.flat putB) s.sec (s.done.length : Int) s.hi a b c = some ((addM putB s a b c).sec,((addM putB s a b c).done.length : Int),(addM putB s a b c).hi,(addM putB s a b c).flat putB):=by
  have hfl : (s.flat putB).length = s.done.length + s.sec.length:=by simp [Mg.flat]
  have hsec : s.sec.length≤1000000:=by omega
  unfold q85
  rcases q48 putB s a b c with ⟨h1,h2,h3,h4⟩ | ⟨h1,h4⟩
  · have hb : decide ((c.length : Int) > 0) = true:=decide_eq_true (by have:=List.length_pos_iff.2 h1;omega)
    have he : (s.hi == a) = true:=by simpa using h3
    rw [h2] at hb
    rw [h4,h2]
    simp only [hb,cond_true,he,Option.bind_some,q4h _ _ hsec,decide_true]
    have:=qdh (fun v : qk=>({Lo:=v.Lo,Hi:=({X:=v.Hi.X,Y:=v.Hi.Y,Z:=b} : qi)} : qk)) s.done (s.sec.map (putB s.lo s.hi)) (by simp;omega) (q59 b) (fun k o hk ho=>by
      have h5 : (s.done ++ s.sec.map (putB s.lo s.hi)).length = (s.flat putB).length:=rfl
      simp only [q59,dlt hk,cond_true,K1 hk,Option.bind_some,w64s hk q7,Int.toNat_natCast]) (fun o=>by simp only [q59,dnl,cond_false])
    rw [show s.flat putB = s.done ++ s.sec.map (putB s.lo s.hi) from rfl,this]
    simp only [Option.bind_some,Mg.flat,List.map_map]
    rfl
  · rw [h4]
    have hc : ((cond (decide ((c.length : Int) > 0)) (some (s.hi == a)) (some false)).bind fun c101=>(cond c101 ((Ur s.sec c).bind fun r121=>some r121) (some false))) = some false:=by
      by_cases h5 : c = []
      · subst h5;simp
      · have hb : decide ((c.length : Int) > 0) = true:=decide_eq_true (by have:=List.length_pos_iff.2 h5;omega)
        simp only [hb,cond_true,Option.bind_some,q4h _ _ hsec]
        by_cases h6 : s.hi = a
        · have h7 : s.sec≠c:=fun h=>h1 ⟨h5,h.symm,h6⟩
          simp [h6,h7]
        · have : (s.hi == a) = false:=by simpa using h6
          simp [this]
    have hap:=qax c (putB a b) (s.flat putB) (fun o=>(c,((s.flat putB).length : Int),b,o)) (q5a c a b (s.flat putB)) (fun k hk o ho=>by
      simp only [q5a,dlt hk,cond_true,K1 hk,Option.bind_some,w64s hk q7]
      rw [Za (by simp;omega)]
      rfl) (fun o=>by simp only [q5a,dnl,cond_false])
    rw [← Option.bind_assoc,hc]
    simp only [Option.bind_some,cond_false,hap]
    simp [Mg.flat]
def zAt : Int→List K4→Nat→Int
  | z,[],_=>z
  | z,_::_,0=>z
  | z,s::r,k + 1=>zAt (z + s.Height) r k
theorem qck (z : Int) (l : List K4) : zAt z l 0 = z:=by cases l <;> rfl
theorem qg1 : ∀ (l : List K4) (z : Int) (k : Nat) (h : k < l.length),zAt z l (k + 1) = zAt z l k + l[k].Height
  | [],_,_,h=>absurd h qf
  | s::r,z,0,_=>by simp [zAt,qck]
  | s::r,z,k + 1,h=>by
    have:=qg1 r (z + s.Height) k (by simpa using h)
    simpa [zAt] using this
def Kq : Int→List K4→List (Int × Int × List ql)
  | _,[]=>[]
  | z,s::r=>(z,z + s.Height,s.Region)::Kq (z + s.Height) r
theorem qfj : ∀ (l : List K4) (z : Int),(Kq z l).length = l.length
  | [],_=>rfl
  | s::r,z=>by simp [Kq,qfj r]
theorem qfi : ∀ (l : List K4) (z : Int) (k : Nat) (h : k < l.length) (h' : k < (Kq z l).length),(Kq z l)[k] = (zAt z l k,zAt z l (k + 1),l[k].Region)
  | [],_,_,h,_=>absurd h qf
  | s::r,z,0,_,_=>by simp [Kq,zAt,qck]
  | s::r,z,k + 1,h,h'=>by
    have:=qfi r (z + s.Height) k (by simpa using h) (by simpa [Kq] using h')
    simpa [Kq,zAt] using this
end Go.Sh
