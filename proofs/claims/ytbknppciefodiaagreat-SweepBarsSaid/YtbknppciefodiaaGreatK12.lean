/- Rs1 Rs2 Rs3 Qb1 Rs4 Qb2 Pf3 Rs5 Rs6 Rs7 Sw1 Sw2 Sw3 Sw4 Sw5 -/
import Derived.Test.YtbknppciefodiaaGreatK11
namespace Go.Sh
open Go Go.Am
theorem qdk {α β : Type} {f : α→Option (α ⊕ β)} (st : Nat→α) (n : Nat) (ok : Nat→Prop) (b e : β)
    (step : ∀ k,k < n→(∀ j,j≤k→ok j)→f (st k) = some (.inl (st (k + 1))))
    (bad : ∀ k,k < n→(∀ j,j < k→ok j)→¬ ok k→f (st k) = some (.inr e))
    (done : (∀ j,j < n→ok j)→f (st n) = some (.inr b)) :
    ((∀ j,j < n→ok j)∧loop f (st 0) = some b)∨(∃ j,j < n∧¬ ok j∧loop f (st 0) = some e):=by
  by_cases h : ∀ j,j < n→ok j
  · exact .inl ⟨h,Z8 st n b (fun k hk=>step k hk fun j hj=>h j q6) (done h) (Nat.zero_le _)⟩
  · refine .inr ?_
    have h2 : ∃ k,(k < n∧¬ ok k)∧∀ j,j < k→ok j:=by
      have : ∃ k,k < n∧¬ ok k:=by
        refine Classical.byContradiction fun hn=>h fun k hk=>?_
        exact Classical.byContradiction fun h=>hn ⟨k,hk,h⟩
      obtain ⟨k,hk⟩:=this
      induction k using Nat.strongRecOn with
      | _ k ih=>
        by_cases hj : ∃ j,j < k∧(j < n∧¬ ok j)
        · obtain ⟨j,h1,h2⟩:=hj;exact ih j h1 h2
        · exact ⟨k,hk,fun j h1=>Classical.byContradiction fun h=>hj ⟨j,h1,q6,h⟩⟩
    obtain ⟨K,⟨hK,hb⟩,hmin⟩:=h2
    exact ⟨K,hK,hb,Z8 st K e (fun k hk=>step k q6 fun j hj=>hmin j q6) (bad K hK hmin hb) (Nat.zero_le _)⟩
theorem qxr (xs : List Int) (h : xs.length≤1000000) :
    ((U9 xs).bind fun e127=>(Qu e127.length xs.length).bind fun u129=>(q24 e127).bind fun e132=>(Qu e132.2.length e127.length).bind fun u134=>(q2c e132.2.length e132.1).bind fun u137=>some ((e132.2.drop e132.1.1).take e132.1.2)) = some (Qo xs):=by
  obtain ⟨ys,s1,s2,s3⟩:=qkt xs h
  have hys : ys.length = xs.length:=s2.length_eq
  obtain ⟨w,a,c1,c2,c3,c4⟩:=qgb s3 q6
  obtain ⟨_,d2,_⟩:=J6 h
  have huniq : a.take w = Qo xs:=by
    refine qku (l:=xs) ⟨c4.1,fun x=>?_⟩ d2
    rw [c4.2 x];exact s2.mem_iff
  simp only [Option.bind_some,s1,Qu,hys,if_true,c1,c2,q2c]
  rw [if_pos q6]
  simp only [Option.bind_some,List.drop_zero,huniq]
theorem qsj (l : List qk) (hl : l.length≤1000000) : q8b l (fun x0=>q1w x0) = some (decide (¬ ∀ r∈l,vR r)):=by
  have hs : ∀ (k : Nat) (h : k < l.length),q3f l (fun x0=>q1w x0) (k : Int) = some (if (fun r=>!decide (vR r)) l[k] = true then .inr (.inr (k : Int)) else .inl ((k + 1 : Nat) : Int)):=by
    intro k h
    simp only [q3f,dlt h,cond_true,Qj h,Option.bind_some,w64s h hl,q1w,qyz]
    by_cases hv : vR l[k] <;> simp [hv]
  have hd : q3f l (fun x0=>q1w x0) (l.length : Int) = some (.inr (.inl ())):=by simp only [q3f,dnl,cond_false]
  unfold q8b qbl
  rcases Yy l (fun r=>!decide (vR r)) (fun k _=>(k : Int)) () _ hs hd with ⟨h1,h2⟩ | ⟨k,hk,hc,_,h2⟩
  · rw [h2]
    have : ∀ r∈l,vR r:=fun r hr=>by simpa using h1 r hr
    simp []
    omega
  · rw [h2]
    have : ¬ ∀ r∈l,vR r:=fun h=>by simp [h _ (List.getElem_mem hk)] at hc
    simp only [Option.bind_some]
    rw [decide_eq_true this,decide_eq_true q6]
theorem qsg (l : List qk) : q57 l = some (mkR l):=by
  unfold q57 mkR
  by_cases h4 : 400 < l.length
  · rw [decide_eq_true (by omega : (l.length : Int) > 400),cond_true,if_pos h4]
  rw [decide_eq_false (by omega : ¬ (l.length : Int) > 400),cond_false,if_neg h4,qsj l q6,Option.bind_some]
  by_cases hv : ∀ r∈l,vR r
  · rw [decide_eq_false (fun h=>h hv),cond_false,qpi l q6 hv,if_pos hv];rfl
  · rw [decide_eq_true hv,cond_true,if_neg hv]
end Go.Sh
namespace Go.Sh
open Go Go.Am
theorem qxq (v : qv) : q6f v = some (decide ((-1000000≤v.X∧-1000000≤v.Y∧-1000000≤v.Z)∧v.X≤1000000∧v.Y≤1000000∧v.Z≤1000000)):=by
  unfold q6f
  by_cases h1 : min (min v.X v.Y) v.Z ≥ -1000000
  · by_cases h2 : max (max v.X v.Y) v.Z≤1000000
    · rw [decide_eq_true h1,decide_eq_true h2,cond_true,Option.bind_some];congr 1;exact (decide_eq_true q6).symm
    · rw [decide_eq_true h1,decide_eq_false h2,cond_true,Option.bind_some];congr 1;exact (decide_eq_false q6).symm
  · rw [decide_eq_false h1,cond_false,Option.bind_some];congr 1;exact (decide_eq_false q6).symm
theorem qkp (b : qg) : q6g b = some (decide (vB b)):=by
  unfold q6g vB
  simp only [qxq,Option.bind_some]
  by_cases h1 : b.Lo.X < b.Hi.X
  · by_cases h2 : b.Lo.Y < b.Hi.Y
    · by_cases h3 : b.Lo.Z < b.Hi.Z
      · simp only [h1,h2,h3,decide_true,cond_true,Option.bind_some,true_and]
        by_cases h4 : (-1000000≤b.Lo.X∧-1000000≤b.Lo.Y∧-1000000≤b.Lo.Z)∧b.Lo.X≤1000000∧b.Lo.Y≤1000000∧b.Lo.Z≤1000000
        · rw [decide_eq_true h4]
          simp only [cond_true,Option.bind_some]
          congr 1
          exact decide_eq_decide.2 q6
        · rw [decide_eq_false h4]
          simp only [cond_false,Option.bind_some]
          congr 1
          exact (decide_eq_false q6).symm
      · simp [h1,h2,h3]
    · simp [h1,h2]
  · simp [h1]
theorem qrz (v : qv) (n : Int) : Zt v n = some (decide ((n≤v.X∧n≤v.Y∧n≤v.Z)∧v.X≤1000000∧v.Y≤1000000∧v.Z≤1000000)):=by
  unfold Zt
  by_cases h1 : v.X ≥ n <;> by_cases h2 : v.Y ≥ n <;> by_cases h3 : v.Z ≥ n <;> by_cases h4 : v.X≤1000000 <;> by_cases h5 : v.Y≤1000000 <;> by_cases h6 : v.Z≤1000000 <;>
    simp [h1,h2,h3,h4,h5,h6] <;> omega
theorem qji (b : qg) : q37 b = some (decide (vB b)):=by
  unfold q37 vB
  simp only [qrz,Option.bind_some]
  by_cases h4 : (-1000000≤b.Lo.X∧-1000000≤b.Lo.Y∧-1000000≤b.Lo.Z)∧b.Lo.X≤1000000∧b.Lo.Y≤1000000∧b.Lo.Z≤1000000
  · rw [decide_eq_true h4]
    simp only [cond_true,Option.bind_some]
    by_cases h5 : (-1000000≤b.Hi.X∧-1000000≤b.Hi.Y∧-1000000≤b.Hi.Z)∧b.Hi.X≤1000000∧b.Hi.Y≤1000000∧b.Hi.Z≤1000000
    · rw [decide_eq_true h5]
      by_cases h1 : b.Lo.X < b.Hi.X <;> by_cases h2 : b.Lo.Y < b.Hi.Y <;> by_cases h3 : b.Lo.Z < b.Hi.Z <;> simp [h1,h2,h3] <;> omega
    · rw [decide_eq_false h5]
      simp only [cond_false,Option.bind_some]
      congr 1
      exact (decide_eq_false q6).symm
  · rw [decide_eq_false h4]
    simp only [cond_false,Option.bind_some]
    congr 1
    exact (decide_eq_false q6).symm
theorem qxp (l : List qg) (hl : l.length≤1000000) : q89 l (fun x0=>q29 x0) = some (decide (¬ ∀ r∈l,vB r)):=by
  have hs : ∀ (k : Nat) (h : k < l.length),q3e l (fun x0=>q29 x0) (k : Int) = some (if (fun r=>!decide (vB r)) l[k] = true then .inr (.inr (k : Int)) else .inl ((k + 1 : Nat) : Int)):=by
    intro k h
    simp only [q3e,dlt h,cond_true,Qj h,Option.bind_some,w64s h hl,q29,qkp]
    by_cases hv : vB l[k] <;> simp [hv]
  have hd : q3e l (fun x0=>q29 x0) (l.length : Int) = some (.inr (.inl ())):=by simp only [q3e,dnl,cond_false]
  unfold q89 qbi
  rcases Yy l (fun r=>!decide (vB r)) (fun k _=>(k : Int)) () _ hs hd with ⟨h1,h2⟩ | ⟨k,hk,hc,_,h2⟩
  · rw [h2]
    have : ∀ r∈l,vB r:=fun r hr=>by simpa using h1 r hr
    simp []
    omega
  · rw [h2]
    have : ¬ ∀ r∈l,vB r:=fun h=>by simp [h _ (List.getElem_mem hk)] at hc
    simp only [Option.bind_some]
    rw [decide_eq_true this,decide_eq_true q6]
theorem qxo (l : List qg) (hl : l.length≤1000000) : q8c l (fun x0=>q28 x0) = some (decide (¬ ∀ r∈l,vB r)):=by
  have hs : ∀ (k : Nat) (h : k < l.length),q3g l (fun x0=>q28 x0) (k : Int) = some (if (fun r=>!decide (vB r)) l[k] = true then .inr (.inr (k : Int)) else .inl ((k + 1 : Nat) : Int)):=by
    intro k h
    simp only [q3g,dlt h,cond_true,Qj h,Option.bind_some,w64s h hl,q28,qkp]
    by_cases hv : vB l[k] <;> simp [hv]
  have hd : q3g l (fun x0=>q28 x0) (l.length : Int) = some (.inr (.inl ())):=by simp only [q3g,dnl,cond_false]
  unfold q8c qbm
  rcases Yy l (fun r=>!decide (vB r)) (fun k _=>(k : Int)) () _ hs hd with ⟨h1,h2⟩ | ⟨k,hk,hc,_,h2⟩
  · rw [h2]
    have : ∀ r∈l,vB r:=fun r hr=>by simpa using h1 r hr
    simp []
    omega
  · rw [h2]
    have : ¬ ∀ r∈l,vB r:=fun h=>by simp [h _ (List.getElem_mem hk)] at hc
    simp only [Option.bind_some]
    rw [decide_eq_true this,decide_eq_true q6]
theorem qxm (s : Mg qk qg) (a b : Int) (c : List qk) (hl : (s.flat putB).length + c.length≤1000000) :
    q99 (s.flat putB) s.sec (s.done.length : Int) s.hi a b c = some ((addM putB s a b c).sec,((addM putB s a b c).done.length : Int),(addM putB s a b c).hi,(addM putB s a b c).flat putB):=by
  have hfl : (s.flat putB).length = s.done.length + s.sec.length:=by simp [Mg.flat]
  have hsec : s.sec.length≤1000000:=by omega
  unfold q99
  rcases Uf putB s a b c with ⟨h1,h2,h3,h4⟩ | ⟨h1,h4⟩
  · have hb : decide ((c.length : Int) > 0) = true:=decide_eq_true (by have:=List.length_pos_iff.2 h1;omega)
    have he : (s.hi == a) = true:=by simpa using h3
    rw [h2] at hb
    rw [h4,h2]
    simp only [hb,cond_true,he,Option.bind_some,qgp _ _ hsec,decide_true]
    have:=qad (fun v : qg=>({Lo:=v.Lo,Hi:=({X:=v.Hi.X,Y:=v.Hi.Y,Z:=b} : qv)} : qg)) s.done (s.sec.map (putB s.lo s.hi)) (by simp;omega) (q6d b) (fun k o hk ho=>by
      have h5 : (s.done ++ s.sec.map (putB s.lo s.hi)).length = (s.flat putB).length:=rfl
      simp only [q6d,dlt hk,cond_true,Qj hk,Option.bind_some,w64s hk q6,Int.toNat_natCast]) (fun o=>by simp only [q6d,dnl,cond_false])
    rw [show s.flat putB = s.done ++ s.sec.map (putB s.lo s.hi) from rfl,this]
    simp only [Option.bind_some,Mg.flat,List.map_map]
    rfl
  · rw [h4]
    have hc : ((cond (decide ((c.length : Int) > 0)) (some (s.hi == a)) (some false)).bind fun c101=>(cond c101 ((q8e s.sec c).bind fun r121=>some r121) (some false))) = some false:=by
      by_cases h5 : c = []
      · subst h5;simp
      · have hb : decide ((c.length : Int) > 0) = true:=decide_eq_true (by have:=List.length_pos_iff.2 h5;omega)
        simp only [hb,cond_true,Option.bind_some,qgp _ _ hsec]
        by_cases h6 : s.hi = a
        · have h7 : s.sec≠c:=fun h=>h1 ⟨h5,h.symm,h6⟩
          simp [h6,h7]
        · have : (s.hi == a) = false:=by simpa using h6
          simp [this]
    have hap:=q4d c (putB a b) (s.flat putB) (fun o=>(c,((s.flat putB).length : Int),b,o)) (q6e c a b (s.flat putB)) (fun k hk o ho=>by
      simp only [q6e,dlt hk,cond_true,Qj hk,Option.bind_some,w64s hk q6]
      rw [Kr (by simp;omega)]
      rfl) (fun o=>by simp only [q6e,dnl,cond_false])
    rw [← Option.bind_assoc,hc]
    simp only [Option.bind_some,cond_false,hap]
    simp [Mg.flat]
theorem qzc (l : List qg) (o : List Int) (hl : l.length≤400) (ho : o.length≤10000) : loop (q3p l) (0,o) = some (o ++ zsOf l):=
  Je l q6 (fun r=>[r.Lo.Z,r.Hi.Z]) o (fun o=>o) (q3p l) (fun k hk o' ho'=>by
    have h8 : o'.length = o.length + 2 * k:=by
      rw [ho',List.length_append];have:=Z5 (l.take k);rw [List.length_take,Nat.min_eq_left q6] at this
      unfold zsOf at this;omega
    simp only [q3p,dlt hk,cond_true,Qj hk,Option.bind_some,w64s hk q6]
    rw [Kr (by simp;omega)]
    rfl) (fun o=>by simp only [q3p,dnl,cond_false])
theorem qfk (l : List qg) (hl : l.length≤400) (x : Int) : loop (q3r l x) (0,[]) = some (atB l x):=by
  have:=Je l q6 (fun r=>if covB x r = true then [Zu r] else []) [] (fun o=>o) (q3r l x) (fun k hk o ho=>by
    have h8 : o.length≤k:=by rw [ho,List.nil_append];have:=Zd (l.take k) x;rw [List.length_take,Nat.min_eq_left q6] at this;exact this
    simp only [q3r,dlt hk,cond_true,Qj hk,Option.bind_some,w64s hk q6]
    by_cases h1 : l[k].Lo.Z≤x
    · by_cases h2 : x < l[k].Hi.Z
      · simp only [h1,h2,decide_true,cond_true,Option.bind_some,covB,Bool.and_self,if_true]
        rw [Kr (by simp;omega)]
        rfl
      · simp only [h1,h2,decide_true,decide_false,cond_true,cond_false,Option.bind_some,covB,Bool.and_false,if_false,Bool.false_eq_true,List.append_nil]
    · simp only [h1,decide_false,cond_false,Option.bind_some,covB,Bool.false_and,if_false,Bool.false_eq_true,List.append_nil]) (fun o=>by simp only [q3r,dnl,cond_false])
  rw [List.nil_append] at this
  exact this
theorem quf {kind : Int} {p q : List qg} {xs : List Int} (hxs : Qo (zsOf p ++ zsOf q) = xs) (h : p.length + q.length≤800) (F : Int × List qk × Int × Int × List qg→Option ((Int × List qk × Int × Int × List qg) ⊕ ((List qk × Int × Int × List qg) ⊕ (List qg × Int))))
    (hgo : ∀ (a b : Int) (k : Nat) (s : Mg qk qg),(s.flat putB).length + 400≤1000000→(h1 : k + 1 < xs.length)→a = xs[k]'(q6)→b = xs[k + 1]'h1→(secB kind p q a).length≤400→
      F (((k + 1 : Nat) : Int),s.sec,(s.done.length : Int),s.hi,s.flat putB) = some (.inl (((k + 1 + 1 : Nat) : Int),(addM putB s a b (secB kind p q a)).sec,((addM putB s a b (secB kind p q a)).done.length : Int),(addM putB s a b (secB kind p q a)).hi,(addM putB s a b (secB kind p q a)).flat putB)))
    (hbad : ∀ (a : Int) (k : Nat) (s : Mg qk qg),(h1 : k + 1 < xs.length)→a = xs[k]'(q6)→400 < (secB kind p q a).length→
      F (((k + 1 : Nat) : Int),s.sec,(s.done.length : Int),s.hi,s.flat putB) = some (.inr (.inr ([],4))))
    (hend : ∀ (k : Nat) (s : Mg qk qg),xs.length≤k + 1→F (((k + 1 : Nat) : Int),s.sec,(s.done.length : Int),s.hi,s.flat putB) = some (.inr (.inl (s.sec,(s.done.length : Int),s.hi,s.flat putB)))) :
    (∃ a b c,loop F (1,[],0,0,[]) = some (.inl (a,b,c,mrgB kind p q)))∨(400 < (mrgB kind p q).length∧loop F (1,[],0,0,[]) = some (.inr ([],4))):=by
  have hx1:=Z5 p
  have hx2:=Z5 q
  obtain ⟨_,hso,hlen⟩:=J6 (l:=zsOf p ++ zsOf q) (by simp;omega)
  have hlen : (Qo (zsOf p ++ zsOf q)).length≤1600:=by simp at hlen;omega
  have hle : ∀ x,(secB kind p q x).length≤(mrgB kind p q).length:=fun x=>qk3 kind q6 x
  have hmr : mrgB kind p q = (Qw putB Qs (Kx (Qo (zsOf p ++ zsOf q)) (secB kind p q))).flat putB:=rfl
  rw [hmr] at hle ⊢
  rw [hxs] at hso hlen hle ⊢
  generalize hst : Kx xs (secB kind p q) = steps at hle ⊢
  have hsl : steps.length = xs.length - 1:=by rw [← hst];exact q2b _ _
  have hgk : ∀ k (hk : k < steps.length),steps[k] = (xs[k]'(q6),xs[k + 1]'(q6),secB kind p q (xs[k]'(q6))):=fun k hk=>by subst hst;exact q3v hk q6
  have hml : ∀ k,k≤steps.length→(∀ j,j < k→∀ t,steps[j]? = some t→t.2.2.length≤400)→((Qw putB Qs (steps.take k)).flat putB).length≤1600 * 400:=fun k hk hj=>by
    have h1:=q48 putB (s0:=Qs) (M:=400) (steps:=steps.take k) (fun t ht=>by
      obtain ⟨i,hi,rfl⟩:=List.getElem_of_mem ht
      rw [List.length_take] at hi
      rw [List.getElem_take]
      exact hj i q6 _ (List.getElem?_eq_getElem q6))
    have h2 : (steps.take k).length≤1600:=by rw [List.length_take];omega
    have h3 : (Qs.flat putB : List qg).length = 0:=rfl
    have h4 : (steps.take k).length * 400≤1600 * 400:=Nat.mul_le_mul_right _ h2
    omega
  have main:=qdk (f:=F) (fun k=>(((k + 1 : Nat) : Int),(Qw putB Qs (steps.take k)).sec,((Qw putB Qs (steps.take k)).done.length : Int),(Qw putB Qs (steps.take k)).hi,(Qw putB Qs (steps.take k)).flat putB))
    steps.length (fun j=>∀ t,steps[j]? = some t→t.2.2.length≤400) (.inl ((Qw putB Qs steps).sec,((Qw putB Qs steps).done.length : Int),(Qw putB Qs steps).hi,(Qw putB Qs steps).flat putB)) (.inr ([],4))
    (fun k hk hj=>by
      have hk1 : k + 1 < xs.length:=by omega
      have hc:=hj k (Nat.le_refl _) _ (List.getElem?_eq_getElem hk)
      have hm:=hml k q6 fun j hjk=>hj j q6
      rw [q1e putB hk,hgk k hk] at *
      simp only at hc
      exact hgo _ _ k (Qw putB Qs (steps.take k)) q6 hk1 rfl rfl hc)
    (fun k hk hj hb=>by
      have hk1 : k + 1 < xs.length:=by omega
      have hk0 : k < xs.length:=by omega
      refine hbad _ k (Qw putB Qs (steps.take k)) hk1 rfl ?_
      refine Nat.lt_of_not_le fun h=>hb fun t ht=>?_
      rw [List.getElem?_eq_getElem hk,hgk k hk] at ht
      cases ht;exact h)
    (fun _=>by
      rw [List.take_length]
      exact hend steps.length _ q6)
  have h00 : ((((0 + 1 : Nat) : Int),(Qw putB Qs (steps.take 0)).sec,((Qw putB Qs (steps.take 0)).done.length : Int),(Qw putB Qs (steps.take 0)).hi,(Qw putB Qs (steps.take 0)).flat putB) : Int × List qk × Int × Int × List qg) = (1,[],0,0,[]):=rfl
  rw [h00] at main
  rcases main with ⟨_,h2⟩ | ⟨j,hj,hb,h2⟩
  · exact .inl ⟨_,_,_,h2⟩
  · refine .inr ⟨?_,h2⟩
    have hj0 : j < xs.length:=by omega
    have h5 : 400 < (secB kind p q xs[j]).length:=by
      refine Nat.lt_of_not_le fun h=>hb fun t ht=>?_
      rw [List.getElem?_eq_getElem hj,hgk j hj] at ht
      cases ht;exact h
    exact Nat.lt_of_lt_of_le h5 (hle xs[j])
theorem qjv (l : List qg) (hl : l.length≤400) (hv : ∀ b∈l,vB b) : q6h l = some (if 400 < (mrgB 2 l []).length then ([],4) else (mrgB 2 l [],0)):=by
  unfold q6h
  have hx1:=Z5 l
  simp only [show idx [l] 0 = some l from rfl,Option.bind_some,qzc l [] hl qd,List.nil_append]
  rw [qxr _ q6]
  simp only [Option.bind_some]
  have hz : zsOf l = zsOf l ++ zsOf []:=by simp [zsOf]
  obtain ⟨_,hso,hlen⟩:=J6 (l:=zsOf l ++ zsOf []) (by rw [← hz];omega)
  have hlen : (Qo (zsOf l ++ zsOf [])).length≤800:=by rw [← hz] at hlen ⊢;omega
  have hmk : ∀ z,q57 (atB l z) = some (if 400 < (secB 2 l [] z).length then ([],4) else (secB 2 l [] z,0)):=fun z=>by
    have:=Zd l z
    rw [qsg,mkR,if_neg q6,if_pos (qyy hv z)];rfl
  rw [hz]
  have:=quf (kind:=2) (p:=l) (q:=[]) rfl (by simp;omega) (q3q (Qo (zsOf l ++ zsOf [])) l)
    (fun a b k s hs h1 ha hb hc=>by
      have h0 : k < (Qo (zsOf l ++ zsOf [])).length:=by omega
      have i1 : idx (Qo (zsOf l ++ zsOf [])) (w64 (((k + 1 : Nat) : Int) - 1)) = some a:=by rw [Q6 q6,ha];exact U4 q6 q6
      have i2 : idx (Qo (zsOf l ++ zsOf [])) ((k + 1 : Nat) : Int) = some b:=by rw [hb];exact Qj h1
      have hm:=hmk a
      rw [if_neg q6] at hm
      simp only [q3q,dlt h1,cond_true,i1,i2,Option.bind_some,show idx [l] 0 = some l from rfl,qfk l hl,hm,show ((0 : Int) != 0) = false from rfl,cond_false,qxm s a b (secB 2 l [] a) q6]
      rw [w64s h1 q6])
    (fun a k s h1 ha hc=>by
      have i1 : idx (Qo (zsOf l ++ zsOf [])) (w64 (((k + 1 : Nat) : Int) - 1)) = some a:=by rw [Q6 q6,ha];exact U4 q6 q6
      have hm:=hmk a
      rw [if_pos hc] at hm
      simp only [q3q,dlt h1,cond_true,i1,Qj h1,Option.bind_some,show idx [l] 0 = some l from rfl,qfk l hl,hm,show ((4 : Int) != 0) = true from rfl])
    (fun k s h1=>by
      have : decide (((k + 1 : Nat) : Int) < ((Qo (zsOf l ++ zsOf [])).length : Int)) = false:=decide_eq_false q6
      simp only [q3q,this,cond_false])
  rcases this with ⟨a,b,c,h2⟩ | ⟨h4,h2⟩
  · rw [h2]
    simp only [Option.bind_some]
    by_cases h4 : 400 < (mrgB 2 l []).length
    · rw [decide_eq_true (by omega : ((mrgB 2 l []).length : Int) > 400),if_pos h4];rfl
    · rw [decide_eq_false (by omega : ¬ ((mrgB 2 l []).length : Int) > 400),if_neg h4];rfl
  · rw [h2,if_pos h4];rfl
theorem qxk (l : List qg) : q98 l = some (mkB l):=by
  unfold q98 mkB
  by_cases h4 : 400 < l.length
  · rw [decide_eq_true (by omega : (l.length : Int) > 400),cond_true,if_pos h4]
  rw [decide_eq_false (by omega : ¬ (l.length : Int) > 400),cond_false,if_neg h4,qxp l q6,Option.bind_some]
  by_cases hv : ∀ r∈l,vB r
  · rw [decide_eq_false (fun h=>h hv),cond_false,qjv l q6 hv,if_pos hv];rfl
  · rw [decide_eq_true hv,cond_true,if_neg hv]
theorem qnu (p q : List qg) (hl : p.length≤1000000) : qbg p q = some (decide (p = q)):=sameBox p q hl
theorem qkm (l : List qg) : q6c l = some (Kg l):=by
  unfold q6c Kg
  by_cases h4 : 400 < l.length
  · rw [decide_eq_true (by omega : (l.length : Int) > 400),cond_true,if_pos h4]
  rw [decide_eq_false (by omega : ¬ (l.length : Int) > 400),cond_false,if_neg h4,qxo l q6,Option.bind_some]
  by_cases hv : ∀ r∈l,vB r
  · rw [decide_eq_false (fun h=>h hv),cond_false,qjv l q6 hv,if_pos hv,Option.bind_some]
    by_cases hm : 400 < (mrgB 2 l []).length
    · have hne : mrgB 2 l []≠l:=fun h=>by rw [h] at hm;exact h4 hm
      rw [if_pos hm,if_neg hne];rfl
    · rw [if_neg hm]
      simp only [qnu (mrgB 2 l []) l q6]
      by_cases he : mrgB 2 l [] = l <;> simp [he]
  · rw [decide_eq_true hv,cond_true,if_neg hv]
end Go.Sh
namespace Go.Sh
open Go Go.Am
def q40 (kind : Int) (p q : List qg) (z : Int) : Prop:=400 < (secB kind p q z).length∨400 < (secB 2 p [] z).length∨400 < (secB 2 q [] z).length
theorem qp1 (kind : Int) {p q : List qg} (h : p.length + q.length≤800) (hz : ∀ z,(atB p z).length + (atB q z).length≤490) {xs : List Int} (hx : xs.length≤1000000) {i : Nat} (hi : i + 1 < xs.length) (hb : q40 kind p q (xs[i]'(q6))) (a : Int) (c : List qk) (o : List qg) :
    Jc xs p q kind (c,a,(i : Int),o) = some (.inr (.inr ([],false))):=by
  have hi0 : i < xs.length:=by omega
  have hw : w64 ((i : Int) + 1) = ((i + 1 : Nat) : Int):=w64s hi0 hx
  have n1:=Zd p xs[i]
  have n2:=Zd q xs[i]
  have nz:=hz xs[i]
  have ap : Jb p xs[i] = some (atB p xs[i]):=qb1 p q6 _
  have aq : Jb q xs[i] = some (atB q xs[i]):=qb1 q q6 _
  have jj : Zs kind (atB p xs[i]) (atB q xs[i]) = some (secB kind p q xs[i]):=q4n kind q6
  have jp : Zs 2 (atB p xs[i]) [] = some (secB 2 p [] xs[i]):=q4n 2 (by simp;omega)
  have jq : Zs 2 (atB q xs[i]) [] = some (secB 2 q [] xs[i]):=q4n 2 (by simp;omega)
  unfold Jc
  simp only [hw,dlt hi,cond_true,Qj hi0,ap,aq,jj,jp,jq,Option.bind_some]
  by_cases h1 : 400 < (secB kind p q xs[i]).length
  · have d1 : decide (((secB kind p q xs[i]).length : Int) > 400) = true:=decide_eq_true q6
    simp only [d1,cond_true,Option.bind_some]
  have d1 : decide (((secB kind p q xs[i]).length : Int) > 400) = false:=decide_eq_false q6
  by_cases h2 : 400 < (secB 2 p [] xs[i]).length
  · have d2 : decide (((secB 2 p [] xs[i]).length : Int) > 400) = true:=decide_eq_true q6
    simp only [d1,d2,cond_true,cond_false,Option.bind_some]
  have d2 : decide (((secB 2 p [] xs[i]).length : Int) > 400) = false:=decide_eq_false q6
  have h3 : 400 < (secB 2 q [] xs[i]).length:=by rcases hb with h | h | h <;> first | exact absurd h h1 | exact absurd h h2 | exact h
  have d3 : decide (((secB 2 q [] xs[i]).length : Int) > 400) = true:=decide_eq_true q6
  simp only [d1,d2,d3,cond_true,cond_false,Option.bind_some]
theorem qs3 (kind : Int) {p q : List qg} (h : p.length + q.length≤800) (hz : ∀ z,(atB p z).length + (atB q z).length≤490) :
    Jn kind p q = some (mrgB kind p q,decide (((mrgB kind p q).length : Int)≤400))∨(Jn kind p q = some ([],false)∧∃ z,q40 kind p q z):=by
  unfold Jn
  rw [qjg q6]
  simp only [Option.bind_some]
  have hx1:=Z5 p
  have hx2:=Z5 q
  obtain ⟨_,hso,hlen⟩:=J6 (l:=zsOf p ++ zsOf q) (by simp;omega)
  have hcl : (Qo (zsOf p ++ zsOf q)).length≤1600:=by simp at hlen;omega
  unfold mrgB
  generalize Qo (zsOf p ++ zsOf q) = xs at hcl ⊢
  generalize hst : Kx xs (secB kind p q) = steps
  have hsl : steps.length = xs.length - 1:=by rw [← hst];exact q2b _ _
  have hgk : ∀ k (hk : k < steps.length),steps[k] = (xs[k]'(q6),xs[k + 1]'(q6),secB kind p q (xs[k]'(q6))):=fun k hk=>by subst hst;exact q3v hk q6
  have hml : ∀ k,k≤steps.length→(∀ j,j < k→∀ t,steps[j]? = some t→¬ q40 kind p q t.1)→((Qw putB Qs (steps.take k)).flat putB).length≤1600 * 400:=fun k hk hj=>by
    have h1:=q48 putB (s0:=Qs) (M:=400) (steps:=steps.take k) (fun t ht=>by
      obtain ⟨i,hi,rfl⟩:=List.getElem_of_mem ht
      rw [List.length_take] at hi
      rw [List.getElem_take]
      have:=hj i q6 _ (List.getElem?_eq_getElem q6)
      rw [hgk i q6] at this ⊢
      exact Nat.le_of_not_lt fun h=>this (.inl h))
    have h2 : (steps.take k).length≤1600:=by rw [List.length_take];omega
    have h3 : (Qs.flat putB : List qg).length = 0:=rfl
    have h4 : (steps.take k).length * 400≤1600 * 400:=Nat.mul_le_mul_right _ h2
    omega
  have main:=qdk (f:=Jc xs p q kind) (fun k=>((Qw putB Qs (steps.take k)).sec,((Qw putB Qs (steps.take k)).done.length : Int),(k : Int),(Qw putB Qs (steps.take k)).flat putB))
    steps.length (fun j=>∀ t,steps[j]? = some t→¬ q40 kind p q t.1) (.inl ((Qw putB Qs steps).flat putB)) (.inr ([],false)) (fun k hk hj=>by
      have hk1 : k + 1 < xs.length:=by omega
      have hc:=hj k (Nat.le_refl _) _ (List.getElem?_eq_getElem hk)
      have hm:=hml k q6 fun j hjk=>hj j q6
      rw [hgk k hk] at hc
      have hsec : q9x kind p q xs[k]:=by
        refine ⟨hz _,?_,?_,?_⟩
        · exact Nat.le_of_not_lt fun h=>hc (.inl h)
        · exact Nat.le_of_not_lt fun h=>hc (.inr (.inl h))
        · exact Nat.le_of_not_lt fun h=>hc (.inr (.inr h))
      have:=qhu kind q6 (xs:=xs) q6 hk1 hsec (Qw putB Qs (steps.take k)) q6 (fun h0=>by subst h0;rfl) (fun hpos=>by
        obtain ⟨m,rfl⟩ : ∃ m,k = m + 1:=⟨k - 1,q6⟩
        rw [q1e putB q6,qc4,hgk m q6])
      rw [this,q1e putB hk,hgk k hk])
    (fun k hk _ hb=>by
      have hk1 : k + 1 < xs.length:=by omega
      have hk0 : k < xs.length:=by omega
      refine qp1 kind h hz q6 hk1 ?_ _ _ _
      refine Classical.byContradiction fun hn=>hb fun t ht=>?_
      rw [List.getElem?_eq_getElem hk,hgk k hk] at ht
      cases ht;exact hn)
    (fun _=>by
      rw [List.take_length]
      have hb : decide (w64 ((steps.length : Int) + 1) < (xs.length : Int)) = false:=by
        rw [Q6 q6];exact decide_eq_false q6
      unfold Jc
      simp only [hb,cond_false])
  have h00 : (((Qw putB Qs (steps.take 0)).sec,((Qw putB Qs (steps.take 0)).done.length : Int),((0 : Nat) : Int),(Qw putB Qs (steps.take 0)).flat putB) : List qk × Int × Int × List qg) = ([],0,0,[]):=rfl
  rw [h00] at main
  rcases main with ⟨h1,h2⟩ | ⟨j,hj,hb,h2⟩
  · exact .inl (by rw [h2];rfl)
  · refine .inr ⟨by rw [h2];rfl,?_⟩
    have hj0 : j < xs.length:=by omega
    refine ⟨xs[j],?_⟩
    refine Classical.byContradiction fun hn=>hb fun t ht=>?_
    rw [List.getElem?_eq_getElem hj,hgk j hj] at ht
    cases ht;exact hn
theorem qly {p q : List qg} (h : p.length + q.length≤490) (z : Int) : (atB p z).length + (atB q z).length≤490:=by
  have h1:=Zd p z
  have h2:=Zd q z
  omega
theorem qu8 (kind : Int) (z : Int) : secB kind [] [] z = []:=qdx kind
theorem qs1 (kind : Int) {p q : List qg} (h : p.length + q.length≤800) (hz : ∀ z,(atB p z).length + (atB q z).length≤490) (hs : ∀ z,q40 kind p q z→400 < (mrgB kind p q).length) :
    ∃ o,Jn kind p q = some (o,decide ((mrgB kind p q).length≤400))∧((mrgB kind p q).length≤400→o = mrgB kind p q):=by
  rcases qs3 kind h hz with h1 | ⟨h1,z,hz⟩
  · refine ⟨_,?_,fun _=>rfl⟩
    rw [h1]
    have : decide (((mrgB kind p q).length : Int)≤400) = decide ((mrgB kind p q).length≤400):=decide_eq_decide.2 q6
    rw [this]
  · have:=hs z hz
    refine ⟨[],?_,fun h=>absurd h q6⟩
    rw [h1,decide_eq_false q6]
theorem que {l : List qg} (h : l.length≤100000) : ∀ z,q40 2 l [] z→400 < (mrgB 2 l []).length:=by
  intro z hz
  have h1:=qk3 2 (p:=l) (q:=[]) (by simpa using h) z
  rcases hz with hz | hz | hz
  · omega
  · omega
  · rw [qu8] at hz;simp at hz
theorem qs4 (l : List qg) (hl : l.length≤1000000) {γ : Type} (f : Int→Option (Int ⊕ (Unit ⊕ γ))) (e : γ) (hf : ∀ k (h : k < l.length),f (k : Int) = some (if (fun r=>!decide (vB r)) l[k] = true then .inr (.inr e) else .inl ((k + 1 : Nat) : Int))) (hd : f (l.length : Int) = some (.inr (.inl ()))) :
    loop f 0 = some (if ∀ b∈l,vB b then .inl () else .inr e):=by
  rcases Yy l (fun r=>!decide (vB r)) (fun k _=>e) () f hf hd with ⟨h1,h2⟩ | ⟨k,hk,hc,_,h2⟩
  · have : ∀ r∈l,vB r:=fun r hr=>by simpa using h1 r hr
    rw [if_pos this];exact h2
  · have : ¬ ∀ r∈l,vB r:=fun h=>by simp [h _ (List.getElem_mem hk)] at hc
    rw [if_neg this];exact h2
theorem qjf (l : List qg) : q1v l = some (Kg l):=by
  unfold q1v Kg
  by_cases h4 : 400 < l.length
  · rw [decide_eq_true (by omega : (l.length : Int) > 400),cond_true,if_pos h4]
  rw [decide_eq_false (by omega : ¬ (l.length : Int) > 400),cond_false,if_neg h4]
  rw [qs4 l q6 (q4t l) 8 (fun k hk=>by
    simp only [q4t,dlt hk,cond_true,Qj hk,Option.bind_some,qji,w64s hk q6]
    by_cases hv : vB l[k] <;> simp [hv]) (by simp only [q4t,dnl,cond_false])]
  by_cases hv : ∀ r∈l,vB r
  · rw [if_pos hv,if_pos hv]
    obtain ⟨o,h1,h2⟩:=qs1 2 (p:=l) (q:=[]) (by simp;omega) (qly (by simp;omega)) (que q6)
    simp only [Option.bind_some,h1]
    by_cases h5 : 400 < (mrgB 2 l []).length
    · have hne : mrgB 2 l []≠l:=fun h=>by rw [h] at h5;exact h4 h5
      rw [decide_eq_false q6,if_neg hne];rfl
    · rw [decide_eq_true q6,h2 q6,sameBox _ l q6]
      by_cases he : mrgB 2 l [] = l <;> simp [he]
  · rw [if_neg hv,if_neg hv];rfl
end Go.Sh
namespace Go.Sh
open Go Go.Am
noncomputable def ind (p : Prop) : Int:=by classical exact if p then 1 else 0
theorem qaj {p : Prop} (h : ¬ p) : ind p = 0:=by unfold ind;simp [h]
theorem q7f {p q : Prop} (h : p↔q) : ind p = ind q:=by rw [propext h]
theorem qot {p q : Prop} : ind (p∨q) = ind p + ind q - ind (p∧q):=by
  by_cases hp : p <;> by_cases hq : q <;> simp [ind,hp,hq]
def sumL {α : Type} (f : α→Int) : List α→Int
  | []=>0
  | a::r=>f a + sumL f r
theorem ql0 {α : Type} (f : α→Int) (a b : List α) : sumL f (a ++ b) = sumL f a + sumL f b:=by
  induction a with
  | nil=>simp [sumL]
  | cons x a ih=>rw [List.cons_append,sumL,sumL,ih];omega
def inB (b : qg) (x y z : Int) : Prop:=(b.Lo.X≤x∧x < b.Hi.X)∧(b.Lo.Y≤y∧y < b.Hi.Y)∧(b.Lo.Z≤z∧z < b.Hi.Z)
def inR (r : qk) (x y : Int) : Prop:=(r.X0≤x∧x < r.X1)∧(r.Y0≤y∧y < r.Y1)
def inS (t : qm) (x : Int) : Prop:=t.Lo≤x∧x < t.Hi
noncomputable def cntS (s : List qm) (y : Int) : Int:=sumL (fun t=>ind (inS t y)) s
noncomputable def cntR (l : List qk) (x y : Int) : Int:=sumL (fun t=>ind (inR t x y)) l
noncomputable def cntB (l : List qg) (x y z : Int) : Int:=sumL (fun t=>ind (inB t x y z)) l
theorem qg4 : ∀ {s : List qm},Can s→∀ y,cntS s y = ind (has s y)
  | [],_,y=>by rw [qaj (Ut y)];rfl
  | a::s,h,y=>by
    have ih:=qg4 h.tail y
    unfold cntS at ih ⊢
    rw [sumL,ih,q7f (Z7 (a:=a) (s:=s) (x:=y)),qot]
    have : ¬ ((a.Lo≤y∧y < a.Hi)∧has s y):=fun ⟨h1,h2⟩=>by have:=h.tail_gt h2;omega
    rw [qaj this];unfold inS;omega
theorem qn7 (l : List qk) (x y : Int) : cntR l x y = cntS (covS l x) y:=by
  unfold cntR cntS
  induction l with
  | nil=>rfl
  | cons r l ih=>
    have e : covS (r::l) x = (if covR x r = true then [ysp r] else []) ++ covS l x:=rfl
    rw [sumL,ih,e,ql0]
    congr 1
    by_cases hc : covR x r = true
    · rw [if_pos hc]
      have:=q44.1 hc
      simp only [sumL,Int.add_zero]
      exact q7f ⟨fun h=>h.2,fun h=>⟨this,h⟩⟩
    · rw [if_neg hc]
      rw [q44] at hc
      exact qaj fun h=>hc h.1
theorem qn6 (l : List qg) (x y z : Int) : cntB l x y z = cntR (atB l z) x y:=by
  unfold cntB cntR
  induction l with
  | nil=>rfl
  | cons r l ih=>
    have e : atB (r::l) z = (if covB z r = true then [Zu r] else []) ++ atB l z:=rfl
    rw [sumL,ih,e,ql0]
    congr 1
    by_cases hc : covB z r = true
    · rw [if_pos hc]
      have:=q1c.1 hc
      simp only [sumL,Int.add_zero]
      exact q7f ⟨fun h=>⟨h.1,h.2.1⟩,fun h=>⟨h.1,h.2,this⟩⟩
    · rw [if_neg hc]
      rw [q1c] at hc
      exact qaj fun h=>hc h.2.2
theorem CanR.cnt {l : List qk} (h : CanR l) (x y : Int) : cntR l x y = ind (hasR l x y):=by
  rw [qn7,qg4 (h.cov x),q7f U3]
theorem CanB.cnt {l : List qg} (h : CanB l) (x y z : Int) : cntB l x y z = ind (hasB l x y z):=by
  rw [qn6,(h.at z).cnt,q7f Us]
end Go.Sh
namespace Go.Sh
open Go Go.Am
theorem qo7 {α β γ : Type} (l : List α) (hl : l.length≤1000000) (g : γ→α→γ) (fin : γ→β) (f : γ × Int→Option ((γ × Int) ⊕ β))
    (hs : ∀ k (h : k < l.length) (s : γ),f (s,(k : Int)) = some (.inl (g s l[k],((k + 1 : Nat) : Int)))) (hd : ∀ s,f (s,(l.length : Int)) = some (.inr (fin s))) (s : γ) :
    loop f (s,0) = some (fin (l.foldl g s)):=by
  have key:=Z8 (f:=f) (fun k=>((l.take k).foldl g s,(k : Int))) l.length (fin (l.foldl g s)) (fun k hk=>by
    rw [hs k hk,List.take_succ_eq_append_getElem hk,List.foldl_append];rfl) (by rw [List.take_length,hd]) (Nat.zero_le _)
  exact key
theorem qoo {b : qg} {l : List qg} {x y z : Int} : hasB (b::l) x y z↔inB b x y z∨hasB l x y z:=by
  constructor
  · rintro ⟨c,hc,h⟩
    rcases List.mem_cons.1 hc with rfl | hc
    · exact .inl h
    · exact .inr ⟨c,hc,h⟩
  · rintro (h | ⟨c,hc,h⟩)
    · exact ⟨b,qd,h⟩
    · exact ⟨c,by simp [hc],h⟩
instance (b : qg) (x y z : Int) : Decidable (inB b x y z):=by unfold inB;infer_instance
instance qnk : (l : List qg)→(x y z : Int)→Decidable (hasB l x y z)
  | [],x,y,z=>isFalse (qaf x y z)
  | b::l,x,y,z=>by
    have:=qnk l x y z
    exact decidable_of_iff _ qoo.symm
theorem qpo (l : List qg) : (mkB l).1.length≤400:=by
  unfold mkB
  repeat' split
  all_goals simp
  omega
end Go.Sh
namespace Go.Sh
open Go Go.Am
def ltB (b : qg) : Prop:=b.Lo.X < b.Hi.X∧b.Lo.Y < b.Hi.Y∧b.Lo.Z < b.Hi.Z
end Go.Sh
namespace Go.Sh
open Go Go.Am
abbrev V3:=qv × qv × qv
def zeroV : qv:=⟨0,0,0⟩
noncomputable def axT (t : Nat) : V3:=match qoe (t : Int) with
  | some m=>m
  | none=>(zeroV,zeroV,zeroV)
def qf6 (v : qv) : Prop:=-1≤v.X∧v.X≤1∧-1≤v.Y∧v.Y≤1∧-1≤v.Z∧v.Z≤1
instance (v : qv) : Decidable (qf6 v):=by unfold qf6;infer_instance
def mulV (m : V3) (v : qv) : qv:=⟨v.X * m.1.X + v.Y * m.2.1.X + v.Z * m.2.2.X,v.X * m.1.Y + v.Y * m.2.1.Y + v.Z * m.2.2.Y,v.X * m.1.Z + v.Y * m.2.1.Z + v.Z * m.2.2.Z⟩
def addV (a b : qv) : qv:=⟨a.X + b.X,a.Y + b.Y,a.Z + b.Z⟩
noncomputable def qhr (t : Nat) (at_ v : qv) : qv:=addV (mulV (axT t) v) at_
def InV (v : qv) (lo : Int) : Prop:=lo≤v.X∧v.X≤1000000∧lo≤v.Y∧v.Y≤1000000∧lo≤v.Z∧v.Z≤1000000
instance (v : qv) (lo : Int) : Decidable (InV v lo):=by unfold InV;infer_instance
theorem qcz (v : qv) (lo : Int) : q7c v lo = some (decide (InV v lo)):=by
  unfold q7c
  by_cases a : min (min v.X v.Y) v.Z ≥ lo
  · by_cases b : max (max v.X v.Y) v.Z≤1000000
    · have : InV v lo:=by unfold InV;omega
      simp only [decide_eq_true a,decide_eq_true b,decide_eq_true this,cond_true,Option.bind_some]
    · have : ¬ InV v lo:=by unfold InV;omega
      simp only [decide_eq_true a,decide_eq_false b,decide_eq_false this,cond_true,Option.bind_some]
  · have : ¬ InV v lo:=by unfold InV;omega
    simp only [decide_eq_false a,decide_eq_false this,cond_false,Option.bind_some]
theorem qc2 (v : qv) (lo : Int) : Zt v lo = some (decide (InV v lo)):=by
  unfold Zt InV
  by_cases a : v.X ≥ lo <;> by_cases b : v.Y ≥ lo <;> by_cases c : v.Z ≥ lo <;> by_cases d : v.X≤1000000 <;> by_cases e : v.Y≤1000000 <;> by_cases f : v.Z≤1000000 <;> simp [a,b,c,d,e,f] <;> omega
def FOk (f : Ys) : Prop:=f.Turn < 24∧InV f.At (-1000000)
instance (f : Ys) : Decidable (FOk f):=by unfold FOk;infer_instance
def SOk (s : qfg) : Prop:=FOk s.Frame∧InV s.Size 0
instance (s : qfg) : Decidable (SOk s):=by unfold SOk;infer_instance
theorem qfx {P Q : Prop} [Decidable P] [Decidable Q] {R : Prop} [Decidable R] (h : R↔P∧Q) : ((cond (decide (¬ P)) (some true) ((some (decide Q)).bind fun r10=>some (!r10))).bind fun c3=>cond c3 (some (8 : Int)) (some 0)) = some (if R then 0 else 8):=by
  by_cases p : P <;> by_cases q : Q <;> simp [p,q,h]
theorem qh6 (f : Ys) : q49 f = some (if FOk f then 0 else 8):=by
  unfold q49
  rw [qcz]
  have e : decide (f.Turn ≥ 24) = decide (¬ f.Turn < 24):=by rw [decide_eq_decide];omega
  rw [e]
  exact qfx Iff.rfl
theorem qjc (f : Ys) : q4p f = some (if FOk f then 0 else 8):=by
  unfold q4p
  rw [qc2]
  have e : decide (f.Turn ≥ 24) = decide (¬ f.Turn < 24):=by rw [decide_eq_decide];omega
  rw [e]
  exact qfx Iff.rfl
theorem qdy {P : Prop} [Decidable P] {a : Int} (h : a≠0) : ((if P then (0 : Int) else a) != 0) = decide (¬ P):=by
  by_cases p : P <;> simp [p,h]
end Go.Sh
namespace Go.Sh
open Go Go.Am
def rowOk (a b c : Int) : Prop:=(a = 1∧b = 0∧c = 0)∨(a = -1∧b = 0∧c = 0)∨(a = 0∧b = 1∧c = 0)∨(a = 0∧b = -1∧c = 0)∨(a = 0∧b = 0∧c = 1)∨(a = 0∧b = 0∧c = -1)
instance (a b c : Int) : Decidable (rowOk a b c):=by unfold rowOk;infer_instance
def qxv (p q : qv) : qg:={Lo:=({X:=min p.X q.X,Y:=min p.Y q.Y,Z:=min p.Z q.Z} : qv),Hi:=({X:=max p.X q.X,Y:=max p.Y q.Y,Z:=max p.Z q.Z} : qv)}
noncomputable def qj3 (t : Nat) (at_ : qv) (b : qg) : qg:=qxv (qhr t at_ b.Lo) (qhr t at_ b.Hi)
noncomputable def place (l : List qg) (f : Ys) : List qg × Int:=
  if Kg l≠0 then ([],Kg l) else if ¬ FOk f then ([],8) else if ∀ b∈l,vB (qj3 f.Turn.toNat f.At b) then mkB (l.map (qj3 f.Turn.toNat f.At)) else ([],16)
theorem qrk {l : List qg} (hl : l.length≤400) (P : qg→Prop) [DecidablePred P] (pl : qg→qg) (e : List qg × Int) (f : Int × List qg→Option ((Int × List qg) ⊕ ((List qg) ⊕ (List qg × Int))))
    (hok : ∀ k (h : k < l.length) (o : List qg),o.length = k→P l[k]→f ((k : Int),o) = some (.inl (((k + 1 : Nat) : Int),o ++ [pl l[k]])))
    (hbad : ∀ k (h : k < l.length) (o : List qg),o.length = k→¬ P l[k]→f ((k : Int),o) = some (.inr (.inr e)))
    (hd : ∀ o,f ((l.length : Int),o) = some (.inr (.inl o))) : loop f (0,[]) = some (if ∀ b∈l,P b then .inl (l.map pl) else .inr e):=by
  have main:=qdk (f:=f) (fun k=>((k : Int),(l.take k).map pl)) l.length (fun j=>∀ b,l[j]? = some b→P b) (.inl (l.map pl)) (.inr e)
    (fun k hk hj=>by
      rw [hok k hk _ (by simp;omega) (hj k (Nat.le_refl _) _ (List.getElem?_eq_getElem hk)),List.take_succ_eq_append_getElem hk,List.map_append];rfl)
    (fun k hk _ hb=>hbad k hk _ (by simp;omega) fun h=>hb fun b hb=>by rw [List.getElem?_eq_getElem hk] at hb;cases hb;exact h)
    (fun _=>by rw [List.take_length,hd])
  have h00 : ((((0 : Nat) : Int),(l.take 0).map pl) : Int × List qg) = (0,[]):=rfl
  rw [h00] at main
  rcases main with ⟨h1,h2⟩ | ⟨j,hj,hb,h2⟩
  · rw [h2,if_pos]
    intro b hb
    obtain ⟨i,hi,rfl⟩:=List.getElem_of_mem hb
    exact h1 i hi _ (List.getElem?_eq_getElem hi)
  · rw [h2,if_neg]
    intro h
    exact hb fun b hb=>h b (List.mem_of_getElem? hb)
end Go.Sh
namespace Go.Sh
open Go Go.Am
end Go.Sh
namespace Go.Sh
open Go Go.Am
def grpR : List qk→List (Grp qm)
  | []=>[]
  | r::l=>match grpR l with
    | g::gs=>if g.lo = r.X0∧g.hi = r.X1 then ⟨g.lo,g.hi,ysp r::g.sec⟩::gs else ⟨r.X0,r.X1,[ysp r]⟩::g::gs
    | []=>[⟨r.X0,r.X1,[ysp r]⟩]
def grpB : List qg→List (Grp qk)
  | []=>[]
  | r::l=>match grpB l with
    | g::gs=>if g.lo = r.Lo.Z∧g.hi = r.Hi.Z then ⟨g.lo,g.hi,Zu r::g.sec⟩::gs else ⟨r.Lo.Z,r.Hi.Z,[Zu r]⟩::g::gs
    | []=>[⟨r.Lo.Z,r.Hi.Z,[Zu r]⟩]
theorem qhl : ∀ l : List qk,Kq putR (grpR l) = l
  | []=>rfl
  | r::l=>by
    have ih:=qhl l
    unfold grpR
    split
    · rename_i g gs h
      rw [h] at ih
      split
      · rename_i h1
        obtain ⟨h1,h2⟩:=h1
        rw [← ih]
        simp only [Kq,List.flatMap_cons,List.map_cons,List.cons_append,h1,h2]
        congr 1
      · rw [← ih];rfl
    · rename_i h
      rw [h] at ih
      rw [← ih];rfl
theorem qhk : ∀ l : List qg,Kq putB (grpB l) = l
  | []=>rfl
  | r::l=>by
    have ih:=qhk l
    unfold grpB
    split
    · rename_i g gs h
      rw [h] at ih
      split
      · rename_i h1
        obtain ⟨h1,h2⟩:=h1
        rw [← ih]
        simp only [Kq,List.flatMap_cons,List.map_cons,List.cons_append,h1,h2]
        congr 1
      · rw [← ih];rfl
    · rename_i h
      rw [h] at ih
      rw [← ih];rfl
instance {σ : Type} [DecidableEq σ] (gs : List (Grp σ)) : Decidable (CanG gs):=by unfold CanG;infer_instance
instance (s : List qm) : Decidable (Can s):=by unfold Can;infer_instance
def isR (l : List qk) : Prop:=CanG (grpR l)∧∀ g∈grpR l,Can g.sec
instance (l : List qk) : Decidable (isR l):=by unfold isR;infer_instance
def isB (l : List qg) : Prop:=CanG (grpB l)∧∀ g∈grpB l,isR g.sec
instance (l : List qg) : Decidable (isB l):=by unfold isB;infer_instance
theorem isR.can {l : List qk} (h : isR l) : CanR l:=⟨grpR l,(qhl l).symm,h.1,h.2⟩
theorem isB.can {l : List qg} (h : isB l) : CanB l:=⟨grpB l,(qhk l).symm,h.1,fun g hg=>(h.2 g hg).can⟩
theorem qpr {kind : Int} {p q out : List qg} (h : p.length + q.length≤100000) (ho : CanB out) (he : ∀ x y z,Kv kind (hasB p x y z) (hasB q x y z)↔hasB out x y z) : mrgB kind p q = out:=
  qfs (q7l kind h) ho fun x y z=>by rw [qd9 kind h];exact he x y z
instance (kind : Int) (a b : Prop) [Decidable a] [Decidable b] : Decidable (Kv kind a b):=by unfold Kv;infer_instance
end Go.Sh
namespace Go.Sh
open Go Go.Am
def swp (a c : qv) (b : qg) : qg:={Lo:=({X:=b.Lo.X + min a.X c.X,Y:=b.Lo.Y + min a.Y c.Y,Z:=b.Lo.Z + min a.Z c.Z} : qv),Hi:=({X:=b.Hi.X + max a.X c.X,Y:=b.Hi.Y + max a.Y c.Y,Z:=b.Hi.Z + max a.Z c.Z} : qv)}
def movB (v : qv) (b : qg) : qg:={Lo:=({X:=b.Lo.X + v.X,Y:=b.Lo.Y + v.Y,Z:=b.Lo.Z + v.Z} : qv),Hi:=({X:=b.Hi.X + v.X,Y:=b.Hi.Y + v.Y,Z:=b.Hi.Z + v.Z} : qv)}
def onL (a c p : qv) : Prop:=(min a.X c.X≤p.X∧p.X≤max a.X c.X)∧(min a.Y c.Y≤p.Y∧p.Y≤max a.Y c.Y)∧(min a.Z c.Z≤p.Z∧p.Z≤max a.Z c.Z)
theorem qey {l h m n x : Int} (hl : l < h) (hmn : m≤n) : (l + m≤x∧x < h + n)↔∃ t,(m≤t∧t≤n)∧l + t≤x∧x < h + t:=by
  constructor
  · rintro ⟨h1,h2⟩
    by_cases h3 : n≤x - l
    · exact ⟨n,q6,q6,q6⟩
    · exact ⟨x - l,q6,q6,q6⟩
  · rintro ⟨t,h1,h2,h3⟩;omega
theorem qhs {a c : qv} {b : qg} (hb : ltB b) {x y z : Int} : inB (swp a c b) x y z↔∃ p,onL a c p∧inB (movB p b) x y z:=by
  obtain ⟨h1,h2,h3⟩:=hb
  have e1:=qey (x:=x) h1 (show min a.X c.X≤max a.X c.X by omega)
  have e2:=qey (x:=y) h2 (show min a.Y c.Y≤max a.Y c.Y by omega)
  have e3:=qey (x:=z) h3 (show min a.Z c.Z≤max a.Z c.Z by omega)
  constructor
  · rintro ⟨i1,i2,i3⟩
    obtain ⟨t1,p1,q1⟩:=e1.1 i1
    obtain ⟨t2,p2,q2⟩:=e2.1 i2
    obtain ⟨t3,p3,q3⟩:=e3.1 i3
    exact ⟨⟨t1,t2,t3⟩,⟨p1,p2,p3⟩,q1,q2,q3⟩
  · rintro ⟨p,⟨p1,p2,p3⟩,q1,q2,q3⟩
    exact ⟨e1.2 ⟨_,p1,q1⟩,e2.2 ⟨_,p2,q2⟩,e3.2 ⟨_,p3,q3⟩⟩
theorem qop {l : List qg} {f : qg→qg} {x y z : Int} : hasB (l.map f) x y z↔∃ b∈l,inB (f b) x y z:=by
  constructor
  · rintro ⟨c,hc,h⟩
    obtain ⟨b,hb,rfl⟩:=List.mem_map.1 hc
    exact ⟨b,hb,h⟩
  · rintro ⟨b,hb,h⟩
    exact ⟨_,List.mem_map.2 ⟨b,hb,rfl⟩,h⟩
theorem qda {a c : qv} {l : List qg} (hl : ∀ b∈l,ltB b) {x y z : Int} : hasB (l.map (swp a c)) x y z↔∃ p,onL a c p∧hasB (l.map (movB p)) x y z:=by
  simp only [qop]
  constructor
  · rintro ⟨b,hb,h⟩
    obtain ⟨p,h1,h2⟩:=(qhs (hl b hb)).1 h
    exact ⟨p,h1,b,hb,h2⟩
  · rintro ⟨p,h1,b,hb,h2⟩
    exact ⟨b,hb,(qhs (hl b hb)).2 ⟨p,h1,h2⟩⟩
theorem qyx {a c : qv} {b : qg} (hb : ltB b) : vB (swp a c b)↔vB (movB a b)∧vB (movB c b):=by
  obtain ⟨h1,h2,h3⟩:=hb
  unfold vB swp movB;simp only;omega
theorem q7m (kind : Int) {p q : List qk} {n : Nat} (h : p.length + q.length≤n) (hn : n≤100) : (mrgR kind p q).length≤(2 * n - 1) * (2 * n):=by
  have h1:=q48 putR (s0:=Qs) (M:=2 * n) (steps:=Kx (Qo (xsOf p ++ xsOf q)) (secJ kind p q)) (fun t ht=>by
    have:=qbr (M:=2 * (p.length + q.length)) (fun x=>qbb kind q6 x) t ht
    omega)
  have h2 : (Kx (Qo (xsOf p ++ xsOf q)) (secJ kind p q)).length≤2 * n - 1:=by
    have:=(q73 (p:=p) (q:=q) q6).2.2
    rw [q2b];omega
  have h3 : (Qs.flat putR : List qk).length = 0:=rfl
  have h4:=Nat.mul_le_mul_right (2 * n) h2
  unfold mrgR mrg
  omega
theorem qu9 (l : List qg) (hl : l.length≤100000) (z : Int) : atB (mrgB 2 l []) z = mrgR 2 (atB l z) []:=qca 2 (by simpa using hl) z
theorem qub {l : List qg} {n : Nat} (h : l.length≤n) (hn : n≤100) (z : Int) : (atB (mrgB 2 l []) z).length≤(2 * n - 1) * (2 * n):=by
  have:=Zd l z
  rw [qu9 l q6]
  exact q7m 2 (by simp;omega) hn
end Go.Sh
namespace Go.Sh
open Go Go.Am
theorem qps {l : List qg} {n : Nat} (h : l.length≤n) (hn : n≤100) : (mrgB 2 l []).length≤(2 * n - 1) * ((2 * n - 1) * (2 * n)):=by
  have hz:=Z5 l
  have h1:=q48 putB (s0:=Qs) (M:=(2 * n - 1) * (2 * n)) (steps:=Kx (Qo (zsOf l ++ zsOf [])) (secB 2 l [])) (fun t ht=>by
    exact qbr (M:=(2 * n - 1) * (2 * n)) (fun x=>by
      have:=Zd l x
      exact q7m 2 (by simp [atB];simp [atB] at this;omega) hn) t ht)
  have h2 : (Kx (Qo (zsOf l ++ zsOf [])) (secB 2 l [])).length≤2 * n - 1:=by
    have h4 : (zsOf ([] : List qg)).length = 0:=rfl
    have:=(J6 (l:=zsOf l ++ zsOf []) (by simp;omega)).2.2
    rw [q2b];simp at this;omega
  have h3 : (Qs.flat putB : List qg).length = 0:=rfl
  have h4:=Nat.mul_le_mul_right ((2 * n - 1) * (2 * n)) h2
  unfold mrgB
  omega
theorem qhw {L now : List qg} (h1 : L.length≤5) (h2 : now.length≤5) {M : List qg} (h3 : M.length≤5) (he : ∀ x y z,hasB M x y z↔hasB L x y z∨hasB now x y z) :
    ∃ b,Jn 2 (mrgB 2 L []) now = some (mrgB 2 M [],b):=by
  have hl:=qps (n:=5) h1 q6
  have e : mrgB 2 (mrgB 2 L []) now = mrgB 2 M []:=qpr q6 (q7l 2 (by simp;omega)) fun x y z=>by
    rw [qhp,q7d q6,q7d q6,he]
  have hs : ∀ z,q9x 2 (mrgB 2 L []) now z:=fun z=>by
    have a1:=qub (n:=5) h1 q6 z
    have a2:=Zd now z
    have a3:=Zd L z
    have es : ∀ x y,hasR (atB (mrgB 2 L []) z) x y↔hasR (atB L z) x y:=fun x y=>by rw [Us,Us,q7d q6]
    refine ⟨q6,?_,?_,?_⟩
    · rw [qii 2 (p':=atB L z) (q':=atB now z) q6 q6 es (fun _ _=>Iff.rfl)]
      have:=q7m 2 (p:=atB L z) (q:=atB now z) (n:=10) q6 q6
      omega
    · rw [qii 2 (p':=atB L z) (q':=[]) (by simp;omega) (by simp;omega) es (fun _ _=>Iff.rfl)]
      have:=q7m 2 (p:=atB L z) (q:=[]) (n:=5) (by simp;omega) q6
      omega
    · have:=q7m 2 (p:=atB now z) (q:=[]) (n:=5) (by simp;omega) q6
      omega
  have hc : (Qo (zsOf (mrgB 2 L []) ++ zsOf now)).length≤2000:=by
    have z1:=Z5 (mrgB 2 L [])
    have z2:=Z5 now
    have:=(J6 (l:=zsOf (mrgB 2 L []) ++ zsOf now) (by simp;omega)).2.2
    simp at this;omega
  exact ⟨_,by rw [qs2 2 q6 hs hc,e]⟩
end Go.Sh
namespace Go.Sh
open Go Go.Am
def Ax (a c : qv) : Prop:=(a.X = c.X∧a.Y = c.Y)∨(a.X = c.X∧a.Z = c.Z)∨(a.Y = c.Y∧a.Z = c.Z)
instance (a c : qv) : Decidable (Ax a c):=by unfold Ax;infer_instance
def LOk (l : Qv) : Prop:=Ax l.From l.To∧InV l.From (-1000000)∧InV l.To (-1000000)
instance (l : Qv) : Decidable (LOk l):=by unfold LOk;infer_instance
def TOk (t : K1) : Prop:=(t.Lines.length≤2000∧t.Marks.length≤2000∧FOk t.End.Frame)∧(∀ l∈t.Lines,LOk l)∧∀ m∈t.Marks,FOk m.Frame
instance (t : K1) : Decidable (TOk t):=by unfold TOk;infer_instance
theorem qyp (v : qv) : q9t v = some (decide (InV v (-1000000))):=qcz v (-1000000)
theorem qyn (l : Qv) : loop (Ub l) (0,0) = some ((if w64 (l.To.X - l.From.X) = 0 then 1 else 0) + (if w64 (l.To.Y - l.From.Y) = 0 then 1 else 0) + (if w64 (l.To.Z - l.From.Z) = 0 then 1 else 0)):=by
  have hw0 : w64 (0 + 1) = 1:=by decide
  have hw1 : w64 (1 + 1) = 2:=by decide
  have hw2 : w64 (2 + 1) = 3:=by decide
  have s : ∀ n k v,idxA 3 [w64 (l.To.X - l.From.X),w64 (l.To.Y - l.From.Y),w64 (l.To.Z - l.From.Z)] k = some v→k < 3→Ub l (n,k) = some (.inl (if v = 0 then w64 (n + 1) else n,w64 (k + 1))):=by
    intro n k v hv hk
    unfold Ub
    simp only [decide_eq_true hk,cond_true,hv,Option.bind_some]
    by_cases h : v = 0
    · have e : (v == 0) = true:=by simpa using h
      rw [e,if_pos h];rfl
    · have e : (v == 0) = false:=by simpa using h
      rw [e,if_neg h];rfl
  have e0 : ∀ n,Ub l (n,0) = some (.inl (if w64 (l.To.X - l.From.X) = 0 then w64 (n + 1) else n,1)):=fun n=>by rw [s n 0 _ rfl q6,hw0]
  have e1 : ∀ n,Ub l (n,1) = some (.inl (if w64 (l.To.Y - l.From.Y) = 0 then w64 (n + 1) else n,2)):=fun n=>by rw [s n 1 _ rfl q6,hw1]
  have e2 : ∀ n,Ub l (n,2) = some (.inl (if w64 (l.To.Z - l.From.Z) = 0 then w64 (n + 1) else n,3)):=fun n=>by rw [s n 2 _ rfl q6,hw2]
  have e3 : ∀ n,Ub l (n,3) = some (.inr n):=fun n=>rfl
  rw [Ko (e0 0),Ko (e1 _),Ko (e2 _),Kc (e3 _)]
  split <;> split <;> split <;> decide
theorem qpc (l : Qv) : q6p l = some (!decide (LOk l)):=by
  unfold q6p
  simp only [qyn,qyp,Option.bind_some]
  by_cases h1 : InV l.From (-1000000)
  · by_cases h2 : InV l.To (-1000000)
    · have hb : ∀ {a b : Int},-1000000≤a→a≤1000000→-1000000≤b→b≤1000000→(w64 (a - b) = 0↔b = a):=fun h1 h2 h3 h4=>by rw [Q6 q6];omega
      have g1:=h1;have g2:=h2
      unfold InV at g1 g2
      simp only [hb g2.1 g2.2.1 g1.1 g1.2.1,hb g2.2.2.1 g2.2.2.2.1 g1.2.2.1 g1.2.2.2.1,hb g2.2.2.2.2.1 g2.2.2.2.2.2 g1.2.2.2.2.1 g1.2.2.2.2.2]
      simp only [h1,h2,decide_true,Bool.not_true,cond_false,Option.bind_some]
      congr 1
      rw [Bool.eq_iff_iff]
      simp only [decide_eq_true_eq,Bool.not_eq_true',decide_eq_false_iff_not,LOk,Ax,h1,h2,and_true]
      split <;> split <;> split <;> simp_all
    · have : ¬ LOk l:=fun h=>h2 h.2.2
      simp [h1,h2,this]
  · have : ¬ LOk l:=fun h=>h1 h.2.1
    simp [h1,this]
theorem qpq (m : Ye) : q6q m = some (!decide (FOk m.Frame)):=by
  unfold q6q
  rw [qh6]
  by_cases h : FOk m.Frame <;> simp [h]
theorem qi5 (l : List Qv) (hl : l.length≤1000000) (p : Qv→Option Bool) (c : Qv→Bool) (h : ∀ v,p v = some (c v)) : q5d l p = some (l.any c):=by
  unfold q5d qbj
  rcases Yy l c (fun k _=>(k : Int)) () (q5e l p) (fun k hk=>by
    simp only [q5e,dlt hk,cond_true,Qj hk,Option.bind_some,w64s hk hl,h]
    cases c l[k] <;> simp) (by simp only [q5e,dnl,cond_false]) with ⟨h1,h2⟩ | ⟨k,hk,hc,_,h2⟩
  · rw [h2]
    have : l.any c = false:=by rw [List.any_eq_false];exact fun v hv=>by rw [h1 v hv];simp
    rw [this];rfl
  · rw [h2]
    have : l.any c = true:=List.any_eq_true.2 ⟨_,List.getElem_mem hk,hc⟩
    simp only [Option.bind_some]
    rw [this,decide_eq_true q6]
theorem qpl (l : List Ye) (hl : l.length≤1000000) (p : Ye→Option Bool) (c : Ye→Bool) (h : ∀ v,p v = some (c v)) : q8a l p = some (l.any c):=by
  unfold q8a qbk
  rcases Yy l c (fun k _=>(k : Int)) () (q5f l p) (fun k hk=>by
    simp only [q5f,dlt hk,cond_true,Qj hk,Option.bind_some,w64s hk hl,h]
    cases c l[k] <;> simp) (by simp only [q5f,dnl,cond_false]) with ⟨h1,h2⟩ | ⟨k,hk,hc,_,h2⟩
  · rw [h2]
    have : l.any c = false:=by rw [List.any_eq_false];exact fun v hv=>by rw [h1 v hv];simp
    rw [this];rfl
  · rw [h2]
    have : l.any c = true:=List.any_eq_true.2 ⟨_,List.getElem_mem hk,hc⟩
    simp only [Option.bind_some]
    rw [this,decide_eq_true q6]
theorem qyo (t : K1) (h1 : t.Lines.length≤1000000) (h2 : t.Marks.length≤1000000) : q9s t = some (if TOk t then 0 else 8):=by
  unfold q9s
  rw [qi5 t.Lines h1 _ _ qpc,qpl t.Marks h2 _ _ qpq,qh6]
  simp only [Option.bind_some,qdy (show (8 : Int)≠0 by omega)]
  have a1 : (t.Lines.any fun l=>!decide (LOk l)) = decide (¬ ∀ l∈t.Lines,LOk l):=by
    rw [Bool.eq_iff_iff];simp
  have a2 : (t.Marks.any fun m=>!decide (FOk m.Frame)) = decide (¬ ∀ m∈t.Marks,FOk m.Frame):=by
    rw [Bool.eq_iff_iff];simp
  have a3 : decide (max (t.Lines.length : Int) (t.Marks.length : Int) > 2000) = decide (¬ (t.Lines.length≤2000∧t.Marks.length≤2000)):=by
    rw [decide_eq_decide];omega
  rw [a1,a2,a3]
  by_cases g1 : ∀ l∈t.Lines,LOk l
  · by_cases g2 : ∀ m∈t.Marks,FOk m.Frame
    · by_cases g3 : FOk t.End.Frame
      · by_cases g4 : t.Lines.length≤2000∧t.Marks.length≤2000
        · have : TOk t:=⟨⟨g4.1,g4.2,g3⟩,g1,g2⟩
          rw [decide_eq_false (not_not_intro g1),decide_eq_false (not_not_intro g2),decide_eq_false (not_not_intro g3),decide_eq_false (not_not_intro g4),if_pos this];rfl
        · have : ¬ TOk t:=fun h=>g4 ⟨h.1.1,h.1.2.1⟩
          rw [decide_eq_false (not_not_intro g1),decide_eq_false (not_not_intro g2),decide_eq_false (not_not_intro g3),decide_eq_true g4,if_neg this];rfl
      · have : ¬ TOk t:=fun h=>g3 h.1.2.2
        rw [decide_eq_false (not_not_intro g1),decide_eq_false (not_not_intro g2),decide_eq_true g3,if_neg this];rfl
    · have : ¬ TOk t:=fun h=>g2 h.2.2
      rw [decide_eq_false (not_not_intro g1),decide_eq_true g2,if_neg this];rfl
  · have : ¬ TOk t:=fun h=>g1 h.2.1
    rw [decide_eq_true g1,if_neg this];rfl
theorem ql9 (t : K1) (h1 : t.Lines.length≤1000000) (h2 : t.Marks.length≤1000000) : ∃ n,q3y t = some (n,if TOk t then 0 else 8):=by
  unfold q3y
  rw [qyo t h1 h2]
  simp only [Option.bind_some]
  by_cases h : TOk t
  · simp only [if_pos h,show ((0 : Int) != 0) = false from rfl,cond_false]
    have:=qo7 t.Lines h1 (fun n (l : Qv)=>w64 (n + (w64 ((w64 ((max (w64 (l.To.X - l.From.X)) (w64 (0 - (w64 (l.To.X - l.From.X))))) + (max (w64 (l.To.Y - l.From.Y)) (w64 (0 - (w64 (l.To.Y - l.From.Y))))))) + (max (w64 (l.To.Z - l.From.Z)) (w64 (0 - (w64 (l.To.Z - l.From.Z))))))))) (fun x=>x) (q6o t) (fun k hk s=>by
      simp only [q6o,q6r,dlt hk,cond_true,Qj hk,Option.bind_some,w64s hk h1]) (fun s=>by simp only [q6o,dnl,cond_false]) 0
    rw [this]
    exact ⟨_,rfl⟩
  · simp only [if_neg h]
    exact ⟨0,rfl⟩
theorem qce (a b : Int) : (a != b) = decide (¬ a = b):=by
  by_cases h : a = b <;> simp [h]
theorem qje (t : K1) (h1 : t.Lines.length≤1000000) (h2 : t.Marks.length≤1000000) : q1u t = some (if TOk t then 0 else 8):=by
  unfold q1u
  rw [qjc]
  simp only [Option.bind_some,qdy (show (8 : Int)≠0 by omega)]
  by_cases g4 : t.Lines.length≤2000∧t.Marks.length≤2000
  · by_cases g3 : FOk t.End.Frame
    · have e1 : decide ((t.Lines.length : Int) > 2000) = false:=decide_eq_false q6
      have e2 : decide ((t.Marks.length : Int) > 2000) = false:=decide_eq_false q6
      rw [e1,e2,decide_eq_false (not_not_intro g3)]
      simp only [cond_false,Option.bind_some]
      rcases Yy t.Lines (fun l=>!decide (LOk l)) (fun k _=>(8 : Int)) () (q4q t) (fun k hk=>by
        have hw0 : w64 (0 + 1) = 1:=by decide
        have hw1 : w64 (1 + 1) = 2:=by decide
        have hw2 : w64 (2 + 1) = 3:=by decide
        simp only [q4q,dlt hk,cond_true,Qj hk,Option.bind_some,w64s hk h1,qc2]
        generalize t.Lines[k] = l
        by_cases hx : l.From.X = l.To.X <;> by_cases hy : l.From.Y = l.To.Y <;> by_cases hz : l.From.Z = l.To.Z <;> by_cases i1 : InV l.From (-1000000) <;> by_cases i2 : InV l.To (-1000000) <;>
          simp [qce,hx,hy,hz,i1,i2,show w64 1 = 1 by decide,show w64 2 = 2 by decide,show w64 3 = 3 by decide,LOk,Ax]) (by simp only [q4q,dnl,cond_false]) with ⟨a1,a2⟩ | ⟨k,hk,hc,_,a2⟩
      · rw [a2]
        simp only [Option.bind_some]
        rcases Yy t.Marks (fun m=>!decide (FOk m.Frame)) (fun k _=>(8 : Int)) () (q4r t) (fun k hk=>by
          simp only [q4r,dlt hk,cond_true,Qj hk,Option.bind_some,w64s hk h2,qjc,qdy (show (8 : Int)≠0 by omega)]
          by_cases hf : FOk (t.Marks[k]).Frame <;> simp [hf]) (by simp only [q4r,dnl,cond_false]) with ⟨b1,b2⟩ | ⟨k,hk,hc,_,b2⟩
        · rw [b2]
          have : TOk t:=⟨⟨g4.1,g4.2,g3⟩,fun l hl=>by simpa using a1 l hl,fun m hm=>by simpa using b1 m hm⟩
          rw [if_pos this]
          rfl
        · rw [b2]
          have : ¬ TOk t:=fun h=>by simp [h.2.2 _ (List.getElem_mem hk)] at hc
          rw [if_neg this]
          rfl
      · rw [a2]
        have : ¬ TOk t:=fun h=>by simp [h.2.1 _ (List.getElem_mem hk)] at hc
        rw [if_neg this]
        rfl
    · have : ¬ TOk t:=fun h=>g3 h.1.2.2
      have e1 : decide ((t.Lines.length : Int) > 2000) = false:=decide_eq_false q6
      have e2 : decide ((t.Marks.length : Int) > 2000) = false:=decide_eq_false q6
      rw [e1,e2,decide_eq_true g3,if_neg this]
      rfl
  · have : ¬ TOk t:=fun h=>g4 ⟨h.1.1,h.1.2.1⟩
    rw [if_neg this]
    by_cases g5 : (t.Lines.length : Int) > 2000
    · rw [decide_eq_true g5];rfl
    · rw [decide_eq_false g5,decide_eq_true (by omega : (t.Marks.length : Int) > 2000)];rfl
noncomputable def badB : List (List qg)→Int
  | []=>0
  | b::r=>if Kg b≠0 then Kg b else badB r
theorem qcb : ∀ {bs : List (List qg)},(∀ b∈bs,Kg b = 0)→badB bs = 0
  | [],_=>rfl
  | b::r,h=>by rw [badB,if_neg (by simp [h b qd])];exact qcb fun c hc=>h c (by simp [hc])
theorem qfn : ∀ {bs : List (List qg)},badB bs = 0→∀ b∈bs,Kg b = 0
  | [],_,b,hb=>by cases hb
  | a::r,h,b,hb=>by
    rw [badB] at h
    split at h
    · rename_i h1;exact absurd h h1
    · rename_i h1
      rcases List.mem_cons.1 hb with rfl | hb
      · exact Classical.not_not.1 h1
      · exact qfn h b hb
theorem qfm : ∀ {bs : List (List qg)} {k : Nat} (hk : k < bs.length),Kg bs[k]≠0→(∀ j (hj : j < k),Kg (bs[j]'(q6)) = 0)→badB bs = Kg bs[k]
  | a::r,0,hk,h,_=>by rw [badB];exact if_pos h
  | a::r,k + 1,hk,h,hb=>by
    rw [badB,if_neg (by simpa using hb 0 q6)]
    exact qfm (bs:=r) (by simpa using hk) h fun j hj=>by simpa using hb (j + 1) q6
theorem qfr {γ : Type} (bs : List (List qg)) (hl : bs.length≤1000000) (res : Int→γ) (f : Int→Option (Int ⊕ (Unit ⊕ γ)))
    (hs : ∀ k (h : k < bs.length),f (k : Int) = some (if Kg bs[k]≠0 then .inr (.inr (res (Kg bs[k]))) else .inl ((k + 1 : Nat) : Int))) (hd : f (bs.length : Int) = some (.inr (.inl ()))) :
    loop f 0 = some (if badB bs = 0 then .inl () else .inr (res (badB bs))):=by
  rcases Yy bs (fun b=>decide (Kg b≠0)) (fun k h=>res (Kg bs[k])) () f (fun k h=>by rw [hs k h];simp) hd with ⟨h1,h2⟩ | ⟨k,hk,hc,hb,h2⟩
  · rw [h2,if_pos (qcb fun b hb=>by simpa using h1 b hb)]
  · have hc' : Kg bs[k]≠0:=by simpa using hc
    have:=qfm hk hc' fun j hj=>by simpa using hb j hj
    rw [h2,if_neg (by rw [this];exact hc'),this]
noncomputable def chkS (t : K1) (bs : List (List qg)) : Int:=
  if ¬ TOk t then 8 else if 20 < bs.length then 4 else if badB bs≠0 then badB bs else if 0 < t.Lines.length∧bs.length = 0 then 6 else if ∃ l∈t.Lines,l.Depth < 0 then 2 else 0
theorem qt6 (t : K1) (bs : List (List qg)) (h1 : t.Lines.length≤1000000) (h2 : t.Marks.length≤1000000) (h3 : bs.length≤1000000) : q9l t bs = some (chkS t bs):=by
  obtain ⟨n,hn⟩:=ql9 t h1 h2
  unfold q9l chkS
  rw [hn]
  simp only [Option.bind_some]
  by_cases g1 : ¬ TOk t
  · rw [if_neg g1,if_pos g1];rfl
  replace g1:=Classical.not_not.1 g1
  rw [if_pos g1,if_neg (not_not_intro g1),show ((0 : Int) != 0) = false from rfl,cond_false]
  by_cases g2 : 20 < bs.length
  · rw [decide_eq_true (by omega : (bs.length : Int) > 20),cond_true,if_pos g2]
  rw [decide_eq_false (by omega : ¬ (bs.length : Int) > 20),cond_false,if_neg g2]
  rw [qfr bs h3 (fun e=>e) (q6n bs) (fun k hk=>by
    simp only [q6n,dlt hk,cond_true,Qj hk,Option.bind_some,w64s hk h3,qkm]
    by_cases h : Kg bs[k] = 0 <;> simp [qce,h]) (by simp only [q6n,dnl,cond_false])]
  by_cases g3 : badB bs = 0
  · rw [if_pos g3,if_neg (not_not_intro g3)]
    simp only [Option.bind_some]
    rw [qi5 t.Lines h1 (fun x0=>q9m x0) (fun v=>decide (v.Depth < 0)) (fun v=>rfl)]
    by_cases g4 : 0 < t.Lines.length
    · by_cases g5 : bs.length = 0
      · rw [decide_eq_true (by omega : (t.Lines.length : Int) > 0),g5,if_pos ⟨g4,rfl⟩];rfl
      · have e : ((bs.length : Int) == 0) = false:=by simpa using g5
        rw [decide_eq_true (by omega : (t.Lines.length : Int) > 0),e,if_neg (fun h=>g5 h.2)]
        simp only [cond_true,cond_false,Option.bind_some]
        by_cases g6 : ∃ l∈t.Lines,l.Depth < 0
        · rw [if_pos g6,show (t.Lines.any fun v=>decide (v.Depth < 0)) = true by simpa using g6];rfl
        · rw [if_neg g6,show (t.Lines.any fun v=>decide (v.Depth < 0)) = false by simpa using g6];rfl
    · have e : t.Lines = []:=List.length_eq_zero_iff.1 q6
      rw [decide_eq_false (by omega : ¬ (t.Lines.length : Int) > 0),if_neg (fun h=>g4 h.1),e]
      simp
  · rw [if_neg g3,if_pos g3];rfl
end Go.Sh
namespace Go.Sh
open Go Go.Am
noncomputable def barS (l : Qv) (b : List qg) : List qg × Int:=if ∀ x∈b,vB (swp l.From l.To x) then mkB (b.map (swp l.From l.To)) else ([],16)
theorem qk6 (v : qv) : q9n v = some (decide (InV v (-1000000))):=qcz v (-1000000)
theorem qld {a c : qv} {b : qg} (hb : vB b) : vB (swp a c b)↔InV (swp a c b).Lo (-1000000)∧InV (swp a c b).Hi (-1000000):=by
  unfold vB at hb;unfold vB InV swp;simp only;omega
theorem ql1 {l : Qv} {b : List qg} (hl : LOk l) (hn : b.length≤400) (hb : ∀ x∈b,vB x) : q6m l b = some (barS l b):=by
  obtain ⟨_,i1,i2⟩:=hl
  unfold InV at i1 i2
  have w : ∀ k (hk : k < b.length),({X:=w64 (b[k].Lo.X + (min l.From.X l.To.X)),Y:=w64 (b[k].Lo.Y + (min l.From.Y l.To.Y)),Z:=w64 (b[k].Lo.Z + (min l.From.Z l.To.Z))} : qv) = (swp l.From l.To b[k]).Lo∧({X:=w64 (b[k].Hi.X + (max l.From.X l.To.X)),Y:=w64 (b[k].Hi.Y + (max l.From.Y l.To.Y)),Z:=w64 (b[k].Hi.Z + (max l.From.Z l.To.Z))} : qv) = (swp l.From l.To b[k]).Hi:=by
    intro k hk
    have hv:=hb _ (List.getElem_mem hk)
    unfold vB at hv
    refine ⟨?_,?_⟩ <;> (unfold swp;simp only;rw [Q6 q6,Q6 q6,Q6 q6])
  unfold q6m barS
  rw [qrk hn (fun x=>vB (swp l.From l.To x)) (swp l.From l.To) ([],16) (q3x b l) (fun k hk o ho hP=>by
      obtain ⟨p1,p2⟩:=(qld (hb _ (List.getElem_mem hk))).1 hP
      simp only [q3x,dlt hk,cond_true,Qj hk,Option.bind_some,(w k hk).1,(w k hk).2,qk6,decide_eq_true p1,decide_eq_true p2,Bool.not_true,cond_false,w64s hk q6]
      rw [Kr (by simp;omega)]
      rfl) (fun k hk o ho hP=>by
      rw [qld (hb _ (List.getElem_mem hk))] at hP
      simp only [q3x,dlt hk,cond_true,Qj hk,Option.bind_some,(w k hk).1,(w k hk).2,qk6]
      by_cases p1 : InV (swp l.From l.To b[k]).Lo (-1000000)
      · have p2 : ¬ InV (swp l.From l.To b[k]).Hi (-1000000):=fun p2=>hP ⟨p1,p2⟩
        rw [decide_eq_true p1,decide_eq_false p2];rfl
      · rw [decide_eq_false p1];rfl) (fun o=>by simp only [q3x,dnl,cond_false])]
  rw [Option.bind_some]
  by_cases hP : ∀ x∈b,vB (swp l.From l.To x)
  · rw [if_pos hP,if_pos hP]
    simp only [qxk,Option.bind_some]
  · rw [if_neg hP,if_neg hP]
def sgn (x : Int) : Int:=if x < 0 then -1 else if x > 0 then 1 else 0
def Qq (a c : qv) (k : Nat) : qv:={X:=a.X + sgn (c.X - a.X) * k,Y:=a.Y + sgn (c.Y - a.Y) * k,Z:=a.Z + sgn (c.Z - a.Z) * k}
def nL (a c : qv) : Nat:=(c.X - a.X).natAbs + (c.Y - a.Y).natAbs + (c.Z - a.Z).natAbs
theorem qbd (x : Int) : (x < 0∧sgn x = -1)∨(x = 0∧sgn x = 0)∨(x > 0∧sgn x = 1):=by
  unfold sgn
  rcases Int.lt_trichotomy x 0 with h | h | h
  · exact .inl ⟨h,by rw [if_pos h]⟩
  · exact .inr (.inl ⟨h,by rw [if_neg q6,if_neg q6]⟩)
  · exact .inr (.inr ⟨h,by rw [if_neg q6,if_pos h]⟩)
theorem qud (x : Int) : q3b x = some (sgn x):=by
  unfold q3b sgn
  by_cases h : x < 0
  · rw [decide_eq_true h,if_pos h];rfl
  · rw [decide_eq_false h,if_neg h]
    by_cases h2 : x > 0
    · rw [decide_eq_true h2,if_pos h2];rfl
    · rw [decide_eq_false h2,if_neg h2];rfl
theorem q9g (a c : qv) (k : Nat) : ((a.X = c.X∧(Qq a c k).X = a.X)∨(c.X < a.X∧(Qq a c k).X = a.X - k)∨(a.X < c.X∧(Qq a c k).X = a.X + k))∧
    ((a.Y = c.Y∧(Qq a c k).Y = a.Y)∨(c.Y < a.Y∧(Qq a c k).Y = a.Y - k)∨(a.Y < c.Y∧(Qq a c k).Y = a.Y + k))∧
    ((a.Z = c.Z∧(Qq a c k).Z = a.Z)∨(c.Z < a.Z∧(Qq a c k).Z = a.Z - k)∨(a.Z < c.Z∧(Qq a c k).Z = a.Z + k)):=by
  have key : ∀ x y : Int,(x = y∧x + sgn (y - x) * k = x)∨(y < x∧x + sgn (y - x) * k = x - k)∨(x < y∧x + sgn (y - x) * k = x + k):=fun x y=>by
    rcases qbd (y - x) with ⟨h1,h2⟩ | ⟨h1,h2⟩ | ⟨h1,h2⟩ <;> rw [h2] <;> omega
  exact ⟨key _ _,key _ _,key _ _⟩
theorem q7n (a c : qv) : (nL a c : Int) = max (c.X - a.X) (a.X - c.X) + max (c.Y - a.Y) (a.Y - c.Y) + max (c.Z - a.Z) (a.Z - c.Z):=by
  unfold nL;omega
theorem qbw {p q : qv} : p = q↔p.X = q.X∧p.Y = q.Y∧p.Z = q.Z:=by
  cases p;cases q;simp
theorem qew {a c : qv} (h : Ax a c) : Qq a c (nL a c) = c:=by
  rw [qbw]
  obtain ⟨f1,f2,f3⟩:=q9g a c (nL a c)
  have:=q7n a c
  rcases h with h | h | h <;> omega
theorem q6k (a c : qv) : Qq a c 0 = a:=by rw [qbw];simp [Qq]
theorem qyc {a c : qv} (h : Ax a c) {k : Nat} (hk : k < nL a c) : ¬ ((Qq a c k).X = c.X∧(Qq a c k).Y = c.Y∧(Qq a c k).Z = c.Z):=by
  obtain ⟨f1,f2,f3⟩:=q9g a c k
  have:=q7n a c
  rcases h with h | h | h <;> omega
theorem on1 {a s r p : Int} {k : Nat} (h : (s = a - k∧r = a - (k + 1 : Nat))∨(s = a + k∧r = a + (k + 1 : Nat))) : (min a r≤p∧p≤max a r)↔((min a s≤p∧p≤max a s)∨p = r):=by
  rcases h with ⟨rfl,rfl⟩ | ⟨rfl,rfl⟩ <;> constructor <;> intro h <;> omega
theorem on0 {a p : Int} : (min a a≤p∧p≤max a a)↔p = a:=by omega
theorem qat {a c : qv} (h : Ax a c) {k : Nat} (hk : k + 1≤nL a c) (p : qv) : onL a (Qq a c (k + 1)) p↔onL a (Qq a c k) p∨p = Qq a c (k + 1):=by
  obtain ⟨f1,f2,f3⟩:=q9g a c k
  obtain ⟨g1,g2,g3⟩:=q9g a c (k + 1)
  have hn:=q7n a c
  unfold onL
  rw [qbw]
  rcases h with h | h | h
  · have h1 : (Qq a c k).X = a.X:=by omega
    have h2 : (Qq a c k).Y = a.Y:=by omega
    have h3 : (Qq a c (k + 1)).X = a.X:=by omega
    have h4 : (Qq a c (k + 1)).Y = a.Y:=by omega
    rw [h1,h2,h3,h4,on0,on0,on1 (s:=(Qq a c k).Z) (r:=(Qq a c (k + 1)).Z) (k:=k) q6]
    constructor
    · rintro ⟨a1,a2,a3 | a3⟩
      · exact .inl ⟨a1,a2,a3⟩
      · exact .inr ⟨a1,a2,a3⟩
    · rintro (⟨a1,a2,a3⟩ | ⟨a1,a2,a3⟩)
      · exact ⟨a1,a2,.inl a3⟩
      · exact ⟨a1,a2,.inr a3⟩
  · have h1 : (Qq a c k).X = a.X:=by omega
    have h2 : (Qq a c k).Z = a.Z:=by omega
    have h3 : (Qq a c (k + 1)).X = a.X:=by omega
    have h4 : (Qq a c (k + 1)).Z = a.Z:=by omega
    rw [h1,h2,h3,h4,on0,on0,on1 (s:=(Qq a c k).Y) (r:=(Qq a c (k + 1)).Y) (k:=k) q6]
    constructor
    · rintro ⟨a1,a3 | a3,a2⟩
      · exact .inl ⟨a1,a3,a2⟩
      · exact .inr ⟨a1,a3,a2⟩
    · rintro (⟨a1,a3,a2⟩ | ⟨a1,a3,a2⟩)
      · exact ⟨a1,.inl a3,a2⟩
      · exact ⟨a1,.inr a3,a2⟩
  · have h1 : (Qq a c k).Y = a.Y:=by omega
    have h2 : (Qq a c k).Z = a.Z:=by omega
    have h3 : (Qq a c (k + 1)).Y = a.Y:=by omega
    have h4 : (Qq a c (k + 1)).Z = a.Z:=by omega
    rw [h1,h2,h3,h4,on0,on0,on1 (s:=(Qq a c k).X) (r:=(Qq a c (k + 1)).X) (k:=k) q6]
    constructor
    · rintro ⟨a3 | a3,a1,a2⟩
      · exact .inl ⟨a3,a1,a2⟩
      · exact .inr ⟨a3,a1,a2⟩
    · rintro (⟨a3,a1,a2⟩ | ⟨a3,a1,a2⟩)
      · exact ⟨.inl a3,a1,a2⟩
      · exact ⟨.inr a3,a1,a2⟩
theorem qe4 (a p : qv) : onL a a p↔p = a:=by
  unfold onL;rw [qbw];omega
def ptsL (a c : qv) : List qv:=(List.range (nL a c + 1)).map (Qq a c)
theorem qqh {a c : qv} (h : Ax a c) (p : qv) : onL a c p↔p∈ptsL a c:=by
  have key : ∀ k,k≤nL a c→(onL a (Qq a c k) p↔∃ j,j≤k∧p = Qq a c j):=by
    intro k
    induction k with
    | zero=>intro _;rw [q6k,qe4];exact ⟨fun e=>⟨0,Nat.le_refl _,by rw [q6k];exact e⟩,fun ⟨j,hj,e⟩=>by have : j = 0:=q6;subst this;rw [q6k] at e;exact e⟩
    | succ k ih=>
      intro hk
      rw [qat h hk,ih q6]
      constructor
      · rintro (⟨j,hj,e⟩ | e)
        · exact ⟨j,q6,e⟩
        · exact ⟨k + 1,Nat.le_refl _,e⟩
      · rintro ⟨j,hj,e⟩
        by_cases hjk : j = k + 1
        · subst hjk;exact .inr e
        · exact .inl ⟨j,q6,e⟩
  have:=key (nL a c) (Nat.le_refl _)
  rw [qew h] at this
  rw [this]
  simp only [ptsL,List.mem_map,List.mem_range]
  exact ⟨fun ⟨j,hj,e⟩=>⟨j,q6,e.symm⟩,fun ⟨j,hj,e⟩=>⟨j,q6,e.symm⟩⟩
theorem qyb {a c : qv} (h : Ax a c) {k : Nat} (hk : k≤nL a c) : onL a c (Qq a c k):=(qqh h _).2 (List.mem_map.2 ⟨k,by simp;omega,rfl⟩)
theorem qsd {α : Type} (n : Nat) (f : Nat→α) : (List.range (n + 1)).map f = (List.range n).map f ++ [f n]:=by rw [List.range_succ,List.map_append];rfl
theorem qrl {l : Qv} (h : LOk l) (hn : nL l.From l.To≤1000) : q81 l = some (ptsL l.From l.To):=by
  obtain ⟨hax,i1,i2⟩:=h
  unfold InV at i1 i2
  unfold q81
  rw [Q6 q6,Q6 q6,Q6 q6]
  simp only [qud,Option.bind_some]
  have key:=Z8 (f:=q52 l (sgn (l.To.X - l.From.X)) (sgn (l.To.Y - l.From.Y)) (sgn (l.To.Z - l.From.Z)))
    (fun k=>((List.range (k + 1)).map (Qq l.From l.To),(Qq l.From l.To k).X,(Qq l.From l.To k).Y,(Qq l.From l.To k).Z)) (nL l.From l.To) (ptsL l.From l.To) (fun k hk=>by
      have hne:=qyc hax hk
      have hb : (((Qq l.From l.To k).X == l.To.X) && (((Qq l.From l.To k).Y == l.To.Y) && (((Qq l.From l.To k).Z == l.To.Z) && true))) = false:=by
        rw [Bool.eq_false_iff];intro hh;apply hne;simpa using hh
      have e1 : Qq l.From l.To (k + 1) = ({X:=w64 ((Qq l.From l.To k).X + sgn (l.To.X - l.From.X)),Y:=w64 ((Qq l.From l.To k).Y + sgn (l.To.Y - l.From.Y)),Z:=w64 ((Qq l.From l.To k).Z + sgn (l.To.Z - l.From.Z))} : qv):=by
        obtain ⟨f1,f2,f3⟩:=q9g l.From l.To k
        have hnl:=q7n l.From l.To
        have g1:=qbd (l.To.X - l.From.X)
        have g2:=qbd (l.To.Y - l.From.Y)
        have g3:=qbd (l.To.Z - l.From.Z)
        rw [Q6 q6,Q6 q6,Q6 q6]
        unfold Qq
        simp only [Int.natCast_add,Int.mul_add,Int.add_assoc,Int.natCast_one,Int.mul_one,Int.cast_ofNat_Int]
      unfold q52
      simp only [hb,Bool.not_false,cond_true,q33,Option.bind_some]
      rw [← e1,Kr (by simp;omega),qsd (k + 1),show w64 ((Qq l.From l.To k).X + sgn (l.To.X - l.From.X)) = (Qq l.From l.To (k + 1)).X from (congrArg qv.X e1).symm,show w64 ((Qq l.From l.To k).Y + sgn (l.To.Y - l.From.Y)) = (Qq l.From l.To (k + 1)).Y from (congrArg qv.Y e1).symm,show w64 ((Qq l.From l.To k).Z + sgn (l.To.Z - l.From.Z)) = (Qq l.From l.To (k + 1)).Z from (congrArg qv.Z e1).symm]
      rfl) (by
      have he:=qew hax
      have hb : (((Qq l.From l.To (nL l.From l.To)).X == l.To.X) && (((Qq l.From l.To (nL l.From l.To)).Y == l.To.Y) && (((Qq l.From l.To (nL l.From l.To)).Z == l.To.Z) && true))) = true:=by
        rw [he];simp
      unfold q52
      simp only [hb,Bool.not_true,cond_false]
      rfl) (Nat.zero_le _)
  have e0 : (((List.range (0 + 1)).map (Qq l.From l.To),(Qq l.From l.To 0).X,(Qq l.From l.To 0).Y,(Qq l.From l.To 0).Z) : List qv × Int × Int × Int) = ([l.From],l.From.X,l.From.Y,l.From.Z):=by
    rw [q6k];simp [q6k]
  rw [e0] at key
  rw [key]
  rfl
end Go.Sh
namespace Go.Sh
open Go Go.Am
theorem qdw {b : qg} {v : qv} (hb : vB b) (hv : InV v (-2000000)) : q38 b v = some (movB v b):=by
  unfold vB at hb
  unfold InV at hv
  unfold q38 q33 movB
  simp only [Option.bind_some]
  rw [Q6 q6,Q6 q6,Q6 q6,Q6 q6,Q6 q6,Q6 q6]
theorem qos {a c p : qv} (ha : InV a (-1000000)) (hc : InV c (-1000000)) (h : onL a c p) : InV p (-1000000):=by
  unfold InV at ha hc ⊢;unfold onL at h;omega
theorem qdg {v : qv} (h : InV v (-1000000)) : InV v (-2000000):=by unfold InV at h ⊢;omega
noncomputable def upTo (l : Qv) (b : List qg) (k : Nat) : List qg:=b.map (swp l.From (Qq l.From l.To k))
theorem qjk {l : Qv} {b : List qg} (hl : LOk l) (hn : nL l.From l.To≤1000) (h5 : b.length≤5) (hb : ∀ x∈b,vB x) : q54 l b = some (barS l b):=by
  have hlt : ∀ x∈b,ltB x:=fun x hx=>(hb x hx).1
  obtain ⟨hax,i1,i2⟩:=id hl
  unfold q54
  rcases Yy b (fun x=>!decide (vB (swp l.From l.To x))) (fun k _=>(([],16) : List qg × Int)) () (q55 b l) (fun k hk=>by
    have hv:=hb _ (List.getElem_mem hk)
    simp only [q55,dlt hk,cond_true,Qj hk,Option.bind_some,qdw hv (qdg i1),qdw hv (qdg i2),qji,w64s hk q6]
    have e:=qyx (a:=l.From) (c:=l.To) (hlt _ (List.getElem_mem hk))
    by_cases h1 : vB (movB l.From b[k]) <;> by_cases h2 : vB (movB l.To b[k]) <;> simp [h1,h2,e]) (by simp only [q55,dnl,cond_false]) with ⟨a1,a2⟩ | ⟨k,hk,hc,_,a2⟩
  · have hP : ∀ x∈b,vB (swp l.From l.To x):=fun x hx=>by simpa using a1 x hx
    rw [a2]
    simp only [Option.bind_some,qrl hl hn]
    have lp : (ptsL l.From l.To).length = nL l.From l.To + 1:=by simp [ptsL]
    have gp : ∀ k (hk : k < (ptsL l.From l.To).length),(ptsL l.From l.To)[k] = Qq l.From l.To k:=fun k hk=>by simp [ptsL]
    have inner : ∀ k (hk : k < (ptsL l.From l.To).length) (o : List qg),loop (q3a b (ptsL l.From l.To) (o,(k : Int))) (0,[]) = some (b.map (movB (Qq l.From l.To k))):=fun k hk o=>by
      have hin:=qdg (qos i1 i2 (qyb hax (k:=k) q6))
      have:=q4d b (movB (Qq l.From l.To k)) [] (fun o=>o) (q3a b (ptsL l.From l.To) (o,(k : Int))) (fun j hj q hq=>by
        simp only [q3a,dlt hj,cond_true,Qj hj,Qj hk,Option.bind_some,gp k hk,qdw (hb _ (List.getElem_mem hj)) hin,w64s hj q6]
        rw [Kr (by simp at hq ⊢;omega)]
        rfl) (fun q=>by simp only [q3a,dnl,cond_false])
      simpa using this
    have hup : ∀ k,(upTo l b k).length≤5:=fun k=>by simp [upTo];exact h5
    have outer:=Z8 (f:=q39 (ptsL l.From l.To) b) (fun k=>(match k with | 0=>[] | m + 1=>mrgB 2 (upTo l b m) [],(k : Int))) (ptsL l.From l.To).length (mrgB 2 (upTo l b (nL l.From l.To)) []) (fun k hk=>by
      unfold q39
      simp only [dlt hk,cond_true,inner k hk,Option.bind_some,w64s hk q6]
      cases k with
      | zero=>
        have e0 : mrgB 2 ([] : List qg) [] = []:=qih qd .nil
        obtain ⟨q,hq⟩:=qhw (L:=[]) (now:=b.map (movB (Qq l.From l.To 0))) (M:=upTo l b 0) qd (by simpa using h5) (hup 0) (fun x y z=>by
          unfold upTo
          rw [qda hlt,q6k]
          constructor
          · rintro ⟨p,hp,hh⟩
            rw [qe4] at hp;subst hp;exact .inr hh
          · rintro (hh | hh)
            · exact absurd hh (qaf _ _ _)
            · exact ⟨_,(qe4 _ _).2 rfl,hh⟩)
        rw [e0] at hq
        simp only [hq,Option.bind_some]
      | succ m=>
        obtain ⟨q,hq⟩:=qhw (L:=upTo l b m) (now:=b.map (movB (Qq l.From l.To (m + 1)))) (M:=upTo l b (m + 1)) (hup m) (by simpa using h5) (hup _) (fun x y z=>by
          unfold upTo
          rw [qda hlt,qda hlt]
          constructor
          · rintro ⟨p,hp,hh⟩
            rcases (qat hax q6 p).1 hp with hp | hp
            · exact .inl ⟨p,hp,hh⟩
            · subst hp;exact .inr hh
          · rintro (⟨p,hp,hh⟩ | hh)
            · exact ⟨p,(qat hax q6 p).2 (.inl hp),hh⟩
            · exact ⟨_,(qat hax q6 _).2 (.inr rfl),hh⟩)
        simp only [hq,Option.bind_some]) (by
      unfold q39
      simp only [dnl,cond_false,lp]) (Nat.zero_le _)
    have outer : loop (q39 (ptsL l.From l.To) b) ([],0) = some (mrgB 2 (upTo l b (nL l.From l.To)) []):=outer
    simp only [outer,Option.bind_some]
    have eU : upTo l b (nL l.From l.To) = b.map (swp l.From l.To):=by unfold upTo;rw [qew hax]
    rw [eU]
    unfold barS mkB
    rw [if_pos hP,if_neg (by simp;omega),if_pos (by intro y hy;obtain ⟨x,hx,rfl⟩:=List.mem_map.1 hy;exact hP x hx)]
    by_cases h4 : 400 < (mrgB 2 (b.map (swp l.From l.To)) []).length
    · rw [decide_eq_true q6,if_pos h4];rfl
    · rw [decide_eq_false q6,if_neg h4];rfl
  · have hP : ¬ ∀ x∈b,vB (swp l.From l.To x):=fun h=>by simp [h _ (List.getElem_mem hk)] at hc
    rw [a2]
    unfold barS
    rw [if_neg hP]
    rfl
section
variable {α β : Type}
noncomputable def fstE (g : α→β × Int) : List α→Int
  | []=>0
  | a::r=>if (g a).2≠0 then (g a).2 else fstE g r
theorem qhd {g : α→β × Int} : ∀ {l : List α},fstE g l = 0↔∀ a∈l,(g a).2 = 0
  | []=>by simp [fstE]
  | a::r=>by
    rw [fstE]
    by_cases h : (g a).2 = 0
    · rw [if_neg (by simp [h]),qhd];simp [h]
    · rw [if_pos h];simp [h]
theorem qhf {src : List α} {g : α→β × Int} {f : Int × List β→Option ((Int × List β) ⊕ (List β ⊕ (List β × Int)))}
    (hs : ∀ k (hk : k < src.length) (o : List β),o.length = k→f ((k : Int),o) = some (if (g src[k]).2≠0 then .inr (.inr ([],(g src[k]).2)) else .inl (((k + 1 : Nat) : Int),o ++ [(g src[k]).1])))
    (hd : ∀ o,f ((src.length : Int),o) = some (.inr (.inl o))) : loop f (0,[]) = some (if fstE g src = 0 then .inl (src.map fun a=>(g a).1) else .inr ([],fstE g src)):=by
  have key : ∀ (r pre : List α),src = pre ++ r→loop f ((pre.length : Int),pre.map fun a=>(g a).1) = some (if fstE g r = 0 then .inl (src.map fun a=>(g a).1) else .inr ([],fstE g r)):=by
    intro r
    induction r with
    | nil=>
      intro pre h
      rw [List.append_nil] at h;subst h
      rw [Kc (hd _)];rfl
    | cons a r ih=>
      intro pre h
      have hk : pre.length < src.length:=by rw [h];simp
      have ha : src[pre.length] = a:=by simp [h]
      have h1:=hs pre.length hk (pre.map fun a=>(g a).1) qd
      rw [ha] at h1
      by_cases he : (g a).2 = 0
      · rw [if_neg (by simp [he])] at h1
        have e2 : fstE g (a::r) = fstE g r:=if_neg (by simp [he])
        rw [Ko h1,e2]
        have:=ih (pre ++ [a]) (by rw [h];simp)
        simpa using this
      · rw [if_pos he] at h1
        have e2 : fstE g (a::r) = (g a).2:=if_pos he
        rw [Kc h1,e2,if_neg he]
  exact key src [] rfl
end
noncomputable def q2h (bs : List (List qg)) (l : Qv) : List qg:=(idx bs (min l.Depth ((bs.length : Int) - 1))).getD []
noncomputable def barB (bs : List (List qg)) (l : Qv) : List qg × Int:=barS l (q2h bs l)
noncomputable def Z6 (t : K1) (bs : List (List qg)) : List (List qg) × Int:=
  if chkS t bs≠0 then ([],chkS t bs) else if fstE (barB bs) t.Lines = 0 then (t.Lines.map fun l=>(barB bs l).1,0) else ([],fstE (barB bs) t.Lines)
structure Ue (t : K1) (bs : List (List qg)) : Prop where
  tok : TOk t
  few : bs.length≤20
  brush : ∀ b∈bs,Kg b = 0
  some' : t.Lines≠[]→bs≠[]
  depth : ∀ l∈t.Lines,0≤l.Depth
theorem qcp {t : K1} {bs : List (List qg)} : chkS t bs = 0↔Ue t bs:=by
  unfold chkS
  constructor
  · intro h
    split at h
    · cases h
    rename_i h1
    split at h
    · cases h
    rename_i h2
    split at h
    · rename_i h3;exact absurd h h3
    rename_i h3
    split at h
    · cases h
    rename_i h4
    split at h
    · cases h
    rename_i h5
    refine ⟨Classical.not_not.1 h1,q6,qfn (Classical.not_not.1 h3),fun hl he=>h4 ⟨List.length_pos_iff.2 hl,by simp [he]⟩,fun l hl=>?_⟩
    exact Int.not_lt.1 fun hn=>h5 ⟨l,hl,hn⟩
  · rintro ⟨h1,h2,h3,h4,h5⟩
    rw [if_neg (not_not_intro h1),if_neg q6,if_neg (not_not_intro (qcb h3)),if_neg (fun h=>h4 (List.length_pos_iff.1 h.1) (List.length_eq_zero_iff.1 h.2)),if_neg (fun ⟨l,hl,hn⟩=>by have:=h5 l hl;omega)]
theorem qcg {t : K1} {bs : List (List qg)} (h : Ue t bs) {l : Qv} (hl : l∈t.Lines) : idx bs (min l.Depth (w64 ((bs.length : Int) - 1))) = some (q2h bs l)∧q2h bs l∈bs:=by
  have h1:=h.few
  have h2:=h.depth l hl
  have h3 : bs.length≠0:=fun e=>h.some' (List.ne_nil_of_mem hl) (List.length_eq_zero_iff.1 e)
  rw [Q6 q6]
  have hk : (min l.Depth ((bs.length : Int) - 1)).toNat < bs.length:=by omega
  have e:=U4 (xs:=bs) (i:=min l.Depth ((bs.length : Int) - 1)) (k:=(min l.Depth ((bs.length : Int) - 1)).toNat) q6 hk
  unfold q2h
  rw [e]
  exact ⟨rfl,List.getElem_mem hk⟩
theorem qm3 (t : K1) (bs : List (List qg)) (h1 : t.Lines.length≤1000000) (h2 : t.Marks.length≤1000000) (h3 : bs.length≤1000000) : q9k t bs = some (Z6 t bs):=by
  unfold q9k Z6
  rw [qt6 t bs h1 h2 h3]
  simp only [Option.bind_some]
  by_cases hc : chkS t bs = 0
  · have ok:=qcp.1 hc
    rw [if_neg (not_not_intro hc),hc,show ((0 : Int) != 0) = false from rfl,cond_false]
    rw [qhf (src:=t.Lines) (g:=barB bs) (f:=q6l t bs) (fun k hk o ho=>by
      have hm:=List.getElem_mem hk
      obtain ⟨e1,e2⟩:=qcg ok hm
      obtain ⟨hbl,hbv,_⟩:=q2k.1 (ok.brush _ e2)
      simp only [q6l,dlt hk,cond_true,Qj hk,Option.bind_some,e1,ql1 (ok.tok.2.1 _ hm) hbl hbv,w64s hk h1]
      have e : barS t.Lines[k] (q2h bs t.Lines[k]) = barB bs t.Lines[k]:=rfl
      rw [e]
      by_cases hz : (barB bs t.Lines[k]).2 = 0
      · rw [if_neg (by simp [hz]),hz,show ((0 : Int) != 0) = false from rfl,cond_false,Kr (by simp;omega)]
        rfl
      · rw [if_pos hz,show ((barB bs t.Lines[k]).2 != 0) = true by simpa using hz]
        rfl) (fun o=>by simp only [q6l,dnl,cond_false])]
    by_cases hz : fstE (barB bs) t.Lines = 0
    · rw [if_pos hz,if_pos hz];rfl
    · rw [if_neg hz,if_neg hz];rfl
  · rw [if_pos hc,show (chkS t bs != 0) = true by simpa using hc];rfl
structure Small (t : K1) (bs : List (List qg)) : Prop where
  lines : t.Lines.length≤12
  marks : t.Marks.length≤50
  many : bs.length≤25
  near : ∀ l∈t.Lines,(InV l.From (-2000000)∧InV l.To (-2000000))∧nL l.From l.To≤90
  few : ∀ b∈bs,b.length≤5
theorem qsb {t : K1} {bs : List (List qg)} (h : Small t bs) : q7z t bs = some (Z6 t bs):=by
  have h1:=h.lines
  have h2:=h.marks
  have h3:=h.many
  unfold q7z Z6
  rw [qje t q6 q6]
  simp only [Option.bind_some]
  by_cases g1 : TOk t
  rotate_left
  · have : chkS t bs = 8:=if_pos g1
    rw [if_neg g1,this,if_pos qy];rfl
  rw [if_pos g1,show ((0 : Int) != 0) = false from rfl,cond_false]
  by_cases g2 : 20 < bs.length
  · have : chkS t bs = 4:=by unfold chkS;rw [if_neg (not_not_intro g1),if_pos g2]
    rw [decide_eq_true (by omega : (bs.length : Int) > 20),cond_true,this,if_pos qy]
  rw [decide_eq_false (by omega : ¬ (bs.length : Int) > 20),cond_false]
  rw [qfr bs q6 (fun e=>(([],e) : List (List qg) × Int)) (q4w bs) (fun k hk=>by
    simp only [q4w,dlt hk,cond_true,Qj hk,Option.bind_some,w64s hk (show bs.length≤1000000 by omega),qjf]
    by_cases h : Kg bs[k] = 0 <;> simp [qce,h]) (by simp only [q4w,dnl,cond_false])]
  by_cases g3 : badB bs = 0
  rotate_left
  · have : chkS t bs = badB bs:=by unfold chkS;rw [if_neg (not_not_intro g1),if_neg g2,if_pos g3]
    rw [if_neg g3,this,if_pos g3];rfl
  rw [if_pos g3]
  simp only [Option.bind_some]
  by_cases g4 : 0 < t.Lines.length∧bs.length = 0
  · have : chkS t bs = 6:=by unfold chkS;rw [if_neg (not_not_intro g1),if_neg g2,if_neg (not_not_intro g3),if_pos g4]
    rw [this,if_pos qy,decide_eq_true (by omega : (t.Lines.length : Int) > 0),g4.2];rfl
  have e4 : (cond (decide ((t.Lines.length : Int) > 0)) (some ((bs.length : Int) == 0)) (some false)) = some false:=by
    by_cases g5 : 0 < t.Lines.length
    · have : ((bs.length : Int) == 0) = false:=by
        have : bs.length≠0:=fun e=>g4 ⟨g5,e⟩
        simpa using this
      rw [decide_eq_true (by omega : (t.Lines.length : Int) > 0),this];rfl
    · rw [decide_eq_false (by omega : ¬ (t.Lines.length : Int) > 0)];rfl
  rw [e4]
  simp only [Option.bind_some,cond_false]
  rcases Yy t.Lines (fun l=>decide (l.Depth < 0)) (fun k _=>(([],2) : List (List qg) × Int)) () (q4x t) (fun k hk=>by
    simp only [q4x,dlt hk,cond_true,Qj hk,Option.bind_some,w64s hk (show t.Lines.length≤1000000 by omega)]
    by_cases hd : t.Lines[k].Depth < 0 <;> simp [hd]) (by simp only [q4x,dnl,cond_false]) with ⟨a1,a2⟩ | ⟨k,hk,hc,_,a2⟩
  rotate_left
  · have : chkS t bs = 2:=by
      unfold chkS;rw [if_neg (not_not_intro g1),if_neg g2,if_neg (not_not_intro g3),if_neg g4,if_pos ⟨_,List.getElem_mem hk,by simpa using hc⟩]
    rw [a2,this,if_pos qy];rfl
  have hc : chkS t bs = 0:=by
    unfold chkS;rw [if_neg (not_not_intro g1),if_neg g2,if_neg (not_not_intro g3),if_neg g4,if_neg (fun ⟨l,hl,hn⟩=>by have:=a1 l hl;simp at this;omega)]
  have ok:=qcp.1 hc
  rw [a2,if_neg (not_not_intro hc)]
  simp only [Option.bind_some]
  rw [qhf (src:=t.Lines) (g:=barB bs) (f:=q4y t bs) (fun k hk o ho=>by
    have hm:=List.getElem_mem hk
    obtain ⟨e1,e2⟩:=qcg ok hm
    obtain ⟨hbl,hbv,_⟩:=q2k.1 (ok.brush _ e2)
    have hnear:=(h.near _ hm).2
    simp only [q4y,qb5,dlt hk,cond_true,Qj hk,Option.bind_some,e1,qjk (ok.tok.2.1 _ hm) q6 (h.few _ e2) hbv,w64s hk (show t.Lines.length≤1000000 by omega)]
    have e : barS t.Lines[k] (q2h bs t.Lines[k]) = barB bs t.Lines[k]:=rfl
    rw [e]
    by_cases hz : (barB bs t.Lines[k]).2 = 0
    · rw [if_neg (by simp [hz]),hz,show ((0 : Int) != 0) = false from rfl,cond_false,Kr (by simp;omega)]
      rfl
    · rw [if_pos hz,show ((barB bs t.Lines[k]).2 != 0) = true by simpa using hz]
      rfl) (fun o=>by simp only [q4y,dnl,cond_false])]
  by_cases hz : fstE (barB bs) t.Lines = 0
  · rw [if_pos hz,if_pos hz];rfl
  · rw [if_neg hz,if_neg hz];rfl
end Go.Sh
