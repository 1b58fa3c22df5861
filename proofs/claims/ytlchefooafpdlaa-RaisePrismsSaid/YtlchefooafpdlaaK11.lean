/- Pt8 Pt9 -/
import Derived.Test.YtlchefooafpdlaaK10
namespace Go.Sh
open Go Go.Am
theorem qrn (s : Mg api_Rect api_Box) (a b : Int) (c : List api_Rect) (hl : (s.flat putB).length + c.length≤1000000) :
    q5t (s.flat putB) s.sec (s.done.length : Int) s.hi a b c = some ((addM putB s a b c).sec,((addM putB s a b c).done.length : Int),(addM putB s a b c).hi,(addM putB s a b c).flat putB):=by
  have hfl : (s.flat putB).length = s.done.length + s.sec.length:=by simp [Mg.flat]
  have hsec : s.sec.length≤1000000:=by omega
  unfold q5t
  rcases q77 putB s a b c with ⟨h1,h2,h3,h4⟩ | ⟨h1,h4⟩
  · have hb : decide ((c.length : Int) > 0) = true:=decide_eq_true (by have:=List.length_pos_iff.2 h1;omega)
    have he : (s.hi == a) = true:=by simpa using h3
    rw [h2] at hb
    rw [h4,h2]
    simp only [hb,cond_true,he,Option.bind_some,eqRect _ _ hsec,decide_true]
    have:=extLoop (fun v : api_Box=>({Lo:=v.Lo,Hi:=({X:=v.Hi.X,Y:=v.Hi.Y,Z:=b} : q15)} : api_Box)) s.done (s.sec.map (putB s.lo s.hi)) (by simp;omega) (q4p b) (fun k o hk ho=>by
      have h5 : (s.done ++ s.sec.map (putB s.lo s.hi)).length = (s.flat putB).length:=rfl
      simp only [q4p,dlt hk,cond_true,q13 hk,Option.bind_some,w64s hk (by omega),Int.toNat_natCast]) (fun o=>by simp only [q4p,dnl,cond_false])
    rw [show s.flat putB = s.done ++ s.sec.map (putB s.lo s.hi) from rfl,this]
    simp only [Option.bind_some,Mg.flat,List.map_map]
    rfl
  · rw [h4]
    have hc : ((cond (decide ((c.length : Int) > 0)) (some (s.hi == a)) (some false)).bind fun c101=>(cond c101 ((q1u s.sec c).bind fun r121=>some r121) (some false))) = some false:=by
      by_cases h5 : c = []
      · subst h5;simp
      · have hb : decide ((c.length : Int) > 0) = true:=decide_eq_true (by have:=List.length_pos_iff.2 h5;omega)
        simp only [hb,cond_true,Option.bind_some,eqRect _ _ hsec]
        by_cases h6 : s.hi = a
        · have h7 : s.sec≠c:=fun h=>h1 ⟨h5,h.symm,h6⟩
          simp [h6,h7]
        · have : (s.hi == a) = false:=by simpa using h6
          simp [this]
    have hap:=mapLoop c (putB a b) (s.flat putB) (fun o=>(c,((s.flat putB).length : Int),b,o)) (q4q c a b (s.flat putB)) (fun k hk o ho=>by
      simp only [q4q,dlt hk,cond_true,q13 hk,Option.bind_some,w64s hk (by omega)]
      rw [q4r (by simp;omega)]
      rfl) (fun o=>by simp only [q4q,dnl,cond_false])
    rw [← Option.bind_assoc,hc]
    simp only [Option.bind_some,cond_false,hap]
    simp [Mg.flat]
def zAt : Int→List qs→Nat→Int
  | z,[],_=>z
  | z,_::_,0=>z
  | z,s::r,k + 1=>zAt (z + s.Height) r k
theorem q7c (z : Int) (l : List qs) : zAt z l 0 = z:=by cases l <;> rfl
theorem qgz : ∀ (l : List qs) (z : Int) (k : Nat) (h : k < l.length),zAt z l (k + 1) = zAt z l k + l[k].Height
  | [],_,_,h=>absurd h (by simp)
  | s::r,z,0,_=>by simp [zAt,q7c]
  | s::r,z,k + 1,h=>by
    have:=qgz r (z + s.Height) k (by simpa using h)
    simpa [zAt] using this
def stepsS : Int→List qs→List (Int × Int × List api_Rect)
  | _,[]=>[]
  | z,s::r=>(z,z + s.Height,s.Region)::stepsS (z + s.Height) r
theorem qb1 : ∀ (l : List qs) (z : Int),(stepsS z l).length = l.length
  | [],_=>rfl
  | s::r,z=>by simp [stepsS,qb1 r]
theorem q9m : ∀ (l : List qs) (z : Int) (k : Nat) (h : k < l.length) (h' : k < (stepsS z l).length),(stepsS z l)[k] = (zAt z l k,zAt z l (k + 1),l[k].Region)
  | [],_,_,h,_=>absurd h (by simp)
  | s::r,z,0,_,_=>by simp [stepsS,zAt,q7c]
  | s::r,z,k + 1,h,h'=>by
    have:=q9m r (z + s.Height) k (by simpa using h) (by simpa [stepsS] using h')
    simpa [stepsS,zAt] using this
def bxs (t : List (Int × Int × List api_Rect)) : List api_Box:=t.flatMap fun t=>t.2.2.map (putB t.1 t.2.1)
theorem qqs {t : List (Int × Int × List api_Rect)} {k : Nat} (h : k < t.length) : bxs (t.take (k + 1)) = bxs (t.take k) ++ t[k].2.2.map (putB t[k].1 t[k].2.1):=by
  unfold bxs
  rw [List.take_succ_eq_append_getElem h,List.flatMap_append,List.flatMap_cons,List.flatMap_nil,List.append_nil]
theorem qie {M : Nat} : ∀ {t : List (Int × Int × List api_Rect)},(∀ x∈t,x.2.2.length≤M)→(bxs t).length≤t.length * M
  | [],_=>by simp [bxs]
  | x::t,h=>by
    have h1:=qie (t:=t) fun y hy=>h y (by simp [hy])
    have h2:=h x (by simp)
    have : bxs (x::t) = x.2.2.map (putB x.1 x.2.1) ++ bxs t:=rfl
    rw [this]
    simp only [List.length_append,List.length_map,List.length_cons,Nat.succ_mul]
    omega
def zL : Int→List qs→List Int
  | z,[]=>[z]
  | z,s::r=>z::zL (z + s.Height) r
theorem qif (z : Int) (l : List qs) : ∃ t,zL z l = z::t:=by cases l <;> exact ⟨_,rfl⟩
theorem qp9 : ∀ (l : List qs) (z : Int),(zL z l).length = l.length + 1
  | [],_=>rfl
  | s::r,z=>by simp [zL,qp9 r]
theorem qdg (a b : List api_Box) (x : Int) : atB (a ++ b) x = atB a x ++ atB b x:=by simp [atB]
theorem qh0 {l : List api_Box} {x : Int} (h : ∀ b∈l,covB x b = false) : atB l x = []:=by
  unfold atB
  rw [List.flatMap_eq_nil_iff]
  intro b hb;rw [h b hb];rfl
theorem qn9 {R : List api_Rect} {a b x : Int} (h : a≤x∧x < b) : atB (R.map (putB a b)) x = R:=by
  induction R with
  | nil=>rfl
  | cons r R ih=>
    have hc : covB x (putB a b r) = true:=by simp [covB,putB,h.1,h.2]
    have : atB ((r::R).map (putB a b)) x = [rectOf (putB a b r)] ++ atB (R.map (putB a b)) x:=by simp [atB,hc]
    rw [this,ih];rfl
theorem qo0 {R : List api_Rect} {a b x : Int} (h : x < a∨b≤x) : atB (R.map (putB a b)) x = []:=by
  refine qh0 fun c hc=>?_
  obtain ⟨r,_,rfl⟩:=List.mem_map.1 hc
  rcases h with h | h
  · have : ¬ a≤x:=by omega
    simp [covB,putB,this]
  · have : ¬ x < b:=by omega
    simp [covB,putB,this]
def HOk (l : List qs) : Prop:=∀ s∈l,1≤s.Height
theorem qpa : ∀ (l : List qs) (z : Int),HOk l→∀ b∈bxs (stepsS z l),z≤b.Lo.Z
  | [],_,_,b,hb=>by cases hb
  | s::r,z,h,b,hb=>by
    have hs:=h s (by simp)
    have hb : b∈s.Region.map (putB z (z + s.Height)) ++ bxs (stepsS (z + s.Height) r):=hb
    rcases List.mem_append.1 hb with hb | hb
    · obtain ⟨r,_,rfl⟩:=List.mem_map.1 hb
      exact Int.le_refl _
    · have:=qpa r (z + s.Height) (fun t ht=>h t (by simp [ht])) b hb
      omega
theorem qjg {l : List qs} {z x : Int} (h : HOk l) (hx : x < z) : atB (bxs (stepsS z l)) x = []:=by
  refine qh0 fun b hb=>?_
  have:=qpa l z h b hb
  have : ¬ b.Lo.Z≤x:=by omega
  simp [covB,this]
theorem qna : ∀ (l : List qs) (z x : Int),HOk l→atB (bxs (stepsS z l)) x = []∨∃ s∈l,atB (bxs (stepsS z l)) x = s.Region
  | [],_,_,_=>.inl rfl
  | s::r,z,x,h=>by
    have hs:=h s (by simp)
    have hr : HOk r:=fun t ht=>h t (by simp [ht])
    have e : atB (bxs (stepsS z (s::r))) x = atB (s.Region.map (putB z (z + s.Height))) x ++ atB (bxs (stepsS (z + s.Height) r)) x:=qdg _ _ _
    by_cases h1 : z≤x∧x < z + s.Height
    · refine .inr ⟨s,by simp,?_⟩
      rw [e,qn9 h1,qjg hr h1.2,List.append_nil]
    · rw [e,qo0 (by omega),List.nil_append]
      rcases qna r (z + s.Height) x hr with h | ⟨t,ht,h⟩
      · exact .inl h
      · exact .inr ⟨t,by simp [ht],h⟩
theorem qbi : mrgR 2 [] [] = []:=by
  have h:=(cutsX (p:=[]) (q:=[]) (by simp)).2.2
  have : cutsOf (xsOf [] ++ xsOf []) = []:=List.length_eq_zero_iff.1 (by simpa using h)
  unfold mrgR mrg
  rw [this];rfl
theorem qs3 {B pre : List api_Box} {z : Int} {l : List qs} (hB : B = pre ++ bxs (stepsS z l)) (hpre : ∀ b∈pre,b.Hi.Z≤z) (h : HOk l) :
    atB B z = (match l with | []=>[] | s::_=>s.Region):=by
  have hp : atB pre z = []:=qh0 fun b hb=>by
    have:=hpre b hb
    have : ¬ z < b.Hi.Z:=by omega
    simp [covB,this]
  subst hB
  rw [qdg,hp,List.nil_append]
  cases l with
  | nil=>rfl
  | cons s r=>
    have hs:=h s (by simp)
    have e : atB (bxs (stepsS z (s::r))) z = atB (s.Region.map (putB z (z + s.Height))) z ++ atB (bxs (stepsS (z + s.Height) r)) z:=qdg _ _ _
    rw [e,qn9 ⟨Int.le_refl _,by omega⟩,qjg (fun t ht=>h t (by simp [ht])) (by omega),List.append_nil]
theorem qlm {B pre : List api_Box} {z : Int} {l : List qs} (hB : B = pre ++ bxs (stepsS z l)) (hpre : ∀ b∈pre,b.Hi.Z≤z) (h : HOk l) (hm : ∀ s∈l,mrgR 2 s.Region [] = s.Region) :
    secB 2 B [] z = (match l with | []=>[] | s::_=>s.Region):=by
  have : secB 2 B [] z = mrgR 2 (atB B z) []:=rfl
  rw [this,qs3 hB hpre h]
  cases l with
  | nil=>exact qbi
  | cons s r=>exact hm s (by simp)
theorem qhw {B : List api_Box} : ∀ (l : List qs) (z : Int) (pre : List api_Box) (hB : B = pre ++ bxs (stepsS z l)) (hpre : ∀ b∈pre,b.Hi.Z≤z) (h : HOk l) (hm : ∀ s∈l,mrgR 2 s.Region [] = s.Region),
    (∀ s0,runM putB (secB 2 B []) s0 (zL z l) = foldM putB s0 (stepsS z l))∧Gap (fun x=>decide (x∈zsOf B)) (secB 2 B []) (zL z l)∧(z ∉ zsOf B→secB 2 B [] z = [])
  | [],z,pre,hB,hpre,h,hm=>⟨fun s0=>rfl,trivial,fun _=>qlm hB hpre h hm⟩
  | s::r,z,pre,hB,hpre,h,hm=>by
    have hs:=h s (by simp)
    have hr : HOk r:=fun t ht=>h t (by simp [ht])
    have hB' : B = (pre ++ s.Region.map (putB z (z + s.Height))) ++ bxs (stepsS (z + s.Height) r):=by rw [hB,List.append_assoc];rfl
    have hpre' : ∀ b∈pre ++ s.Region.map (putB z (z + s.Height)),b.Hi.Z≤z + s.Height:=by
      intro b hb
      rcases List.mem_append.1 hb with hb | hb
      · have:=hpre b hb;omega
      · obtain ⟨r,_,rfl⟩:=List.mem_map.1 hb;exact Int.le_refl _
    have hm' : ∀ t∈r,mrgR 2 t.Region [] = t.Region:=fun t ht=>hm t (by simp [ht])
    obtain ⟨i1,i2,i3⟩:=qhw r (z + s.Height) _ hB' hpre' hr hm'
    have hz : secB 2 B [] z = s.Region:=qlm hB hpre h hm
    have hmem : ∀ q∈s.Region,z∈zsOf B∧z + s.Height∈zsOf B:=by
      intro q hq
      have : putB z (z + s.Height) q∈B:=by
        rw [hB'];exact List.mem_append.2 (.inl (List.mem_append.2 (.inr (List.mem_map.2 ⟨q,hq,rfl⟩))))
      unfold zsOf
      exact ⟨List.mem_flatMap.2 ⟨_,this,by simp [putB]⟩,List.mem_flatMap.2 ⟨_,this,by simp [putB]⟩⟩
    obtain ⟨t,ht⟩:=qif (z + s.Height) r
    refine ⟨fun s0=>?_,?_,fun hn=>?_⟩
    · have:=i1 (addM putB s0 z (z + s.Height) s.Region)
      show runM putB (secB 2 B []) s0 (z::zL (z + s.Height) r) = _
      rw [ht] at this ⊢
      rw [runM,hz,this];rfl
    · show Gap _ _ (z::zL (z + s.Height) r)
      rw [ht] at i2 ⊢
      refine ⟨fun hP=>?_,i2⟩
      have hP : z + s.Height ∉ zsOf B:=by simpa using hP
      refine ⟨?_,i3 hP⟩
      rw [hz]
      cases hR : s.Region with
      | nil=>rfl
      | cons q R=>exact absurd (hmem q (by rw [hR];simp)).2 hP
    · rw [hz]
      cases hR : s.Region with
      | nil=>rfl
      | cons q R=>exact absurd (hmem q (by rw [hR];simp)).1 hn
theorem qqv : ∀ (l : List qs) (z : Int),HOk l→∀ x∈zL z l,z≤x
  | [],z,_,x,hx=>by simp only [zL,List.mem_singleton] at hx;omega
  | s::r,z,h,x,hx=>by
    have hs:=h s (by simp)
    rcases List.mem_cons.1 hx with hx | hx
    · omega
    · have:=qqv r (z + s.Height) (fun t ht=>h t (by simp [ht])) x hx;omega
theorem qjh : ∀ (l : List qs) (z : Int),HOk l→(zL z l).Pairwise (· < ·)
  | [],z,_=>by simp [zL]
  | s::r,z,h=>by
    have hs:=h s (by simp)
    have hr : HOk r:=fun t ht=>h t (by simp [ht])
    refine List.pairwise_cons.2 ⟨fun x hx=>?_,qjh r _ hr⟩
    have:=qqv r _ hr x hx
    omega
theorem qpb : ∀ (l : List qs) (z : Int) (x : Int),x∈zsOf (bxs (stepsS z l))→x∈zL z l
  | [],z,x,hx=>by cases hx
  | s::r,z,x,hx=>by
    have e : zsOf (bxs (stepsS z (s::r))) = zsOf (s.Region.map (putB z (z + s.Height))) ++ zsOf (bxs (stepsS (z + s.Height) r)):=by
      show zsOf (s.Region.map (putB z (z + s.Height)) ++ bxs (stepsS (z + s.Height) r)) = _
      simp [zsOf]
    rw [e] at hx
    rcases List.mem_append.1 hx with hx | hx
    · unfold zsOf at hx
      obtain ⟨b,hb,hx⟩:=List.mem_flatMap.1 hx
      obtain ⟨q,_,rfl⟩:=List.mem_map.1 hb
      obtain ⟨t,ht⟩:=qif (z + s.Height) r
      simp only [putB,List.mem_cons,List.not_mem_nil,or_false] at hx
      show x∈z::zL (z + s.Height) r
      rw [ht]
      rcases hx with rfl | rfl <;> simp
    · exact List.mem_cons.2 (.inr (qpb r _ x hx))
theorem qln {l : List qs} {z : Int} (hn : l.length≤100) (h : HOk l) (hc : ∀ s∈l,checkR s.Region = 0) :
    ∃ ok,q8f 2 (bxs (stepsS z l)) [] = some ((foldM putB initM (stepsS z l)).flat putB,ok):=by
  have hm : ∀ s∈l,mrgR 2 s.Region [] = s.Region:=fun s hs=>(q9e (hc s hs)).2.2
  have hl : ∀ s∈l,s.Region.length≤400:=fun s hs=>(q9e (hc s hs)).1
  generalize hB : bxs (stepsS z l) = B
  have hBlen : B.length≤40000:=by
    have h1:=qie (M:=400) (t:=stepsS z l) (fun x hx=>by
      obtain ⟨k,hk,rfl⟩:=List.getElem_of_mem hx
      rw [qb1] at hk
      rw [q9m l z k hk]
      exact hl _ (List.getElem_mem hk))
    rw [qb1,hB] at h1
    have : l.length * 400≤100 * 400:=Nat.mul_le_mul_right _ hn
    omega
  obtain ⟨r1,r2,r3⟩:=qhw (B:=B) l z [] (by rw [← hB];rfl) (by simp) h hm
  have hzl:=qa8 B
  obtain ⟨c1,c2,c3⟩:=qam (l:=zsOf B ++ zsOf []) (by simp [zsOf] at hzl ⊢;omega)
  have hcuts : cutsOf (zsOf B ++ zsOf []) = (zL z l).filter (fun x=>decide (x∈zsOf B)):=by
    refine qdp c2 ⟨(qjh l z h).filter _,fun x=>?_⟩
    rw [List.mem_filter,decide_eq_true_eq]
    have e : zsOf B ++ zsOf [] = zsOf B:=by simp [zsOf]
    rw [e]
    refine ⟨fun hx=>hx.2,fun hx=>⟨qpb l z x (by rw [hB];exact hx),hx⟩⟩
  have hok : ∀ x,SecOk 2 B [] x:=by
    intro x
    have e0 : atB [] x = []:=rfl
    rcases qna l z x h with ha | ⟨s,hs,ha⟩
    · rw [hB] at ha
      exact ⟨by rw [ha,e0];simp,by rw [ha,e0,qbi];simp,by rw [ha,qbi];simp,by rw [e0,qbi];simp⟩
    · rw [hB] at ha
      have:=hl s hs
      exact ⟨by rw [ha,e0];simpa using this,by rw [ha,e0,hm s hs];exact this,by rw [ha,hm s hs];exact this,by rw [e0,qbi];simp⟩
  have hcl : (cutsOf (zsOf B ++ zsOf [])).length≤2000:=by
    rw [hcuts]
    have h1:=List.length_filter_le (fun x=>decide (x∈zsOf B)) (zL z l)
    rw [qp9] at h1
    omega
  have hj:=qjv 2 (p:=B) (q:=[]) (by simp;omega) hok hcl
  have hfl : mrgB 2 B [] = (foldM putB initM (stepsS z l)).flat putB:=by
    unfold mrgB
    rw [hcuts,qhv,← r1,← align putB (fun x=>decide (x∈zsOf B)) (secB 2 B []) r2]
    intro y hy hP
    obtain ⟨t,ht⟩:=qif z l
    rw [ht] at hy
    simp only [List.head?_cons,Option.mem_def,Option.some.injEq] at hy
    subst hy
    exact r3 (by simpa using hP)
  exact ⟨_,by rw [hj,hfl]⟩
end Go.Sh
namespace Go.Sh
open Go Go.Am
def badH (s : qs) : Bool:=decide (s.Height < 1) || decide (s.Height > 1000000)
theorem qo1 (s : qs) : q53 s = some (badH s):=by
  unfold q53 badH
  by_cases h : s.Height < 1 <;> simp [h]
theorem qlo (l : List qs) (hl : l.length≤100) :
    ((∀ s∈l,checkR s.Region = 0)∧loop (q4n l) 0 = some (.inl ())∧loop (q4s l) 0 = some (.inl ()))∨
    ∃ r,loop (q4n l) 0 = some (.inr r)∧loop (q4s l) 0 = some (.inr r)∧r.1 = []:=by
  let c : qs→Bool:=fun s=>decide (checkR s.Region≠0)
  have hs1 : ∀ (k : Nat) (h : k < l.length),q4n l (k : Int) = some (if c l[k] = true then .inr (.inr (([] : List api_Box),checkR l[k].Region)) else .inl ((k + 1 : Nat) : Int)):=by
    intro k h
    simp only [q4n,dlt h,cond_true,q13 h,Option.bind_some,w64s h (by omega : l.length≤1000000),qbx,c]
    by_cases hv : checkR l[k].Region = 0
    · simp [hv]
    · have hv' : (checkR l[k].Region != 0) = true:=by simpa using hv
      simp [hv,hv']
  have hs2 : ∀ (k : Nat) (h : k < l.length),q4s l (k : Int) = some (if c l[k] = true then .inr (.inr (([] : List api_Box),checkR l[k].Region)) else .inl ((k + 1 : Nat) : Int)):=by
    intro k h
    simp only [q4s,dlt h,cond_true,q13 h,Option.bind_some,w64s h (by omega : l.length≤1000000),qez,c]
    by_cases hv : checkR l[k].Region = 0
    · simp [hv]
    · have hv' : (checkR l[k].Region != 0) = true:=by simpa using hv
      simp [hv,hv']
  have hd1 : q4n l (l.length : Int) = some (.inr (.inl ())):=by simp only [q4n,dnl,cond_false]
  have hd2 : q4s l (l.length : Int) = some (.inr (.inl ())):=by simp only [q4s,dnl,cond_false]
  by_cases hh : ∀ s∈l,c s = false
  · refine .inl ⟨fun s hs=>by simpa [c] using hh s hs,?_,?_⟩
    · exact q4u (f:=q4n l) (fun k=>(k : Int)) l.length _ (fun k hk=>by rw [hs1 k hk,hh _ (List.getElem_mem hk)];rfl) hd1 (Nat.zero_le _)
    · exact q4u (f:=q4s l) (fun k=>(k : Int)) l.length _ (fun k hk=>by rw [hs2 k hk,hh _ (List.getElem_mem hk)];rfl) hd2 (Nat.zero_le _)
  · refine .inr ?_
    rcases findLoop l c (fun k h=>(([] : List api_Box),checkR l[k].Region)) () _ hs1 hd1 with ⟨h1,_⟩ | ⟨k,hk,hc,hmin,h2⟩
    · exact absurd h1 hh
    · refine ⟨_,h2,?_,rfl⟩
      exact q4u (f:=q4s l) (fun k=>(k : Int)) k _ (fun j hj=>by rw [hs2 j (by omega),hmin j hj];rfl) (by rw [hs2 k hk,if_pos hc]) (Nat.zero_le _)
theorem qig (l : List qs) (hl : l.length≤100) : q2g l (fun x0=>q53 x0) = some (l.any badH):=by
  have hs : ∀ (k : Nat) (h : k < l.length),q1f l (fun x0=>q53 x0) (k : Int) = some (if badH l[k] = true then .inr (.inr (k : Int)) else .inl ((k + 1 : Nat) : Int)):=by
    intro k h
    simp only [q1f,dlt h,cond_true,q13 h,Option.bind_some,w64s h (by omega : l.length≤1000000),qo1]
    cases badH l[k] <;> simp
  have hd : q1f l (fun x0=>q53 x0) (l.length : Int) = some (.inr (.inl ())):=by simp only [q1f,dnl,cond_false]
  unfold q2g q3z
  rcases findLoop l badH (fun k _=>(k : Int)) () _ hs hd with ⟨h1,h2⟩ | ⟨k,hk,hc,_,h2⟩
  · rw [h2]
    have : l.any badH = false:=by
      rw [List.any_eq_false];intro x hx;simp [h1 x hx]
    rw [this];rfl
  · rw [h2]
    have : l.any badH = true:=List.any_eq_true.2 ⟨_,List.getElem_mem hk,hc⟩
    rw [this]
    simp only [Option.bind_some]
    rw [decide_eq_true (by omega)]
theorem qjw (l : List qs) (hl : l.length≤100) : loop (q5u l) 0 = some (if l.any badH = true then .inr ([],2) else .inl ()):=by
  have hs : ∀ (k : Nat) (h : k < l.length),q5u l (k : Int) = some (if badH l[k] = true then .inr (.inr (([] : List api_Box),(2 : Int))) else .inl ((k + 1 : Nat) : Int)):=by
    intro k h
    simp only [q5u,dlt h,cond_true,q13 h,Option.bind_some,w64s h (by omega : l.length≤1000000),badH]
    by_cases h1 : l[k].Height < 1 <;> by_cases h2 : l[k].Height > 1000000 <;> simp [h1,h2]
  have hd : q5u l (l.length : Int) = some (.inr (.inl ())):=by simp only [q5u,dnl,cond_false]
  rcases findLoop l badH (fun k _=>(([] : List api_Box),(2 : Int))) () _ hs hd with ⟨h1,h2⟩ | ⟨k,hk,hc,_,h2⟩
  · have : l.any badH = false:=by
      rw [List.any_eq_false];intro x hx;simp [h1 x hx]
    rw [h2,this];rfl
  · have : l.any badH = true:=List.any_eq_true.2 ⟨_,List.getElem_mem hk,hc⟩
    rw [h2,this];rfl
theorem qo2 {l : List qs} {z : Int} (hn : l.length≤100) (hz : fineZ z) (hH : ∀ s∈l,1≤s.Height∧s.Height≤1000000) (hR : ∀ s∈l,s.Region.length≤400) :
    (loop (q4e l) (z,0,[],0,0,[]) = some (.inr ([],16))∧loop (q4t l) (z,0,[]) = some (.inr ([],16)))∨
    (loop (q4e l) (z,0,[],0,0,[]) = some (.inl ((foldM putB initM (stepsS z l)).sec,((foldM putB initM (stepsS z l)).done.length : Int),(foldM putB initM (stepsS z l)).hi,(foldM putB initM (stepsS z l)).flat putB))∧
      loop (q4t l) (z,0,[]) = some (.inl (bxs (stepsS z l)))):=by
  have hlen:=qb1 l z
  have hM : ∀ t∈stepsS z l,t.2.2.length≤400:=fun x hx=>by
    obtain ⟨k,hk,rfl⟩:=List.getElem_of_mem hx
    rw [hlen] at hk
    rw [q9m l z k hk]
    exact hR _ (List.getElem_mem hk)
  have hml : ∀ i,((foldM putB initM ((stepsS z l).take i)).flat putB).length≤40000:=fun i=>by
    have h1:=qex putB (s0:=initM) (M:=400) (steps:=(stepsS z l).take i) (fun t ht=>hM t (List.mem_of_mem_take ht))
    have h2 : ((stepsS z l).take i).length≤100:=by rw [List.length_take];omega
    have h3 : (initM.flat putB : List api_Box).length = 0:=rfl
    have h4 : ((stepsS z l).take i).length * 400≤100 * 400:=Nat.mul_le_mul_right _ h2
    omega
  have hbl : ∀ i,(bxs ((stepsS z l).take i)).length≤40000:=fun i=>by
    have h1:=qie (M:=400) (t:=(stepsS z l).take i) (fun t ht=>hM t (List.mem_of_mem_take ht))
    have h2 : ((stepsS z l).take i).length≤100:=by rw [List.length_take];omega
    have h4 : ((stepsS z l).take i).length * 400≤100 * 400:=Nat.mul_le_mul_right _ h2
    omega
  have hlow : ∀ k,k≤l.length→-1000000≤zAt z l k:=by
    intro k
    induction k with
    | zero=>intro _;rw [q7c];exact hz.1
    | succ k ih=>
      intro hk
      rw [qgz l z k (by omega)]
      have:=hH _ (List.getElem_mem (by omega : k < l.length))
      have:=ih (by omega)
      omega
  have ha : ∀ k (hk : k < l.length),zAt z l k≤1000000→w64 (zAt z l k + l[k].Height) = zAt z l (k + 1):=by
    intro k hk h1
    have h2:=hlow k (by omega)
    have h3:=hH _ (List.getElem_mem hk)
    rw [qy (by omega),qgz l z k hk]
  have stepA : ∀ k (hk : k < l.length),zAt z l k≤1000000→zAt z l (k + 1)≤1000000→
      q4e l (zAt z l k,(k : Int),(foldM putB initM ((stepsS z l).take k)).sec,((foldM putB initM ((stepsS z l).take k)).done.length : Int),(foldM putB initM ((stepsS z l).take k)).hi,(foldM putB initM ((stepsS z l).take k)).flat putB) =
        some (.inl (zAt z l (k + 1),((k + 1 : Nat) : Int),(foldM putB initM ((stepsS z l).take (k + 1))).sec,((foldM putB initM ((stepsS z l).take (k + 1))).done.length : Int),(foldM putB initM ((stepsS z l).take (k + 1))).hi,(foldM putB initM ((stepsS z l).take (k + 1))).flat putB)):=by
    intro k hk h1 h2
    have hr:=hR _ (List.getElem_mem hk)
    have hm:=hml k
    have hd : decide (zAt z l (k + 1) > 1000000) = false:=decide_eq_false (by omega)
    have hadd:=qrn (foldM putB initM ((stepsS z l).take k)) (zAt z l k) (zAt z l (k + 1)) l[k].Region (by omega)
    rw [q8h putB (by omega : k < (stepsS z l).length),q9m l z k hk]
    simp only [q4e,dlt hk,cond_true,q13 hk,Option.bind_some,ha k hk h1,hd,cond_false,hadd,w64s hk (by omega : l.length≤1000000)]
  have stepB : ∀ k (hk : k < l.length),zAt z l k≤1000000→zAt z l (k + 1)≤1000000→
      q4t l (zAt z l k,(k : Int),bxs ((stepsS z l).take k)) = some (.inl (zAt z l (k + 1),((k + 1 : Nat) : Int),bxs ((stepsS z l).take (k + 1)))):=by
    intro k hk h1 h2
    have hr:=hR _ (List.getElem_mem hk)
    have hm:=hbl k
    have hd : decide (zAt z l (k + 1) > 1000000) = false:=decide_eq_false (by omega)
    rw [qqs (by omega : k < (stepsS z l).length),q9m l z k hk]
    simp only [q4t,dlt hk,cond_true,q13 hk,Option.bind_some,ha k hk h1,hd,cond_false,qf0 _ hr,w64s hk (by omega : l.length≤1000000)]
    rw [q4r (by simp;omega)]
    rfl
  by_cases hA : ∀ k,k < l.length→zAt z l (k + 1)≤1000000
  · have hA' : ∀ k,k < l.length→zAt z l k≤1000000:=fun k hk=>by
      cases k with
      | zero=>rw [q7c];exact hz.2
      | succ k=>exact hA k (by omega)
    refine .inr ⟨?_,?_⟩
    · have key:=q4u (f:=q4e l) (fun k=>(zAt z l k,(k : Int),(foldM putB initM ((stepsS z l).take k)).sec,((foldM putB initM ((stepsS z l).take k)).done.length : Int),(foldM putB initM ((stepsS z l).take k)).hi,(foldM putB initM ((stepsS z l).take k)).flat putB)) l.length
        (.inl ((foldM putB initM (stepsS z l)).sec,((foldM putB initM (stepsS z l)).done.length : Int),(foldM putB initM (stepsS z l)).hi,(foldM putB initM (stepsS z l)).flat putB)) (fun k hk=>stepA k hk (hA' k hk) (hA k hk)) (by
          rw [← hlen,List.take_length,hlen]
          simp only [q4e,dnl,cond_false]) (Nat.zero_le _)
      have e0:=q7c z l
      simp only [List.take_zero,e0] at key
      exact key
    · have key := q4u (f := q4t l) (fun k => (zAt z l k, (k : Int), bxs ((stepsS z l).take k))) l.length (.inl (bxs (stepsS z l))) (fun k hk => stepB k hk (hA' k hk) (hA k hk)) (by
          rw [← hlen,List.take_length,hlen]
          simp only [q4t,dnl,cond_false]) (Nat.zero_le _)
      have e0:=q7c z l
      simp only [List.take_zero,e0] at key
      exact key
  · have h2 : ∃ k,(k < l.length∧¬ zAt z l (k + 1)≤1000000)∧∀ j,j < k→¬ (j < l.length∧¬ zAt z l (j + 1)≤1000000):=by
      have : ∃ k,k < l.length∧¬ zAt z l (k + 1)≤1000000:=by
        refine Classical.byContradiction fun hn=>hA fun k hk=>?_
        exact Classical.byContradiction fun h=>hn ⟨k,hk,h⟩
      obtain ⟨k,hk⟩:=this
      induction k using Nat.strongRecOn with
      | _ k ih=>
        by_cases hj : ∃ j,j < k∧(j < l.length∧¬ zAt z l (j + 1)≤1000000)
        · obtain ⟨j,h1,h2⟩:=hj;exact ih j h1 h2
        · exact ⟨k,hk,fun j h1 h2=>hj ⟨j,h1,h2⟩⟩
    obtain ⟨K,⟨hK,hbad⟩,hmin⟩:=h2
    have hA : ∀ k,k < K→zAt z l (k + 1)≤1000000:=fun k hk=>Classical.byContradiction fun h=>hmin k hk ⟨by omega,h⟩
    have hA' : ∀ k,k≤K→zAt z l k≤1000000:=fun k hk=>by
      cases k with
      | zero=>rw [q7c];exact hz.2
      | succ k=>exact hA k (by omega)
    have hd : decide (zAt z l (K + 1) > 1000000) = true:=decide_eq_true (by omega)
    refine .inl ⟨?_,?_⟩
    · have key:=q4u (f:=q4e l) (fun k=>(zAt z l k,(k : Int),(foldM putB initM ((stepsS z l).take k)).sec,((foldM putB initM ((stepsS z l).take k)).done.length : Int),(foldM putB initM ((stepsS z l).take k)).hi,(foldM putB initM ((stepsS z l).take k)).flat putB)) K
        (.inr ([],16)) (fun k hk=>stepA k (by omega) (hA' k (by omega)) (hA k hk)) (by
          simp only [q4e,dlt hK,cond_true,q13 hK,Option.bind_some,ha K hK (hA' K (Nat.le_refl _)),hd]) (Nat.zero_le _)
      have e0:=q7c z l
      simp only [List.take_zero,e0] at key
      exact key
    · have key := q4u (f := q4t l) (fun k => (zAt z l k, (k : Int), bxs ((stepsS z l).take k))) K (.inr ([], 16)) (fun k hk => stepB k (by omega) (hA' k (by omega)) (hA k hk)) (by
          simp only [q4t,dlt hK,cond_true,q13 hK,Option.bind_some,ha K hK (hA' K (Nat.le_refl _)),hd]) (Nat.zero_le _)
      have e0:=q7c z l
      simp only [List.take_zero,e0] at key
      exact key
theorem qo3 (l : List qs) (z : Int) : ∃ r,q8p l z = some r∧qak l z = some r∧r.1.length≤400:=by
  unfold q8p qak
  by_cases hn : 100 < l.length
  · have : decide ((l.length : Int) > 100) = true:=decide_eq_true (by omega)
    rw [this];exact ⟨_,rfl,rfl,by simp⟩
  have : decide ((l.length : Int) > 100) = false:=decide_eq_false (by omega)
  rw [this]
  simp only [cond_false]
  rcases qlo l (by omega) with ⟨hc,e1,e2⟩ | ⟨r,e1,e2,e3⟩
  case inr=>exact ⟨r,by rw [e1];rfl,by rw [e2];rfl,by rw [e3];simp⟩
  rw [e1,e2]
  simp only [Option.bind_some,qdq,qig l (by omega),qjw l (by omega)]
  by_cases hz : fineZ z
  case neg=>
    refine ⟨([],2),by simp [hz],?_,by simp⟩
    have : ((cond (decide (z < (-1000000))) (some true) (some (decide (z > 1000000))))) = some true:=by
      by_cases h : z < -1000000
      · simp [h]
      · have : z > 1000000:=by unfold fineZ at hz;omega
        simp [h,this]
    rw [this];rfl
  have hz2 : ((cond (decide (z < (-1000000))) (some true) (some (decide (z > 1000000))))) = some false:=by
    have h1 : ¬ z < -1000000:=by have:=hz.1;omega
    have h2 : ¬ z > 1000000:=by have:=hz.2;omega
    simp [h1,h2]
  rw [hz2]
  simp only [hz,decide_true,Bool.not_true,cond_false,Option.bind_some]
  cases hany : l.any badH
  case true=>exact ⟨([],2),rfl,rfl,by simp⟩
  simp only [cond_false,Bool.false_eq_true,if_false]
  have hH : ∀ s∈l,1≤s.Height∧s.Height≤1000000:=by
    intro s hs
    have:=(List.any_eq_false.1 hany) s hs
    simp only [badH,Bool.or_eq_true,decide_eq_true_eq] at this
    omega
  have hR : ∀ s∈l,s.Region.length≤400:=fun s hs=>(q9e (hc s hs)).1
  rcases qo2 (by omega) hz hH hR with ⟨e1,e2⟩ | ⟨e1,e2⟩
  · exact ⟨([],16),by rw [e1];rfl,by rw [e2];rfl,by simp⟩
  · obtain ⟨ok,hj⟩:=qln (z:=z) (by omega) (fun s hs=>(hH s hs).1) hc
    rw [e1,e2]
    simp only [Option.bind_some,hj]
    by_cases h4 : (((foldM putB initM (stepsS z l)).flat putB).length : Int) > 400
    · rw [decide_eq_true h4];exact ⟨_,rfl,rfl,by simp⟩
    · rw [decide_eq_false h4];exact ⟨_,rfl,rfl,by simp only;omega⟩
theorem qpc (p : List api_Rect) (a b : Int) : (prismR p a b).1.length≤400:=by
  unfold prismR
  split
  · simp
  · split
    · rename_i h _;have:=(q9e (by omega : checkR p = 0)).1;simp;omega
    · simp
theorem qpd (l : List qs) (hl : l.length≤9223372036854775807) : ∃ b,qai l = some b∧(b = false→∀ s∈l,s.Region.length≤12):=by
  unfold qai
  have hs : ∀ (k : Nat) (h : k < l.length),q5r l (k : Int) = some (if (fun s : qs=>decide ((s.Region.length : Int) > 12)) l[k] = true then .inr (.inr true) else .inl ((k + 1 : Nat) : Int)):=by
    intro k h
    have hw : w64 ((k : Int) + 1) = ((k + 1 : Nat) : Int):=by rw [qy (by omega)];omega
    simp only [q5r,dlt h,cond_true,q13 h,Option.bind_some,hw]
    by_cases hv : (l[k].Region.length : Int) > 12 <;> simp [hv]
  have hd : q5r l (l.length : Int) = some (.inr (.inl ())):=by simp only [q5r,dnl,cond_false]
  rcases findLoop l (fun s : qs=>decide ((s.Region.length : Int) > 12)) (fun _ _=>true) () (q5r l) hs hd with ⟨h1,h2⟩ | ⟨k,hk,hc,_,h2⟩
  · rw [h2]
    have h3 : ∀ s∈l,s.Region.length≤12:=fun s hs=>by have:=h1 s hs;simp at this;omega
    simp only [Option.bind_some]
    cases decide ((l.length : Int) > 12) <;> cases decide ((l.length : Int)≤100) <;> cases decide ((l.length : Int) > 120) <;> exact ⟨_,rfl,fun _=>h3⟩
  · rw [h2];exact ⟨true,rfl,fun h=>by cases h⟩
theorem raisePrisms (p : List api_Rect) (a b : Int) (l : List qs) (hl : l.length≤9223372036854775807) : q7s p a b l = some true:=by
  unfold q7s
  have hg : ∃ g,qah p = some g:=by
    unfold qah
    simp only [qj1,Option.bind_some]
    exact ⟨_,rfl⟩
  obtain ⟨g,hg⟩:=hg
  obtain ⟨g2,hg2,_⟩:=qpd l hl
  obtain ⟨r,s1,s2,s3⟩:=qo3 l a
  rw [hg,hg2]
  simp only [Option.bind_some]
  cases g
  case true=>rfl
  simp only [cond_false,Option.bind_some]
  cases g2
  case true=>rfl
  have hp:=qpc p a b
  simp only [cond_false,qid,qlk,s1,s2,Option.bind_some,sameBox (prismR p a b).1 _ (by omega),decide_true,cond_true,beq_self_eq_true]
  simp only [sameBox r.1 _ (by omega),decide_true,Option.bind_some,cond_true]
end Go.Sh
