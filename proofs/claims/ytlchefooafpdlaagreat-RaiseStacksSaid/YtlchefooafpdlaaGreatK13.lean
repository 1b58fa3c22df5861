/- Pt8a Ru1 Ru2 Ru3 -/
import Derived.Test.YtlchefooafpdlaaGreatK12
namespace Go.Sh
open Go Go.Am
theorem qsw (s : Mg qf qj) (a b : Int) (c : List qf) (hl : (s.flat putB).length + c.length≤1000000) :
    q7k (s.flat putB) s.sec (s.done.length : Int) s.hi a b c = some ((addM putB s a b c).sec,((addM putB s a b c).done.length : Int),(addM putB s a b c).hi,(addM putB s a b c).flat putB):=by
  have hfl : (s.flat putB).length = s.done.length + s.sec.length:=by simp [Mg.flat]
  have hsec : s.sec.length≤1000000:=by omega
  unfold q7k
  rcases U9 putB s a b c with ⟨h1,h2,h3,h4⟩ | ⟨h1,h4⟩
  · have hb : decide ((c.length : Int) > 0) = true:=decide_eq_true (by have:=List.length_pos_iff.2 h1;omega)
    have he : (s.hi == a) = true:=by simpa using h3
    rw [h2] at hb
    rw [h4,h2]
    simp only [hb,cond_true,he,Option.bind_some,q46 _ _ hsec,decide_true]
    have:=q9q (fun v : qj=>({Lo:=v.Lo,Hi:=({X:=v.Hi.X,Y:=v.Hi.Y,Z:=b} : qh)} : qj)) s.done (s.sec.map (putB s.lo s.hi)) (by simp;omega) (q4s b) (fun k o hk ho=>by
      have h5 : (s.done ++ s.sec.map (putB s.lo s.hi)).length = (s.flat putB).length:=rfl
      simp only [q4s,dlt hk,cond_true,Qj hk,Option.bind_some,w64s hk (by omega),Int.toNat_natCast]) (fun o=>by simp only [q4s,dnl,cond_false])
    rw [show s.flat putB = s.done ++ s.sec.map (putB s.lo s.hi) from rfl,this]
    simp only [Option.bind_some,Mg.flat,List.map_map]
    rfl
  · rw [h4]
    have hc : ((cond (decide ((c.length : Int) > 0)) (some (s.hi == a)) (some false)).bind fun c101=>(cond c101 ((U2 s.sec c).bind fun r121=>some r121) (some false))) = some false:=by
      by_cases h5 : c = []
      · subst h5;simp
      · have hb : decide ((c.length : Int) > 0) = true:=decide_eq_true (by have:=List.length_pos_iff.2 h5;omega)
        simp only [hb,cond_true,Option.bind_some,q46 _ _ hsec]
        by_cases h6 : s.hi = a
        · have h7 : s.sec≠c:=fun h=>h1 ⟨h5,h.symm,h6⟩
          simp [h6,h7]
        · have : (s.hi == a) = false:=by simpa using h6
          simp [this]
    have hap:=q2s c (putB a b) (s.flat putB) (fun o=>(c,((s.flat putB).length : Int),b,o)) (q4t c a b (s.flat putB)) (fun k hk o ho=>by
      simp only [q4t,dlt hk,cond_true,Qj hk,Option.bind_some,w64s hk (by omega)]
      rw [Ku (by simp;omega)]
      rfl) (fun o=>by simp only [q4t,dnl,cond_false])
    rw [← Option.bind_assoc,hc]
    simp only [Option.bind_some,cond_false,hap]
    simp [Mg.flat]
def zAt : Int→List Qe→Nat→Int
  | z,[],_=>z
  | z,_::_,0=>z
  | z,s::r,k + 1=>zAt (z + s.Height) r k
theorem Zp (z : Int) (l : List Qe) : zAt z l 0 = z:=by cases l <;> rfl
theorem q12 : ∀ (l : List Qe) (z : Int) (k : Nat) (h : k < l.length),zAt z l (k + 1) = zAt z l k + l[k].Height
  | [],_,_,h=>absurd h (by simp)
  | s::r,z,0,_=>by simp [zAt,Zp]
  | s::r,z,k + 1,h=>by
    have:=q12 r (z + s.Height) k (by simpa using h)
    simpa [zAt] using this
def Qt : Int→List Qe→List (Int × Int × List qf)
  | _,[]=>[]
  | z,s::r=>(z,z + s.Height,s.Region)::Qt (z + s.Height) r
theorem qbc : ∀ (l : List Qe) (z : Int),(Qt z l).length = l.length
  | [],_=>rfl
  | s::r,z=>by simp [Qt,qbc r]
theorem qbb : ∀ (l : List Qe) (z : Int) (k : Nat) (h : k < l.length) (h' : k < (Qt z l).length),(Qt z l)[k] = (zAt z l k,zAt z l (k + 1),l[k].Region)
  | [],_,_,h,_=>absurd h (by simp)
  | s::r,z,0,_,_=>by simp [Qt,zAt,Zp]
  | s::r,z,k + 1,h,h'=>by
    have:=qbb r (z + s.Height) k (by simpa using h) (by simpa [Qt] using h')
    simpa [Qt,zAt] using this
def zL : Int→List Qe→List Int
  | z,[]=>[z]
  | z,s::r=>z::zL (z + s.Height) r
theorem ql5 (z : Int) (l : List Qe) : ∃ t,zL z l = z::t:=by cases l <;> exact ⟨_,rfl⟩
end Go.Sh
namespace Go.Sh
open Go Go.Am
theorem qee (a b : List qj) : volL (a ++ b) = volL a + volL b:=qbf _ _ _
theorem qbh (s : List qf) (lo hi : Int) : volL (s.map (putB lo hi)) = Yg s * (hi - lo):=by
  unfold volL Yg
  rw [qyf]
  induction s with
  | nil=>simp [sumL]
  | cons r s ih=>rw [sumL,sumL,ih,Int.add_mul];rfl
theorem qyu (s : Mg qf qj) (a b : Int) (c : List qf) : volL ((addM putB s a b c).flat putB) = volL (s.flat putB) + Yg c * (b - a):=by
  rcases U9 putB s a b c with ⟨h1,h2,h3,h4⟩ | ⟨h1,h4⟩
  · rw [h4]
    have e1 : (⟨s.done,s.sec,s.lo,b⟩ : Mg qf qj).flat putB = s.done ++ s.sec.map (putB s.lo b):=rfl
    have e2 : s.flat putB = s.done ++ s.sec.map (putB s.lo s.hi):=rfl
    rw [e1,e2,qee,qee,qbh,qbh,h2,h3]
    simp only [Int.mul_sub]
    omega
  · rw [h4]
    have e1 : (⟨s.flat putB,c,a,b⟩ : Mg qf qj).flat putB = s.flat putB ++ c.map (putB a b):=rfl
    rw [e1,qee,qbh]
theorem qky : ∀ (t : List (Int × Int × List qf)) (s : Mg qf qj),volL ((Qo putB s t).flat putB) = volL (s.flat putB) + sumL (fun x=>Yg x.2.2 * (x.2.1 - x.1)) t
  | [],s=>by simp [Qo,sumL]
  | x::t,s=>by
    have e : Qo putB s (x::t) = Qo putB (addM putB s x.1 x.2.1 x.2.2) t:=rfl
    rw [e,qky t,qyu,sumL,Int.add_assoc]
theorem qaf {p : List qf} (hp : K1 p = 0) {a b : Int} (ha : Kp a) (hb : Kp b) (hab : a < b) : Kc (p.map (putB a b)) = 0:=by
  obtain ⟨h1,h2,h3⟩:=Ub.1 hp
  refine Ua.2 ⟨by simpa using h1,fun c hc=>?_,?_⟩
  · obtain ⟨r,hr,rfl⟩:=List.mem_map.1 hc
    have:=h2 r hr
    unfold Kp at ha hb
    unfold vR at this
    unfold vB putB
    simp only
    omega
  · by_cases he : p = []
    · subst he;exact CanB.nil
    · refine ⟨[⟨a,b,p⟩],by simp [Kb],⟨?_,by simp⟩,?_⟩
      · intro g hg
        obtain rfl:=List.mem_singleton.1 hg
        exact ⟨hab,he⟩
      · intro g hg
        obtain rfl:=List.mem_singleton.1 hg
        exact h3
noncomputable def footprint (s : List qj) : List qf × Int:=if Kc s≠0 then ([],Kc s) else mkR (s.map Yx)
theorem qs1 (s : List qj) : q7h s = some (footprint s):=by
  unfold q7h footprint
  rw [qb2,Option.bind_some]
  by_cases h : ¬ Kc s = 0
  · have : (Kc s != 0) = true:=by simpa using h
    rw [if_pos h,this,cond_true]
  replace h:=Classical.not_not.1 h
  have hl:=(Ua.1 h).1
  rw [if_neg (by simp [h]),h,show ((0 : Int) != 0) = false from rfl,cond_false]
  have:=q2s s Yx [] (fun o=>o) (q4p s) (fun k hk o ho=>by
    simp only [q4p,dlt hk,cond_true,Qj hk,Option.bind_some,w64s hk (by omega)]
    rw [Ku (by simp at ho ⊢;omega)]
    rfl) (fun o=>by simp only [q4p,dnl,cond_false])
  rw [List.nil_append] at this
  rw [this]
  simp only [Option.bind_some,qj3]
def colS (s : List qj) (x y : Int) : List qi:=s.flatMap fun b=>if decide (b.Lo.X≤x∧x < b.Hi.X) && decide (b.Lo.Y≤y∧y < b.Hi.Y) then [{Lo:=b.Lo.Z,Hi:=b.Hi.Z}] else []
theorem qfl (s : List qj) (x y : Int) : (colS s x y).length≤s.length:=by
  unfold colS
  induction s with
  | nil=>simp
  | cons r l ih=>
    simp only [List.flatMap_cons,List.length_append,List.length_cons]
    have : (if (decide (r.Lo.X≤x∧x < r.Hi.X) && decide (r.Lo.Y≤y∧y < r.Hi.Y)) = true then [({Lo:=r.Lo.Z,Hi:=r.Hi.Z} : qi)] else []).length≤1:=by split <;> simp
    omega
theorem qn2 {s : List qj} (h : ∀ b∈s,vB b) (x y : Int) : ∀ t∈colS s x y,vld t:=by
  intro t ht
  unfold colS at ht
  rw [List.mem_flatMap] at ht
  obtain ⟨b,hb,h1⟩:=ht
  split at h1
  · obtain rfl:=List.mem_singleton.1 h1
    have:=h b hb
    unfold vB at this
    unfold vld
    simp only
    omega
  · cases h1
noncomputable def column (s : List qj) (x y : Int) : List qi × Int:=if Kc s≠0 then ([],Kc s) else (Jw 2 (colS s x y) [],0)
theorem qrx (s : List qj) (x y : Int) : q7e s x y = some (column s x y):=by
  unfold q7e column
  rw [qb2,Option.bind_some]
  by_cases h : ¬ Kc s = 0
  · have : (Kc s != 0) = true:=by simpa using h
    rw [if_pos h,this,cond_true]
  replace h:=Classical.not_not.1 h
  obtain ⟨hl,hv,_⟩:=Ua.1 h
  rw [if_neg (by simp [h]),h,show ((0 : Int) != 0) = false from rfl,cond_false]
  have:=U8 s (by omega) (fun b=>if decide (b.Lo.X≤x∧x < b.Hi.X) && decide (b.Lo.Y≤y∧y < b.Hi.Y) then [({Lo:=b.Lo.Z,Hi:=b.Hi.Z} : qi)] else []) [] (fun o=>o) (q4o s x y) (fun k hk o ho=>by
    have h8 : o.length≤k:=by rw [ho,List.nil_append];have:=qfl (s.take k) x y;rw [List.length_take,Nat.min_eq_left (by omega)] at this;exact this
    simp only [q4o,dlt hk,cond_true,Qj hk,Option.bind_some,w64s hk (by omega)]
    by_cases h1 : s[k].Lo.X≤x <;> by_cases h2 : x < s[k].Hi.X <;> by_cases h3 : s[k].Lo.Y≤y <;> by_cases h4 : y < s[k].Hi.Y <;> simp [h1,h2,h3,h4]
    all_goals (rw [Ku (by simp;omega)];rfl)) (fun o=>by simp only [q4o,dnl,cond_false])
  rw [List.nil_append] at this
  have hmk : q2a (colS s x y) = some (Jw 2 (colS s x y) [],0):=by
    have:=qfl s x y
    rw [qhj]
    unfold qa6
    rw [if_neg (by omega),if_pos (qn2 hv x y)]
  rw [this]
  simp only [Option.bind_some]
  rw [show s.flatMap (fun b=>if decide (b.Lo.X≤x∧x < b.Hi.X) && decide (b.Lo.Y≤y∧y < b.Hi.Y) then [({Lo:=b.Lo.Z,Hi:=b.Hi.Z} : qi)] else []) = colS s x y from rfl,hmk]
  rfl
theorem qo7 {p : List qf} (hp : K1 p = 0) {a b : Int} (ha : Kp a) (hb : Kp b) (hab : a < b) : footprint (p.map (putB a b)) = (p,0):=by
  obtain ⟨h1,h2,h3⟩:=Ub.1 hp
  unfold footprint
  rw [if_neg (by simp [qaf hp ha hb hab])]
  have e : (p.map (putB a b)).map Yx = p:=by rw [List.map_map];exact List.map_id p
  rw [e,mkR,if_neg (by omega),if_pos h2,qhx (by omega) h3,if_neg (by omega)]
theorem qu2 {p : List qf} (hp : K1 p = 0) {a b z : Int} (ha : Kp a) (hb : Kp b) (hz : a≤z∧z < b) : qar (p.map (putB a b)) z = (p,0):=by
  unfold qar
  rw [if_neg (by simp [qaf hp ha hb (by omega)]),qez,if_pos hz]
theorem qrw (ha : q2r = some true) (p : List qf) (a b z : Int) : q6x p a b z = some true:=by
  unfold q6x
  rw [ha]
  simp only [Option.bind_some,q79,Bool.not_true]
  by_cases h1 : p.length > 60
  · rw [decide_eq_true (by omega : (p.length : Int) > 60)];rfl
  rw [decide_eq_false (by omega : ¬ (p.length : Int) > 60),cond_false]
  by_cases h2 : ¬ K1 p = 0
  · have : (K1 p != 0) = true:=by simpa using h2
    rw [this];rfl
  replace h2:=Classical.not_not.1 h2
  rw [h2]
  by_cases h3 : a < -1000
  · rw [decide_eq_true h3];rfl
  rw [decide_eq_false h3]
  by_cases h4 : b > 1000
  · rw [decide_eq_true h4];rfl
  rw [decide_eq_false h4]
  by_cases h5 : a > z
  · rw [decide_eq_true h5];rfl
  rw [decide_eq_false h5]
  by_cases h6 : z ≥ b
  · rw [decide_eq_true h6];rfl
  rw [decide_eq_false h6]
  have fa : Kp a:=by unfold Kp;omega
  have fb : Kp b:=by unfold Kp;omega
  have hab : a < b:=by omega
  have hpr : q74 p a b = (p.map (putB a b),0):=by unfold q74;rw [if_neg (by simp [h2]),if_pos ⟨fa,fb,hab⟩]
  have hlen:=(Ub.1 h2).1
  have bd:=qbv h2
  have hv:=qbh p a b
  have hbd:=qkx (qaf h2 fa fb hab)
  have hw : volL (p.map (putB a b)) = w64 (Yg p * w64 (b - a)):=by
    rw [qz (x:=b - a) (by omega),qz (by omega),hv]
  simp only [show ((0 : Int) != 0) = false from rfl,cond_false,Option.bind_some,qix,hpr,qea,volume,qaf h2 fa fb hab,qj1,area,h2,qs1,qo7 h2 fa fb hab,qxa,qu2 (z:=z) h2 fa fb ⟨by omega,by omega⟩,ne_eq,not_true_eq_false,if_false,beq_self_eq_true,cond_true,qjg p p (by omega),decide_true,hw]
end Go.Sh
namespace Go.Sh
open Go Go.Am
def badH (s : Qe) : Bool:=decide (s.Height < 1) || decide (s.Height > 1000000)
theorem qy1 (s : Qe) : Ut s = some (badH s):=by
  unfold Ut badH
  by_cases h : s.Height < 1 <;> simp [h]
theorem qy3 (l : List Qe) (hl : l.length≤100) : q7s l (fun x0=>Ut x0) = some (l.any badH):=by
  have hs : ∀ (k : Nat) (h : k < l.length),q3h l (fun x0=>Ut x0) (k : Int) = some (if badH l[k] = true then .inr (.inr (k : Int)) else .inl ((k + 1 : Nat) : Int)):=by
    intro k h
    simp only [q3h,dlt h,cond_true,Qj h,Option.bind_some,w64s h (by omega : l.length≤1000000),qy1]
    cases badH l[k] <;> simp
  have hd : q3h l (fun x0=>Ut x0) (l.length : Int) = some (.inr (.inl ())):=by simp only [q3h,dnl,cond_false]
  unfold q7s qaz
  rcases Ue l badH (fun k _=>(k : Int)) () _ hs hd with ⟨h1,h2⟩ | ⟨k,hk,hc,_,h2⟩
  · rw [h2]
    have : l.any badH = false:=by
      rw [List.any_eq_false];intro x hx;simp [h1 x hx]
    rw [this];rfl
  · rw [h2]
    have : l.any badH = true:=List.any_eq_true.2 ⟨_,List.getElem_mem hk,hc⟩
    rw [this]
    simp only [Option.bind_some]
    rw [decide_eq_true (by omega)]
theorem qy2 {l : List Qe} (hl : l.length≤100) (hc : ∀ s∈l,K1 s.Region = 0) : loop (q38 l) 0 = some (.inl ()):=
  Z9 (f:=q38 l) (fun k=>(k : Int)) l.length _ (fun k hk=>by
    simp only [q38,dlt hk,cond_true,Qj hk,Option.bind_some,w64s hk (by omega : l.length≤1000000),qdt,hc _ (List.getElem_mem hk)];rfl) (by simp only [q38,dnl,cond_false]) (Nat.zero_le _)
def HOk (l : List Qe) : Prop:=∀ s∈l,1≤s.Height
noncomputable def Yk (l : List Qe) (z : Int) : List qj:=(Qo putB Qn (Qt z l)).flat putB
theorem qkg {l : List Qe} {z : Int} {x : Int × Int × List qf} (hx : x∈Qt z l) : ∃ s∈l,x.2.2 = s.Region:=by
  obtain ⟨k,hk,rfl⟩:=List.getElem_of_mem hx
  rw [qbc] at hk
  rw [qbb l z k hk]
  exact ⟨_,List.getElem_mem hk,rfl⟩
theorem qy4 {l : List Qe} {z : Int} (hn : l.length≤100) (hz : Kp z) (hH : ∀ s∈l,1≤s.Height∧s.Height≤1000000) (hR : ∀ s∈l,s.Region.length≤400) (hA : ∀ k,k≤l.length→zAt z l k≤1000000) :
    loop (q39 l) (z,0,[],0,0,[]) = some (.inl ((Qo putB Qn (Qt z l)).sec,((Qo putB Qn (Qt z l)).done.length : Int),(Qo putB Qn (Qt z l)).hi,Yk l z)):=by
  have hlen:=qbc l z
  have hM : ∀ t∈Qt z l,t.2.2.length≤400:=fun x hx=>by
    obtain ⟨s,hs,e⟩:=qkg hx
    rw [e];exact hR s hs
  have hml : ∀ i,((Qo putB Qn ((Qt z l).take i)).flat putB).length≤40000:=fun i=>by
    have h1:=q9t putB (s0:=Qn) (M:=400) (steps:=(Qt z l).take i) (fun t ht=>hM t (List.mem_of_mem_take ht))
    have h2 : ((Qt z l).take i).length≤100:=by rw [List.length_take];omega
    have h3 : (Qn.flat putB : List qj).length = 0:=rfl
    have h4 : ((Qt z l).take i).length * 400≤100 * 400:=Nat.mul_le_mul_right _ h2
    omega
  have hlow : ∀ k,k≤l.length→-1000000≤zAt z l k:=by
    intro k
    induction k with
    | zero=>intro _;rw [Zp];exact hz.1
    | succ k ih=>
      intro hk
      rw [q12 l z k (by omega)]
      have:=hH _ (List.getElem_mem (by omega : k < l.length))
      have:=ih (by omega)
      omega
  have key:=Z9 (f:=q39 l) (fun k=>(zAt z l k,(k : Int),(Qo putB Qn ((Qt z l).take k)).sec,((Qo putB Qn ((Qt z l).take k)).done.length : Int),(Qo putB Qn ((Qt z l).take k)).hi,(Qo putB Qn ((Qt z l).take k)).flat putB)) l.length
    (.inl ((Qo putB Qn (Qt z l)).sec,((Qo putB Qn (Qt z l)).done.length : Int),(Qo putB Qn (Qt z l)).hi,(Qo putB Qn (Qt z l)).flat putB)) (fun k hk=>by
      have hr:=hR _ (List.getElem_mem hk)
      have hm:=hml k
      have h1:=hA (k + 1) (by omega)
      have hd : decide (zAt z l (k + 1) > 1000000) = false:=decide_eq_false (by omega)
      have ha : w64 (zAt z l k + l[k].Height) = zAt z l (k + 1):=by
        have h2:=hlow k (by omega)
        have h3:=hH _ (List.getElem_mem hk)
        have h4:=hA k (by omega)
        rw [qz (by omega),q12 l z k hk]
      have hadd:=qsw (Qo putB Qn ((Qt z l).take k)) (zAt z l k) (zAt z l (k + 1)) l[k].Region (by omega)
      rw [q6p putB (by omega : k < (Qt z l).length),qbb l z k hk]
      simp only [q39,dlt hk,cond_true,Qj hk,Option.bind_some,ha,hd,cond_false,hadd,w64s hk (by omega : l.length≤1000000)]) (by
      rw [← hlen,List.take_length,hlen]
      simp only [q39,dnl,cond_false]) (Nat.zero_le _)
  have e0:=Zp z l
  simp only [List.take_zero,e0] at key
  exact key
theorem qkc {l : List Qe} {z : Int} (hn : l.length≤100) (hz : Kp z) (hc : ∀ s∈l,K1 s.Region = 0) (hH : ∀ s∈l,1≤s.Height∧s.Height≤1000000) (hA : ∀ k,k≤l.length→zAt z l k≤1000000) (hl : (Yk l z).length≤400) :
    q1t l z = some (Yk l z,0):=by
  unfold q1t
  have : decide ((l.length : Int) > 100) = false:=decide_eq_false (by omega)
  rw [this,cond_false,qy2 hn hc]
  have hany : l.any badH = false:=by
    rw [List.any_eq_false]
    intro s hs
    have:=hH s hs
    simp only [badH,Bool.or_eq_true,decide_eq_true_eq]
    omega
  simp only [Option.bind_some,qj0,qy3 l hn,hany,decide_eq_true hz,Bool.not_true,cond_false,qy4 hn hz hH (fun s hs=>(Ub.1 (hc s hs)).1) hA]
  rw [decide_eq_false (by omega : ¬ ((Yk l z).length : Int) > 400)]
  rfl
theorem ql6 : ∀ (l : List Qe) (z : Int),HOk l→∀ x∈zL z l,z≤x
  | [],z,_,x,hx=>by simp only [zL,List.mem_singleton] at hx;omega
  | s::r,z,h,x,hx=>by
    have hs:=h s (by simp)
    rcases List.mem_cons.1 hx with hx | hx
    · omega
    · have:=ql6 r (z + s.Height) (fun t ht=>h t (by simp [ht])) x hx;omega
theorem ql7 : ∀ (l : List Qe) (z : Int),HOk l→(zL z l).Pairwise (· < ·)
  | [],z,_=>by simp [zL]
  | s::r,z,h=>by
    have hs:=h s (by simp)
    have hr : HOk r:=fun t ht=>h t (by simp [ht])
    refine List.pairwise_cons.2 ⟨fun x hx=>?_,ql7 r _ hr⟩
    have:=ql6 r _ hr x hx
    omega
def secS : Int→List Qe→Int→List qf
  | _,[],_=>[]
  | z,s::r,x=>if x < z + s.Height then s.Region else secS (z + s.Height) r x
def Zj : Int→List Qe→Int→List qf
  | _,[],_=>[]
  | z,s::r,x=>if z≤x∧x < z + s.Height then s.Region else Zj (z + s.Height) r x
theorem qkf : ∀ (l : List Qe) (z : Int) (sec : Int→List qf),HOk l→(∀ x,z≤x→sec x = secS z l x)→Kt (zL z l) sec = Qt z l
  | [],z,sec,_,_=>rfl
  | s::r,z,sec,h,hs=>by
    obtain ⟨t,ht⟩:=ql5 (z + s.Height) r
    have h0:=h s (by simp)
    have ih:=qkf r (z + s.Height) sec (fun x hx=>h x (by simp [hx])) (fun x hx=>by
      rw [hs x (by omega),secS,if_neg (by omega)])
    have e : Kt (zL z (s::r)) sec = (z,z + s.Height,sec z)::Kt (zL (z + s.Height) r) sec:=by
      rw [zL,ht];rfl
    rw [e,ih,hs z (by omega),secS,if_pos (by omega),Qt]
theorem qjk : ∀ (l : List Qe) (z : Int) (sec : Int→List qf),HOk l→(∀ x,z≤x→sec x = secS z l x)→∀ x,secC sec (zL z l) x = Zj z l x
  | [],z,sec,_,_,x=>rfl
  | s::r,z,sec,h,hs,x=>by
    obtain ⟨t,ht⟩:=ql5 (z + s.Height) r
    have h0:=h s (by simp)
    have ih:=qjk r (z + s.Height) sec (fun x hx=>h x (by simp [hx])) (fun x hx=>by
      rw [hs x (by omega),secS,if_neg (by omega)]) x
    have e0 : sec z = s.Region:=by rw [hs z (by omega),secS,if_pos (by omega)]
    rw [zL,Zj]
    rw [ht] at ih ⊢
    rw [secC,ih,e0]
theorem qdk : ∀ (l : List Qe) (z x : Int),Zj z l x = []∨∃ s∈l,Zj z l x = s.Region
  | [],_,_=>.inl rfl
  | s::r,z,x=>by
    rw [Zj]
    split
    · exact .inr ⟨s,by simp,rfl⟩
    · rcases qdk r (z + s.Height) x with h | ⟨t,ht,h⟩
      · exact .inl h
      · exact .inr ⟨t,by simp [ht],h⟩
theorem q2d (z : Int) (s : Qe) (r : List Qe) (k : Nat) : zAt z (s::r) (k + 1) = zAt (z + s.Height) r k:=rfl
theorem qik : ∀ (l : List Qe) (z x : Int) (a b : Int),hasR (Zj z l x) a b→HOk l→z≤x∧x < zAt z l l.length
  | [],z,x,a,b,h,_=>absurd h (q4b a b)
  | s::r,z,x,a,b,h,hh=>by
    rw [Zj] at h
    have h0:=hh s (by simp)
    have hr : HOk r:=fun x hx=>hh x (by simp [hx])
    have hge : z + s.Height≤zAt (z + s.Height) r r.length:=by
      have : ∀ (r : List Qe) (z : Int),HOk r→z≤zAt z r r.length:=by
        intro r
        induction r with
        | nil=>intro z _;exact Int.le_refl _
        | cons t r ih=>intro z h;have:=ih (z + t.Height) (fun x hx=>h x (by simp [hx]));have:=h t (by simp);rw [List.length_cons,q2d];omega
      exact this r _ hr
    rw [List.length_cons,q2d]
    split at h
    · omega
    · have:=qik r _ x a b h hr;omega
theorem qkb {l : List Qe} {z : Int} (h : HOk l) (hc : ∀ s∈l,K1 s.Region = 0) : CanB (Yk l z)∧∀ x,atB (Yk l z) x = Zj z l x:=by
  obtain ⟨gs,e1,e2,e3⟩:=qd4 (put:=putB) (secS z l) (ql7 l z h)
  rw [qkf l z _ h fun _ _=>rfl] at e1
  have e4 : ∀ x,secG gs x = Zj z l x:=fun x=>by rw [e3,qjk l z _ h fun _ _=>rfl]
  have e1 : Yk l z = Kb putB gs:=e1
  refine ⟨⟨gs,e1,e2,fun g hg=>?_⟩,fun x=>by rw [e1,q41 e2,e4]⟩
  have h1:=e4 g.lo
  rw [qaq e2 g hg _ (Int.le_refl _) (e2.1 g hg).1] at h1
  rw [h1]
  rcases qdk l z g.lo with e | ⟨s,hs,e⟩
  · rw [e];exact CanR.nil
  · rw [e];exact (Ub.1 (hc s hs)).2.2
theorem qka {l : List Qe} {z : Int} (h : HOk l) (hc : ∀ s∈l,K1 s.Region = 0) (x y w : Int) : hasB (Yk l z) x y w↔hasR (Zj z l w) x y:=by
  rw [← q1k,(qkb h hc).2]
theorem qxz {l : List Qe} {z : Int} (h : HOk l) (hc : ∀ s∈l,K1 s.Region = 0) (hz : -1000000≤z) (hA : zAt z l l.length≤1000000) (hl : (Yk l z).length≤400) : Kc (Yk l z) = 0:=by
  have hcan:=(qkb (z:=z) h hc).1
  refine Ua.2 ⟨hl,hcan.vB fun x y w hh=>?_,hcan⟩
  have h1:=(qka h hc x y w).1 hh
  have h2:=qik l z w x y h1 h
  rcases qdk l z w with e | ⟨s,hs,e⟩
  · rw [e] at h1;exact absurd h1 (q4b x y)
  · rw [e] at h1
    have h3:=qyq (Ub.1 (hc s hs)).2.1 x y h1
    exact ⟨h3.1,h3.2,by omega,by omega⟩
theorem qy0 (l : List Qe) (z : Int) : volL (Yk l z) = sumL (fun x=>Yg x.2.2 * (x.2.1 - x.1)) (Qt z l):=by
  have e : volL (Qn.flat putB : List qj) = 0:=rfl
  rw [Yk,qky,e,Int.zero_add]
def qze : Q2 × Q2 × Q2 × Q2 × Q2 × Q2:=(Y3,Y3,Y3,Y3,Y3,Y3)
theorem qs4 {s : Q2} (ht : 0≤s.Frame.Turn) : q7i s = some (if SOk s then 0 else 8):=by
  unfold q7i
  by_cases hs : SOk s
  · obtain ⟨u,hu⟩ : ∃ u : Nat,s.Frame.Turn = u:=⟨s.Frame.Turn.toNat,by omega⟩
    have h : Zf s ⟨0,0,0⟩ ⟨0,0,0⟩ ((0 : Nat) : Int) = _:=qem (t:=0) hu hs (by omega) (by unfold InV;simp) (by unfold InV;simp)
    have u24 : u < 24:=by have:=hs.1.1;omega
    rw [qn4 u u24,qox,← hu,if_pos hs.1] at h
    have h : Zf s ⟨0,0,0⟩ ⟨0,0,0⟩ 0 = some (⟨⟨s.Frame.Turn,s.Frame.At⟩,⟨0,0,0⟩⟩,0):=h
    rw [h,if_pos hs];rfl
  · rw [ql9 hs,if_neg hs];rfl
theorem qny (s : Q2) : J1 s.Size 0 = some (10,⟨s.Size.X,0,0⟩,⟨s.Size.Y,s.Size.Z,0⟩):=rfl
theorem qnz (s : Q2) : J1 s.Size 1 = some (11,⟨0,0,s.Size.Z⟩,⟨s.Size.Y,s.Size.Z,0⟩):=rfl
theorem qo0 (s : Q2) : J1 s.Size 2 = some (3,⟨0,s.Size.Y,s.Size.Z⟩,⟨s.Size.X,s.Size.Z,0⟩):=rfl
theorem qo1 (s : Q2) : J1 s.Size 3 = some (2,⟨0,0,0⟩,⟨s.Size.X,s.Size.Z,0⟩):=rfl
theorem qo2 (s : Q2) : J1 s.Size 4 = some (0,⟨0,0,s.Size.Z⟩,⟨s.Size.X,s.Size.Y,0⟩):=rfl
theorem qo3 (s : Q2) : J1 s.Size 5 = some (1,⟨0,s.Size.Y,0⟩,⟨s.Size.X,s.Size.Y,0⟩):=rfl
theorem qs9 {s : Q2} {d : Int} {t : Int} {at_ flat : qh} {out : List Q2} {r : Q2 × Int} (hd : d < 6) (hf : J1 s.Size d = some (t,at_,flat)) (hi : Zf s at_ flat t = some r) (hx : ∃ v,idxA 6 out d = some v) :
    q1s (d,out,s.Frame.Turn,s.Frame.At.X,s.Frame.At.Y,s.Frame.At.Z,s.Size.X,s.Size.Y,s.Size.Z) =
      cond (r.2 != 0) (some (.inr (.inr (qze,r.2)))) (some (.inl (w64 (d + 1),out.set d.toNat r.1,s.Frame.Turn,s.Frame.At.X,s.Frame.At.Y,s.Frame.At.Z,s.Size.X,s.Size.Y,s.Size.Z))):=by
  obtain ⟨v,hv⟩:=hx
  have e : q7g d s.Frame.Turn s.Frame.At.X s.Frame.At.Y s.Frame.At.Z s.Size.X s.Size.Y s.Size.Z out = some (r.2,s.Frame.Turn,s.Frame.At.X,s.Frame.At.Y,s.Frame.At.Z,s.Size.X,s.Size.Y,s.Size.Z,out.set d.toNat r.1):=by
    unfold q7g
    have h1 : J1 ({X:=s.Size.X,Y:=s.Size.Y,Z:=s.Size.Z} : qh) d = some (t,at_,flat):=hf
    have h2 : Zf ({Frame:=({Turn:=s.Frame.Turn,At:=({X:=s.Frame.At.X,Y:=s.Frame.At.Y,Z:=s.Frame.At.Z} : qh)} : Qm),Size:=({X:=s.Size.X,Y:=s.Size.Y,Z:=s.Size.Z} : qh)} : Q2) at_ flat t = some r:=hi
    simp only [h1,h2,hv,Option.bind_some]
  unfold q1s
  simp only [decide_eq_true hd,cond_true,e,Option.bind_some]
  rfl
theorem idx6 {out : List Q2} (h : out.length = 6) {k : Nat} (hk : k < 6) : ∃ v,idxA 6 out (k : Int) = some v:=by
  unfold idxA
  rw [if_pos ⟨by omega,by omega⟩]
  exact ⟨_,List.getElem?_eq_getElem (by simpa using (by omega : k < out.length))⟩
def Y7 : Q2:=⟨⟨0,⟨0,0,0⟩⟩,⟨2,3,4⟩⟩
theorem qn5 : ∀ t : Nat,t < 24→Zy t 0 = t:=by decide +kernel
theorem qow (a : qh) : Yw 0 ⟨0,0,0⟩ a = a:=by
  obtain ⟨x,y,z⟩:=a
  unfold Yw addV mulV;rw [qlv];simp
theorem qyk (t : Nat) (a z : qh) (h : t < 24) (ha : InV a (-1000000)) (hz : InV z 0) : Zf Y7 a z (t : Int) = some (⟨⟨(t : Int),a⟩,z⟩,0):=by
  have:=qem (s:=Y7) (u:=0) (t:=t) rfl (by decide) h ha hz
  rw [qn5 t h] at this
  rw [this,show Y7.Frame.At = ⟨0,0,0⟩ from rfl,qow,if_pos ⟨by simp only;omega,ha⟩]
theorem qo4 : ∃ f1 f2 f3 f5,q7f Y7 = some ((⟨⟨10,⟨2,0,0⟩⟩,⟨3,4,0⟩⟩,f1,f2,f3,⟨⟨0,⟨0,0,4⟩⟩,⟨2,3,0⟩⟩,f5),0):=by
  have st : ∀ (k t : Nat) (a z : qh) (out : List Q2),k < 6→t < 24→InV a (-1000000)→InV z 0→J1 Y7.Size (k : Int) = some ((t : Int),a,z)→out.length = 6→
      q1s ((k : Int),out,0,0,0,0,2,3,4) = some (.inl (((k + 1 : Nat) : Int),out.set k ⟨⟨(t : Int),a⟩,z⟩,0,0,0,0,2,3,4)):=by
    intro k t a z out hk ht ha hz hf ho
    have:=qs9 (s:=Y7) (d:=(k : Int)) (by omega) hf (qyk t a z ht ha hz) (idx6 ho hk)
    have hw : w64 ((k : Int) + 1) = ((k + 1 : Nat) : Int):=by rw [qz (by omega)];omega
    rw [hw] at this
    exact this
  refine ⟨⟨⟨11,⟨0,0,4⟩⟩,⟨3,4,0⟩⟩,⟨⟨3,⟨0,3,4⟩⟩,⟨2,4,0⟩⟩,⟨⟨2,⟨0,0,0⟩⟩,⟨2,4,0⟩⟩,⟨⟨1,⟨0,3,0⟩⟩,⟨2,3,0⟩⟩,?_⟩
  unfold q7f
  rw [qs4 (by decide),if_pos (by decide)]
  have h0 : ((0 : Int) != 0) = false:=rfl
  simp only [Option.bind_some,h0,cond_false]
  have e : loop q1s (((0 : Nat) : Int),[Y3,Y3,Y3,Y3,Y3,Y3],0,0,0,0,2,3,4) = some (.inl [⟨⟨10,⟨2,0,0⟩⟩,⟨3,4,0⟩⟩,⟨⟨11,⟨0,0,4⟩⟩,⟨3,4,0⟩⟩,⟨⟨3,⟨0,3,4⟩⟩,⟨2,4,0⟩⟩,⟨⟨2,⟨0,0,0⟩⟩,⟨2,4,0⟩⟩,⟨⟨0,⟨0,0,4⟩⟩,⟨2,3,0⟩⟩,⟨⟨1,⟨0,3,0⟩⟩,⟨2,3,0⟩⟩]):=by
    rw [K2 (st 0 10 _ _ _ (by omega) (by omega) (by decide) (by decide) (qny Y7) rfl)]
    rw [K2 (st 1 11 _ _ _ (by omega) (by omega) (by decide) (by decide) (qnz Y7) rfl)]
    rw [K2 (st 2 3 _ _ _ (by omega) (by omega) (by decide) (by decide) (qo0 Y7) rfl)]
    rw [K2 (st 3 2 _ _ _ (by omega) (by omega) (by decide) (by decide) (qo1 Y7) rfl)]
    rw [K2 (st 4 0 _ _ _ (by omega) (by omega) (by decide) (by decide) (qo2 Y7) rfl)]
    rw [K2 (st 5 1 _ _ _ (by omega) (by omega) (by decide) (by decide) (qo3 Y7) rfl)]
    exact K0 rfl
  replace e : loop q1s (0,[Y3,Y3,Y3,Y3,Y3,Y3],0,0,0,0,2,3,4) = some (.inl [⟨⟨10,⟨2,0,0⟩⟩,⟨3,4,0⟩⟩,⟨⟨11,⟨0,0,4⟩⟩,⟨3,4,0⟩⟩,⟨⟨3,⟨0,3,4⟩⟩,⟨2,4,0⟩⟩,⟨⟨2,⟨0,0,0⟩⟩,⟨2,4,0⟩⟩,⟨⟨0,⟨0,0,4⟩⟩,⟨2,3,0⟩⟩,⟨⟨1,⟨0,3,0⟩⟩,⟨2,3,0⟩⟩]):=e
  unfold Y3 at e
  rw [show Y7.Frame.Turn = 0 from rfl,show Y7.Frame.At.X = 0 from rfl,show Y7.Frame.At.Y = 0 from rfl,show Y7.Frame.At.Z = 0 from rfl,show Y7.Size.X = 2 from rfl,show Y7.Size.Y = 3 from rfl,show Y7.Size.Z = 4 from rfl,e]
  rfl
def rc (a b c d : Int) : qf:={X0:=a,Y0:=b,X1:=c,Y1:=d}
def stL : List Qe:=[{Region:=[rc 0 0 2 2],Height:=1},{Region:=[rc 0 0 1 1],Height:=2}]
def stB : List qj:=[bx 0 0 0 2 2 1,bx 0 0 1 1 1 3]
theorem qf8 {l : List qf} (h : l.length≤400∧(∀ r∈l,vR r)∧isR l) : K1 l = 0:=Ub.2 ⟨h.1,h.2.1,h.2.2.can⟩
theorem qxy : ∀ s∈stL,K1 s.Region = 0:=by
  intro s hs
  simp only [stL,List.mem_cons,List.not_mem_nil,or_false] at hs
  rcases hs with rfl | rfl <;> exact qf8 (by decide)
theorem qk9 : Yk stL 0 = stB:=rfl
theorem qeq : q2r = some true:=by
  have hc : Kc stB = 0:=qf7 (by decide)
  have hp : q37 [rc 0 0 2 3] 1 5 = some ([bx 0 0 1 2 3 5],0):=by
    rw [qix,q74,if_neg (by rw [qf8 (by decide)];simp),if_pos (by unfold Kp;omega)];rfl
  have hpc : Kc [bx 0 0 1 2 3 5] = 0:=qf7 (by decide)
  have hv : volume [bx 0 0 1 2 3 5] = (24,0):=by unfold volume;rw [if_neg (by simp [hpc])];rfl
  have hv2 : volume stB = (6,0):=by unfold volume;rw [if_neg (by simp [hc])];rfl
  have hst : q1t stL 0 = some (stB,0):=by
    rw [qkc (by decide) (by unfold Kp;omega) qxy (by decide) (fun k hk=>?_) (by rw [qk9];decide),qk9]
    have : k = 0∨k = 1∨k = 2:=by have : stL.length = 2:=rfl;omega
    rcases this with rfl | rfl | rfl <;> decide
  have hcol : column stB 0 0 = ([{Lo:=0,Hi:=3}],0):=by
    unfold column
    rw [if_neg (by simp [hc]),show colS stB 0 0 = [{Lo:=0,Hi:=1},{Lo:=1,Hi:=3}] from rfl]
    have hj:=(q4e 2 [({Lo:=0,Hi:=1} : qi),{Lo:=1,Hi:=3}] [] (by simp) (by simp)).2
    have : Jw 2 [({Lo:=0,Hi:=1} : qi),{Lo:=1,Hi:=3}] [] = [{Lo:=0,Hi:=3}]:=q42 hj.1 (by unfold Can;simp) fun x=>by
      rw [hj.2,qcr];unfold has;simp;omega
    rw [this]
  obtain ⟨f1,f2,f3,f5,hf⟩:=qo4
  unfold q2r
  simp only [show q1n 0 0 2 3 = some [rc 0 0 2 3] from rfl,show q1n 0 0 2 2 = some [rc 0 0 2 2] from rfl,show q1n 0 0 1 1 = some [rc 0 0 1 1] from rfl,show qa5 = some Y7 from rfl,Option.bind_some,hp,qea,hv,hf,
    show q1t [({Region:=[rc 0 0 2 2],Height:=1} : Qe),({Region:=[rc 0 0 1 1],Height:=2} : Qe)] 0 = some (stB,0) from hst,hv2,qrx,hcol,qe0 [{Lo:=0,Hi:=3}] [{Lo:=0,Hi:=3}] (by simp)]
  rfl
theorem qzq (p : List qf) (a b z : Int) : q6x p a b z = some true:=qrw qeq p a b z
end Go.Sh
namespace Go.Sh
open Go Go.Am
theorem qop (l : List Qe) (hl : l.length≤9223372036854775807) : ∃ b,q7d l = some b∧(b = false→∀ s∈l,s.Region.length≤12):=by
  unfold q7d
  have hs : ∀ (k : Nat) (h : k < l.length),q1r l (k : Int) = some (if (fun s : Qe=>decide ((s.Region.length : Int) > 12)) l[k] = true then .inr (.inr true) else .inl ((k + 1 : Nat) : Int)):=by
    intro k h
    have hw : w64 ((k : Int) + 1) = ((k + 1 : Nat) : Int):=by rw [qz (by omega)];omega
    simp only [q1r,dlt h,cond_true,Qj h,Option.bind_some,hw]
    by_cases hv : (l[k].Region.length : Int) > 12 <;> simp [hv]
  have hd : q1r l (l.length : Int) = some (.inr (.inl ())):=by simp only [q1r,dnl,cond_false]
  rcases Ue l (fun s : Qe=>decide ((s.Region.length : Int) > 12)) (fun _ _=>true) () (q1r l) hs hd with ⟨h1,h2⟩ | ⟨k,hk,hc,_,h2⟩
  · rw [h2]
    have h3 : ∀ s∈l,s.Region.length≤12:=fun s hs=>by have:=h1 s hs;simp at this;omega
    simp only [Option.bind_some]
    cases decide ((l.length : Int) > 12) <;> cases decide ((l.length : Int)≤100) <;> cases decide ((l.length : Int) > 120) <;> exact ⟨_,rfl,fun _=>h3⟩
  · rw [h2];exact ⟨true,rfl,fun h=>by cases h⟩
def Zw (z : Int) (l : List Qe) (a b w : Int) (k : Nat) : Prop:=∃ j,∃ h : j < l.length,j < k∧(zAt z l j≤w∧w < zAt z l (j + 1))∧hasR l[j].Region a b
noncomputable instance (z : Int) (l : List Qe) (a b w : Int) (k : Nat) : Decidable (Zw z l a b w k):=Classical.propDecidable _
theorem qly {z : Int} {l : List Qe} {a b w : Int} : ¬ Zw z l a b w 0:=by rintro ⟨j,_,h,_⟩;omega
theorem qlx {z : Int} {l : List Qe} {a b w : Int} {k : Nat} (h : k < l.length) : Zw z l a b w (k + 1)↔Zw z l a b w k∨((zAt z l k≤w∧w < zAt z l (k + 1))∧hasR l[k].Region a b):=by
  constructor
  · rintro ⟨j,hj,h1,h2⟩
    by_cases e : j = k
    · subst e;exact .inr h2
    · exact .inl ⟨j,hj,by omega,h2⟩
  · rintro (⟨j,hj,h1,h2⟩ | h2)
    · exact ⟨j,hj,by omega,h2⟩
    · exact ⟨k,h,by omega,h2⟩
theorem qzc {z : Int} {l : List Qe} (h : HOk l) : ∀ k j,j≤k→k≤l.length→zAt z l j≤zAt z l k:=by
  intro k
  induction k with
  | zero=>intro j hj _;have e : j = 0:=(by omega);rw [e];exact Int.le_refl _
  | succ k ih=>
    intro j hj hk
    by_cases e : j = k + 1
    · subst e;exact Int.le_refl _
    · have:=ih j (by omega) (by omega)
      have h1:=h _ (List.getElem_mem (by omega : k < l.length))
      rw [q12 l z k (by omega)];omega
theorem qzd {z : Int} {l : List Qe} (h : ∀ s∈l,s.Height≤100) : ∀ k,k≤l.length→zAt z l k≤z + 100 * k:=by
  intro k
  induction k with
  | zero=>intro _;rw [Zp];omega
  | succ k ih=>
    intro hk
    have:=ih (by omega)
    have h1:=h _ (List.getElem_mem (by omega : k < l.length))
    rw [q12 l z k (by omega)];omega
theorem qij : ∀ (l : List Qe) (z a b w : Int),HOk l→(hasR (Zj z l w) a b↔Zw z l a b w l.length)
  | [],z,a,b,w,_=>⟨fun h=>absurd h (q4b a b),fun ⟨j,h,_⟩=>absurd h (by simp)⟩
  | s::r,z,a,b,w,h=>by
    have hr : HOk r:=fun x hx=>h x (by simp [hx])
    have h0:=h s (by simp)
    have ih:=qij r (z + s.Height) a b w hr
    rw [Zj]
    constructor
    · intro hh
      split at hh
      · rename_i hc
        exact ⟨0,by simp,by simp,⟨by rw [Zp];exact hc.1,by rw [q2d,Zp];exact hc.2⟩,hh⟩
      · obtain ⟨j,hj,_,h2,h3⟩:=ih.1 hh
        exact ⟨j + 1,by simpa using hj,by simpa using hj,by rw [q2d,q2d];exact h2,by simpa using h3⟩
    · rintro ⟨j,hj,_,h2,h3⟩
      cases j with
      | zero=>
        rw [Zp,q2d,Zp] at h2
        rw [if_pos h2];exact h3
      | succ j=>
        rw [q2d,q2d] at h2
        have hj : j < r.length:=by simpa using hj
        have:=qzc (z:=z + s.Height) hr j 0 (by omega) (by omega)
        rw [Zp] at this
        rw [if_neg (by omega)]
        exact ih.2 ⟨j,hj,hj,h2,by simpa using h3⟩
noncomputable def volF (x : Int × Int × List qf) : Int:=Yg x.2.2 * (x.2.1 - x.1)
def stOk (s : Qe) : Prop:=K1 s.Region = 0∧1≤s.Height∧s.Height≤100
theorem qkw : ∀ (t : List (Int × Int × List qf)),(∀ x∈t,0≤volF x∧volF x≤400000000000000)→0≤sumL volF t∧sumL volF t≤400000000000000 * t.length
  | [],_=>by simp [sumL]
  | x::t,h=>by
    have h1:=qkw t fun y hy=>h y (by simp [hy])
    have h2:=h x (by simp)
    rw [sumL,List.length_cons]
    omega
open Classical in
theorem qzp (l : List Qe) (z : Int) (v : qh) (hl : l.length≤9223372036854775807) : qa4 l z v = some true:=by
  unfold qa4
  rw [qeq]
  obtain ⟨b,hb,hb2⟩:=qop l hl
  rw [hb]
  cases b
  case true=>rfl
  have h12:=hb2 rfl
  simp only [Option.bind_some,cond_false]
  by_cases h1 : l.length > 12
  · rw [decide_eq_true (by omega : (l.length : Int) > 12)];rfl
  rw [decide_eq_false (by omega : ¬ (l.length : Int) > 12)]
  by_cases h2 : z < -1000
  · rw [decide_eq_true h2];rfl
  rw [decide_eq_false h2]
  by_cases h3 : z > 1000
  · rw [decide_eq_true h3];rfl
  rw [decide_eq_false h3]
  simp only [Option.bind_some,cond_false,Bool.not_true]
  have hsl:=qbc l z
  have hvol : ∀ k (hk : k < l.length),stOk l[k]→volF (Qt z l)[k] = Yg l[k].Region * l[k].Height∧0≤volF (Qt z l)[k]∧volF (Qt z l)[k]≤400000000000000:=by
    intro k hk ho
    obtain ⟨ho1,ho2,ho3⟩:=ho
    have e : volF (Qt z l)[k] = Yg l[k].Region * l[k].Height:=by
      rw [qbb l z k hk];unfold volF;simp only;rw [q12 l z k hk,show zAt z l k + l[k].Height - zAt z l k = l[k].Height by omega]
    have:=qbv ho1
    rw [e]
    refine ⟨rfl,Int.mul_nonneg this.1 (by omega),?_⟩
    have h4 : Yg l[k].Region * l[k].Height≤4000000000000 * 100:=Int.mul_le_mul this.2 ho3 (by omega) (by omega)
    omega
  have key:=Za (f:=Jx l true v) (σ:=Unit) (fun k _=>(sumL volF ((Qt z l).take k),zAt z l k,decide (Zw z l v.X v.Y v.Z k),(k : Int))) l.length
    (fun k _=>∀ j (h : j < l.length),j < k→stOk l[j]) (fun b=>b = .inr true∨((∀ s∈l,stOk s)∧b = .inl (sumL volF (Qt z l),decide (Zw z l v.X v.Y v.Z l.length)))) ?_ ?_ (k0:=0) (c0:=()) (by omega) (by intro j _ h;omega)
  · obtain ⟨b,h4,h5⟩:=key
    have h4 : loop (Jx l true v) (sumL volF ((Qt z l).take 0),zAt z l 0,decide (Zw z l v.X v.Y v.Z 0),0) = some b:=h4
    rw [Zp,List.take_zero,show sumL volF [] = 0 from rfl,decide_eq_false qly] at h4
    rw [h4]
    rcases h5 with rfl | ⟨hall,rfl⟩
    · rfl
    have hH : HOk l:=fun s hs=>(hall s hs).2.1
    have hc : ∀ s∈l,K1 s.Region = 0:=fun s hs=>(hall s hs).1
    have hup:=qzd (z:=z) (fun s hs=>(hall s hs).2.2)
    have hlen : (Yk l z).length≤400:=by
      have h6:=q9t putB (s0:=Qn) (M:=12) (steps:=Qt z l) (fun t ht=>by obtain ⟨s,hs,e⟩:=qkg ht;rw [e];exact h12 s hs)
      have h7 : (Qn.flat putB : List qj).length = 0:=rfl
      have h8 : (Qt z l).length * 12≤12 * 12:=Nat.mul_le_mul_right _ (by omega)
      unfold Yk;omega
    have hA : ∀ k,k≤l.length→zAt z l k≤1000000:=fun k hk=>by have:=hup k hk;omega
    have hst:=qkc (z:=z) (by omega) (by unfold Kp;omega) hc (fun s hs=>⟨(hall s hs).2.1,by have:=(hall s hs).2.2;omega⟩) hA hlen
    have hck:=qxz (z:=z) hH hc (by omega) (hA _ (by omega)) hlen
    have hhas : decide (hasB (Yk l z) v.X v.Y v.Z) = decide (Zw z l v.X v.Y v.Z l.length):=decide_eq_decide.2 ((qka hH hc v.X v.Y v.Z).trans (qij l z v.X v.Y v.Z hH))
    have hv : volL (Yk l z) = sumL volF (Qt z l):=qy0 l z
    simp only [Option.bind_some,hst,qea,volume,hck,ne_eq,not_true_eq_false,if_false,beq_self_eq_true,cond_true,hv,qx8 (Yk l z) v (by omega),hhas]
  · intro k _ hk hinv
    have hdl : decide ((k : Int) < (l.length : Int)) = true:=decide_eq_true (by omega)
    by_cases c1 : ¬ K1 l[k].Region = 0
    · refine .inr ⟨.inr true,?_,.inl rfl⟩
      have : (K1 l[k].Region != 0) = true:=by simpa using c1
      simp only [Jx,hdl,cond_true,Qj hk,Option.bind_some,q79,this]
    replace c1:=Classical.not_not.1 c1
    by_cases c2 : l[k].Height < 1
    · refine .inr ⟨.inr true,?_,.inl rfl⟩
      simp only [Jx,hdl,cond_true,Qj hk,Option.bind_some,q79,c1,decide_eq_true c2,show ((0 : Int) != 0) = false from rfl,cond_false]
    by_cases c3 : l[k].Height > 100
    · refine .inr ⟨.inr true,?_,.inl rfl⟩
      simp only [Jx,hdl,cond_true,Qj hk,Option.bind_some,q79,c1,decide_eq_false c2,decide_eq_true c3,show ((0 : Int) != 0) = false from rfl,cond_false]
    have hok : stOk l[k]:=⟨c1,by omega,by omega⟩
    refine .inl ⟨(),?_,fun j h hj=>?_⟩
    · have hv:=hvol k hk hok
      have hz1 : z≤zAt z l k:=by
        have : ∀ k,k≤l.length→(∀ j (h : j < l.length),j < k→stOk l[j])→z≤zAt z l k∧zAt z l k≤z + 100 * k:=by
          intro k
          induction k with
          | zero=>intro _ _;rw [Zp];omega
          | succ k ih=>
            intro hk h
            have h1:=ih (by omega) fun j hj h2=>h j hj (by omega)
            have h2:=(h k (by omega) (by omega)).2
            rw [q12 l z k (by omega)];omega
        exact (this k (by omega) hinv).1
      have hz2 : zAt z l k≤z + 100 * k:=by
        have : ∀ k,k≤l.length→(∀ j (h : j < l.length),j < k→stOk l[j])→zAt z l k≤z + 100 * k:=by
          intro k
          induction k with
          | zero=>intro _ _;rw [Zp];omega
          | succ k ih=>
            intro hk h
            have h1:=ih (by omega) fun j hj h2=>h j hj (by omega)
            have h2:=(h k (by omega) (by omega)).2
            rw [q12 l z k (by omega)];omega
        exact this k (by omega) hinv
      have hs:=qkw ((Qt z l).take k) (fun x hx=>by
        obtain ⟨j,hj,rfl⟩:=List.getElem_of_mem hx
        rw [List.length_take] at hj
        rw [List.getElem_take]
        exact (hvol j (by omega) (hinv j (by omega) (by omega))).2)
      rw [List.length_take] at hs
      have w1 : w64 (Yg l[k].Region * l[k].Height) = volF (Qt z l)[k]:=by rw [← hv.1,qz (by omega)]
      have w2 : w64 (sumL volF ((Qt z l).take k) + volF (Qt z l)[k]) = sumL volF ((Qt z l).take (k + 1)):=by
        rw [List.take_succ_eq_append_getElem (by omega),qbf,qz (by omega)]
        simp [sumL]
      have w3 : w64 (zAt z l k + l[k].Height) = zAt z l (k + 1):=by rw [q12 l z k hk,qz (by omega)]
      have hreg:=h12 _ (List.getElem_mem hk)
      have hflag : ((cond (decide (Zw z l v.X v.Y v.Z k)) (some true) ((cond (decide (zAt z l k≤v.Z)) (some (decide (v.Z < zAt z l (k + 1)))) (some false)).bind fun c726=>(cond c726 (some (decide (hasR l[k].Region v.X v.Y))) (some false)).bind fun c745=>some c745)) : Option Bool) = some (decide (Zw z l v.X v.Y v.Z (k + 1))):=by
        have e:=qlx (z:=z) (a:=v.X) (b:=v.Y) (w:=v.Z) hk
        by_cases b1 : Zw z l v.X v.Y v.Z k
        · rw [decide_eq_true b1,decide_eq_true (e.2 (.inl b1))];rfl
        · rw [decide_eq_false b1]
          by_cases b2 : zAt z l k≤v.Z
          · by_cases b3 : v.Z < zAt z l (k + 1)
            · by_cases b4 : hasR l[k].Region v.X v.Y
              · rw [decide_eq_true b2,decide_eq_true b3,decide_eq_true b4,decide_eq_true (e.2 (.inr ⟨⟨b2,b3⟩,b4⟩))];rfl
              · rw [decide_eq_true b2,decide_eq_true b3,decide_eq_false b4,decide_eq_false (fun h=>(e.1 h).elim b1 fun h=>b4 h.2)];rfl
            · rw [decide_eq_true b2,decide_eq_false b3,decide_eq_false (fun h=>(e.1 h).elim b1 fun h=>b3 h.1.2)];rfl
          · rw [decide_eq_false b2,decide_eq_false (fun h=>(e.1 h).elim b1 fun h=>b2 h.1.1)];rfl
      simp only [Jx,hdl,cond_true,Qj hk,Option.bind_some,q79,c1,decide_eq_false c2,decide_eq_false c3,show ((0 : Int) != 0) = false from rfl,cond_false,qj1,area,ne_eq,not_true_eq_false,if_false,w1,w2,w3,qdo _ _ _ (by omega : l[k].Region.length≤1000000),w64s hk (by omega : l.length≤1000000)]
      rw [hflag]
      rfl
    · by_cases e : j = k
      · subst e;exact hok
      · exact hinv j h (by omega)
  · intro _ hi
    refine ⟨_,?_,.inr ⟨fun s hs=>?_,rfl⟩⟩
    · have hd : decide ((l.length : Int) < (l.length : Int)) = false:=decide_eq_false (by omega)
      simp only [Jx,hd,cond_false]
      rw [← hsl,List.take_length]
    · obtain ⟨j,hj,rfl⟩:=List.getElem_of_mem hs
      exact hi j hj hj
end Go.Sh
