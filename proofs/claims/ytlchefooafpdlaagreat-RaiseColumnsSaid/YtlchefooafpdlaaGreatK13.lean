/- Pt6a Pt8a Ru1 Ru2 Ru3 Ru4 -/
import Derived.Test.YtlchefooafpdlaaGreatK12
namespace Go.Sh
open Go Go.Am
theorem qj7 (z : Int) : q4z z = some (decide (Ja z)):=qgq z
noncomputable def qdo (p : List qf) (a b : Int) : List qg × Int:=
  if Yr p≠0 then ([],Yr p) else if Ja a∧Ja b∧a < b then (p.map (putB a b),0) else ([],2)
theorem quk (p : List qf) (hl : p.length≤400) (a b : Int) : q7r 0 0 a b p = some (p,0,b,p.map (putB a b)):=by
  unfold q7r
  have hc : ((cond (decide ((p.length : Int) > 0)) (some ((0 : Int) == a)) (some false)).bind fun c101=>(cond c101 ((U7 [] p).bind fun r121=>some r121) (some false))) = some false:=by
    by_cases h5 : p = []
    · subst h5;simp
    · rw [q4c [] p (by simp)]
      have : ([] : List qf)≠p:=fun h=>h5 h.symm
      rw [decide_eq_false this]
      cases (decide ((p.length : Int) > 0)) <;> cases ((0 : Int) == a) <;> rfl
  have hap:=q1m p (putB a b) [] (fun o=>(p,(0 : Int),b,o)) (q50 p a b) (fun k hk o ho=>by
    simp only [q50,dlt hk,cond_true,Qf hk,Option.bind_some,w64s hk (by omega)]
    rw [Kf (by simp at ho ⊢;omega)]
    rfl) (fun o=>by simp only [q50,dnl,cond_false])
  rw [← Option.bind_assoc,hc]
  simp only [Option.bind_some,cond_false,hap,List.nil_append]
theorem qsf (p : List qf) (a b : Int) : q4y p a b = some (qdo p a b):=by
  unfold q4y qdo
  rw [qj8,Option.bind_some]
  by_cases hc : Yr p = 0
  · have h1 : (Yr p != 0) = false:=by simp [hc]
    have hl:=(qfn hc).1
    rw [h1,cond_false,if_neg (by simp [hc])]
    simp only [qj7,Option.bind_some,quk p hl]
    by_cases ha : Ja a
    · by_cases hb : Ja b
      · by_cases hab : a < b
        · have h2 : ¬ (b≤a):=by omega
          have h3 : decide (((p.map (putB a b)).length : Int) > 400) = false:=decide_eq_false (by simp;omega)
          rw [if_pos ⟨ha,hb,hab⟩]
          simp only [ha,hb,decide_true,Bool.not_true,cond_false,Option.bind_some,ge_iff_le,h2,decide_false,h3]
        · have h2 : b≤a:=by omega
          rw [if_neg (fun h=>hab h.2.2)]
          simp only [ha,hb,decide_true,Bool.not_true,cond_false,Option.bind_some,ge_iff_le,h2,cond_true]
      · rw [if_neg (fun h=>hb h.2.1)]
        simp only [ha,hb,decide_true,decide_false,Bool.not_true,Bool.not_false,cond_false,Option.bind_some,cond_true]
    · rw [if_neg (fun h=>ha h.1)]
      simp only [ha,decide_false,Bool.not_false,Option.bind_some,cond_true]
  · have h1 : (Yr p != 0) = true:=by simpa using hc
    rw [h1,cond_true,if_pos hc]
end Go.Sh
namespace Go.Sh
open Go Go.Am
theorem qtb (s : Mg qf qg) (a b : Int) (c : List qf) (hl : (s.flat putB).length + c.length≤1000000) :
    q7s (s.flat putB) s.sec (s.done.length : Int) s.hi a b c = some ((addM putB s a b c).sec,((addM putB s a b c).done.length : Int),(addM putB s a b c).hi,(addM putB s a b c).flat putB):=by
  have hfl : (s.flat putB).length = s.done.length + s.sec.length:=by simp [Mg.flat]
  have hsec : s.sec.length≤1000000:=by omega
  unfold q7s
  rcases Jm putB s a b c with ⟨h1,h2,h3,h4⟩ | ⟨h1,h4⟩
  · have hb : decide ((c.length : Int) > 0) = true:=decide_eq_true (by have:=List.length_pos_iff.2 h1;omega)
    have he : (s.hi == a) = true:=by simpa using h3
    rw [h2] at hb
    rw [h4,h2]
    simp only [hb,cond_true,he,Option.bind_some,q4c _ _ hsec,decide_true]
    have:=q6z (fun v : qg=>({Lo:=v.Lo,Hi:=({X:=v.Hi.X,Y:=v.Hi.Y,Z:=b} : qi)} : qg)) s.done (s.sec.map (putB s.lo s.hi)) (by simp;omega) (q51 b) (fun k o hk ho=>by
      have h5 : (s.done ++ s.sec.map (putB s.lo s.hi)).length = (s.flat putB).length:=rfl
      simp only [q51,dlt hk,cond_true,Qf hk,Option.bind_some,w64s hk (by omega),Int.toNat_natCast]) (fun o=>by simp only [q51,dnl,cond_false])
    rw [show s.flat putB = s.done ++ s.sec.map (putB s.lo s.hi) from rfl,this]
    simp only [Option.bind_some,Mg.flat,List.map_map]
    rfl
  · rw [h4]
    have hc : ((cond (decide ((c.length : Int) > 0)) (some (s.hi == a)) (some false)).bind fun c101=>(cond c101 ((U7 s.sec c).bind fun r121=>some r121) (some false))) = some false:=by
      by_cases h5 : c = []
      · subst h5;simp
      · have hb : decide ((c.length : Int) > 0) = true:=decide_eq_true (by have:=List.length_pos_iff.2 h5;omega)
        simp only [hb,cond_true,Option.bind_some,q4c _ _ hsec]
        by_cases h6 : s.hi = a
        · have h7 : s.sec≠c:=fun h=>h1 ⟨h5,h.symm,h6⟩
          simp [h6,h7]
        · have : (s.hi == a) = false:=by simpa using h6
          simp [this]
    have hap:=q1m c (putB a b) (s.flat putB) (fun o=>(c,((s.flat putB).length : Int),b,o)) (q52 c a b (s.flat putB)) (fun k hk o ho=>by
      simp only [q52,dlt hk,cond_true,Qf hk,Option.bind_some,w64s hk (by omega)]
      rw [Kf (by simp;omega)]
      rfl) (fun o=>by simp only [q52,dnl,cond_false])
    rw [← Option.bind_assoc,hc]
    simp only [Option.bind_some,cond_false,hap]
    simp [Mg.flat]
def zAt : Int→List Qt→Nat→Int
  | z,[],_=>z
  | z,_::_,0=>z
  | z,s::r,k + 1=>zAt (z + s.Height) r k
theorem qbm (z : Int) (l : List Qt) : zAt z l 0 = z:=by cases l <;> rfl
theorem qev : ∀ (l : List Qt) (z : Int) (k : Nat) (h : k < l.length),zAt z l (k + 1) = zAt z l k + l[k].Height
  | [],_,_,h=>absurd h (by simp)
  | s::r,z,0,_=>by simp [zAt,qbm]
  | s::r,z,k + 1,h=>by
    have:=qev r (z + s.Height) k (by simpa using h)
    simpa [zAt] using this
def Kb : Int→List Qt→List (Int × Int × List qf)
  | _,[]=>[]
  | z,s::r=>(z,z + s.Height,s.Region)::Kb (z + s.Height) r
theorem qek : ∀ (l : List Qt) (z : Int),(Kb z l).length = l.length
  | [],_=>rfl
  | s::r,z=>by simp [Kb,qek r]
theorem qej : ∀ (l : List Qt) (z : Int) (k : Nat) (h : k < l.length) (h' : k < (Kb z l).length),(Kb z l)[k] = (zAt z l k,zAt z l (k + 1),l[k].Region)
  | [],_,_,h,_=>absurd h (by simp)
  | s::r,z,0,_,_=>by simp [Kb,zAt,qbm]
  | s::r,z,k + 1,h,h'=>by
    have:=qej r (z + s.Height) k (by simpa using h) (by simpa [Kb] using h')
    simpa [Kb,zAt] using this
end Go.Sh
namespace Go.Sh
open Go Go.Am
noncomputable def footprint (s : List qg) : List qf × Int:=if Qz s≠0 then ([],Qz s) else mkR (s.map Yc)
theorem qsd (s : List qg) : q7p s = some (footprint s):=by
  unfold q7p footprint
  rw [qeg,Option.bind_some]
  by_cases h : ¬ Qz s = 0
  · have : (Qz s != 0) = true:=by simpa using h
    rw [if_pos h,this,cond_true]
  replace h:=Classical.not_not.1 h
  have hl:=(J8.1 h).1
  rw [if_neg (by simp [h]),h,show ((0 : Int) != 0) = false from rfl,cond_false]
  have:=q1m s Yc [] (fun o=>o) (q4x s) (fun k hk o ho=>by
    simp only [q4x,dlt hk,cond_true,Qf hk,Option.bind_some,w64s hk (by omega)]
    rw [Kf (by simp at ho ⊢;omega)]
    rfl) (fun o=>by simp only [q4x,dnl,cond_false])
  rw [List.nil_append] at this
  rw [this]
  simp only [Option.bind_some,qja]
def colS (s : List qg) (x y : Int) : List qj:=s.flatMap fun b=>if decide (b.Lo.X≤x∧x < b.Hi.X) && decide (b.Lo.Y≤y∧y < b.Hi.Y) then [{Lo:=b.Lo.Z,Hi:=b.Hi.Z}] else []
theorem q6o (s : List qg) (x y : Int) : (colS s x y).length≤s.length:=by
  unfold colS
  induction s with
  | nil=>simp
  | cons r l ih=>
    simp only [List.flatMap_cons,List.length_append,List.length_cons]
    have : (if (decide (r.Lo.X≤x∧x < r.Hi.X) && decide (r.Lo.Y≤y∧y < r.Hi.Y)) = true then [({Lo:=r.Lo.Z,Hi:=r.Hi.Z} : qj)] else []).length≤1:=by split <;> simp
    omega
theorem qov {s : List qg} {x y z : Int} : has (colS s x y) z↔hasB s x y z:=by
  unfold colS
  constructor
  · rintro ⟨t,ht,h1,h2⟩
    rw [List.mem_flatMap] at ht
    obtain ⟨b,hb,h⟩:=ht
    split at h
    · rename_i hc
      simp only [Bool.and_eq_true,decide_eq_true_eq] at hc
      obtain rfl:=List.mem_singleton.1 h
      exact ⟨b,hb,hc.1,hc.2,h1,h2⟩
    · cases h
  · rintro ⟨b,hb,h1,h2,h3,h4⟩
    refine ⟨{Lo:=b.Lo.Z,Hi:=b.Hi.Z},?_,h3,h4⟩
    rw [List.mem_flatMap]
    exact ⟨b,hb,by rw [if_pos (by simp [h1,h2])];simp⟩
theorem qg0 {s : List qg} (h : ∀ b∈s,vB b) (x y : Int) : ∀ t∈colS s x y,vld t:=by
  intro t ht
  unfold colS at ht
  rw [List.mem_flatMap] at ht
  obtain ⟨b,hb,h1⟩:=ht
  split at h1
  · obtain rfl:=List.mem_singleton.1 h1
    have:=h b hb
    unfold vB at this
    unfold vld
    simp only
    omega
  · cases h1
noncomputable def column (s : List qg) (x y : Int) : List qj × Int:=if Qz s≠0 then ([],Qz s) else (Jf 2 (colS s x y) [],0)
theorem qdw (s : List qg) (x y : Int) : q3b s x y = some (column s x y):=by
  unfold q3b column
  rw [qeg,Option.bind_some]
  by_cases h : ¬ Qz s = 0
  · have : (Qz s != 0) = true:=by simpa using h
    rw [if_pos h,this,cond_true]
  replace h:=Classical.not_not.1 h
  obtain ⟨hl,hv,_⟩:=J8.1 h
  rw [if_neg (by simp [h]),h,show ((0 : Int) != 0) = false from rfl,cond_false]
  have:=Zs s (by omega) (fun b=>if decide (b.Lo.X≤x∧x < b.Hi.X) && decide (b.Lo.Y≤y∧y < b.Hi.Y) then [({Lo:=b.Lo.Z,Hi:=b.Hi.Z} : qj)] else []) [] (fun o=>o) (q4w s x y) (fun k hk o ho=>by
    have h8 : o.length≤k:=by rw [ho,List.nil_append];have:=q6o (s.take k) x y;rw [List.length_take,Nat.min_eq_left (by omega)] at this;exact this
    simp only [q4w,dlt hk,cond_true,Qf hk,Option.bind_some,w64s hk (by omega)]
    by_cases h1 : s[k].Lo.X≤x <;> by_cases h2 : x < s[k].Hi.X <;> by_cases h3 : s[k].Lo.Y≤y <;> by_cases h4 : y < s[k].Hi.Y <;> simp [h1,h2,h3,h4]
    all_goals (rw [Kf (by simp;omega)];rfl)) (fun o=>by simp only [q4w,dnl,cond_false])
  rw [List.nil_append] at this
  have hmk : q24 (colS s x y) = some (Jf 2 (colS s x y) [],0):=by
    have:=q6o s x y
    rw [qi3]
    unfold qah
    rw [if_neg (by omega),if_pos (qg0 hv x y)]
  rw [this]
  simp only [Option.bind_some]
  rw [show s.flatMap (fun b=>if decide (b.Lo.X≤x∧x < b.Hi.X) && decide (b.Lo.Y≤y∧y < b.Hi.Y) then [({Lo:=b.Lo.Z,Hi:=b.Hi.Z} : qj)] else []) = colS s x y from rfl,hmk]
  rfl
end Go.Sh
namespace Go.Sh
open Go Go.Am
def badH (s : Qt) : Bool:=decide (s.Height < 1) || decide (s.Height > 1000000)
theorem qyc (s : Qt) : Ut s = some (badH s):=by
  unfold Ut badH
  by_cases h : s.Height < 1 <;> simp [h]
theorem qye (l : List Qt) (hl : l.length≤100) : q80 l (fun x0=>Ut x0) = some (l.any badH):=by
  have hs : ∀ (k : Nat) (h : k < l.length),q3l l (fun x0=>Ut x0) (k : Int) = some (if badH l[k] = true then .inr (.inr (k : Int)) else .inl ((k + 1 : Nat) : Int)):=by
    intro k h
    simp only [q3l,dlt h,cond_true,Qf h,Option.bind_some,w64s h (by omega : l.length≤1000000),qyc]
    cases badH l[k] <;> simp
  have hd : q3l l (fun x0=>Ut x0) (l.length : Int) = some (.inr (.inl ())):=by simp only [q3l,dnl,cond_false]
  unfold q80 qb7
  rcases q15 l badH (fun k _=>(k : Int)) () _ hs hd with ⟨h1,h2⟩ | ⟨k,hk,hc,_,h2⟩
  · rw [h2]
    have : l.any badH = false:=by
      rw [List.any_eq_false];intro x hx;simp [h1 x hx]
    rw [this];rfl
  · rw [h2]
    have : l.any badH = true:=List.any_eq_true.2 ⟨_,List.getElem_mem hk,hc⟩
    rw [this]
    simp only [Option.bind_some]
    rw [decide_eq_true (by omega)]
theorem qyd {l : List Qt} (hl : l.length≤100) (hc : ∀ s∈l,Yr s.Region = 0) : loop (q3d l) 0 = some (.inl ()):=
  Yp (f:=q3d l) (fun k=>(k : Int)) l.length _ (fun k hk=>by
    simp only [q3d,dlt hk,cond_true,Qf hk,Option.bind_some,w64s hk (by omega : l.length≤1000000),qj8,hc _ (List.getElem_mem hk)];rfl) (by simp only [q3d,dnl,cond_false]) (Nat.zero_le _)
noncomputable def q95 (l : List Qt) (z : Int) : List qg:=(Ql putB Qi (Kb z l)).flat putB
theorem qyn {l : List Qt} {z : Int} {x : Int × Int × List qf} (hx : x∈Kb z l) : ∃ s∈l,x.2.2 = s.Region:=by
  obtain ⟨k,hk,rfl⟩:=List.getElem_of_mem hx
  rw [qek] at hk
  rw [qej l z k hk]
  exact ⟨_,List.getElem_mem hk,rfl⟩
theorem qyf {l : List Qt} {z : Int} (hn : l.length≤100) (hz : Ja z) (hH : ∀ s∈l,1≤s.Height∧s.Height≤1000000) (hR : ∀ s∈l,s.Region.length≤400) (hA : ∀ k,k≤l.length→zAt z l k≤1000000) :
    loop (q3e l) (z,0,[],0,0,[]) = some (.inl ((Ql putB Qi (Kb z l)).sec,((Ql putB Qi (Kb z l)).done.length : Int),(Ql putB Qi (Kb z l)).hi,q95 l z)):=by
  have hlen:=qek l z
  have hM : ∀ t∈Kb z l,t.2.2.length≤400:=fun x hx=>by
    obtain ⟨s,hs,e⟩:=qyn hx
    rw [e];exact hR s hs
  have hml : ∀ i,((Ql putB Qi ((Kb z l).take i)).flat putB).length≤40000:=fun i=>by
    have h1:=qa3 putB (s0:=Qi) (M:=400) (steps:=(Kb z l).take i) (fun t ht=>hM t (List.mem_of_mem_take ht))
    have h2 : ((Kb z l).take i).length≤100:=by rw [List.length_take];omega
    have h3 : (Qi.flat putB : List qg).length = 0:=rfl
    have h4 : ((Kb z l).take i).length * 400≤100 * 400:=Nat.mul_le_mul_right _ h2
    omega
  have hlow : ∀ k,k≤l.length→-1000000≤zAt z l k:=by
    intro k
    induction k with
    | zero=>intro _;rw [qbm];exact hz.1
    | succ k ih=>
      intro hk
      rw [qev l z k (by omega)]
      have:=hH _ (List.getElem_mem (by omega : k < l.length))
      have:=ih (by omega)
      omega
  have key:=Yp (f:=q3e l) (fun k=>(zAt z l k,(k : Int),(Ql putB Qi ((Kb z l).take k)).sec,((Ql putB Qi ((Kb z l).take k)).done.length : Int),(Ql putB Qi ((Kb z l).take k)).hi,(Ql putB Qi ((Kb z l).take k)).flat putB)) l.length
    (.inl ((Ql putB Qi (Kb z l)).sec,((Ql putB Qi (Kb z l)).done.length : Int),(Ql putB Qi (Kb z l)).hi,(Ql putB Qi (Kb z l)).flat putB)) (fun k hk=>by
      have hr:=hR _ (List.getElem_mem hk)
      have hm:=hml k
      have h1:=hA (k + 1) (by omega)
      have hd : decide (zAt z l (k + 1) > 1000000) = false:=decide_eq_false (by omega)
      have ha : w64 (zAt z l k + l[k].Height) = zAt z l (k + 1):=by
        have h2:=hlow k (by omega)
        have h3:=hH _ (List.getElem_mem hk)
        have h4:=hA k (by omega)
        rw [qz (by omega),qev l z k hk]
      have hadd:=qtb (Ql putB Qi ((Kb z l).take k)) (zAt z l k) (zAt z l (k + 1)) l[k].Region (by omega)
      rw [q2g putB (by omega : k < (Kb z l).length),qej l z k hk]
      simp only [q3e,dlt hk,cond_true,Qf hk,Option.bind_some,ha,hd,cond_false,hadd,w64s hk (by omega : l.length≤1000000)]) (by
      rw [← hlen,List.take_length,hlen]
      simp only [q3e,dnl,cond_false]) (Nat.zero_le _)
  have e0:=qbm z l
  simp only [List.take_zero,e0] at key
  exact key
theorem qyg {l : List Qt} {z : Int} (hn : l.length≤100) (hz : Ja z) (hc : ∀ s∈l,Yr s.Region = 0) (hH : ∀ s∈l,1≤s.Height∧s.Height≤1000000) (hA : ∀ k,k≤l.length→zAt z l k≤1000000) (hl : (q95 l z).length≤400) :
    q3c l z = some (q95 l z,0):=by
  unfold q3c
  have : decide ((l.length : Int) > 100) = false:=decide_eq_false (by omega)
  rw [this,cond_false,qyd hn hc]
  have hany : l.any badH = false:=by
    rw [List.any_eq_false]
    intro s hs
    have:=hH s hs
    simp only [badH,Bool.or_eq_true,decide_eq_true_eq]
    omega
  simp only [Option.bind_some,qj7,qye l hn,hany,decide_eq_true hz,Bool.not_true,cond_false,qyf hn hz hH (fun s hs=>(qfl.1 (hc s hs)).1) hA]
  rw [decide_eq_false (by omega : ¬ ((q95 l z).length : Int) > 400)]
  rfl
def qzp : Q6 × Q6 × Q6 × Q6 × Q6 × Q6:=(Kx,Kx,Kx,Kx,Kx,Kx)
theorem qsj {s : Q6} (ht : 0≤s.Frame.Turn) : q7q s = some (if SOk s then 0 else 8):=by
  unfold q7q
  by_cases hs : SOk s
  · obtain ⟨u,hu⟩ : ∃ u : Nat,s.Frame.Turn = u:=⟨s.Frame.Turn.toNat,by omega⟩
    have h : Zd s ⟨0,0,0⟩ ⟨0,0,0⟩ ((0 : Nat) : Int) = _:=qey (t:=0) hu hs (by omega) (by unfold InV;simp) (by unfold InV;simp)
    have u24 : u < 24:=by have:=hs.1.1;omega
    rw [qn6 u u24,qoy,← hu,if_pos hs.1] at h
    have h : Zd s ⟨0,0,0⟩ ⟨0,0,0⟩ 0 = some (⟨⟨s.Frame.Turn,s.Frame.At⟩,⟨0,0,0⟩⟩,0):=h
    rw [h,if_pos hs];rfl
  · rw [qla hs,if_neg hs];rfl
theorem qnz (s : Q6) : J2 s.Size 0 = some (10,⟨s.Size.X,0,0⟩,⟨s.Size.Y,s.Size.Z,0⟩):=rfl
theorem qo0 (s : Q6) : J2 s.Size 1 = some (11,⟨0,0,s.Size.Z⟩,⟨s.Size.Y,s.Size.Z,0⟩):=rfl
theorem qo1 (s : Q6) : J2 s.Size 2 = some (3,⟨0,s.Size.Y,s.Size.Z⟩,⟨s.Size.X,s.Size.Z,0⟩):=rfl
theorem qo2 (s : Q6) : J2 s.Size 3 = some (2,⟨0,0,0⟩,⟨s.Size.X,s.Size.Z,0⟩):=rfl
theorem qo3 (s : Q6) : J2 s.Size 4 = some (0,⟨0,0,s.Size.Z⟩,⟨s.Size.X,s.Size.Y,0⟩):=rfl
theorem qo4 (s : Q6) : J2 s.Size 5 = some (1,⟨0,s.Size.Y,0⟩,⟨s.Size.X,s.Size.Y,0⟩):=rfl
theorem qso {s : Q6} {d : Int} {t : Int} {at_ flat : qi} {out : List Q6} {r : Q6 × Int} (hd : d < 6) (hf : J2 s.Size d = some (t,at_,flat)) (hi : Zd s at_ flat t = some r) (hx : ∃ v,idxA 6 out d = some v) :
    q1q (d,out,s.Frame.Turn,s.Frame.At.X,s.Frame.At.Y,s.Frame.At.Z,s.Size.X,s.Size.Y,s.Size.Z) =
      cond (r.2 != 0) (some (.inr (.inr (qzp,r.2)))) (some (.inl (w64 (d + 1),out.set d.toNat r.1,s.Frame.Turn,s.Frame.At.X,s.Frame.At.Y,s.Frame.At.Z,s.Size.X,s.Size.Y,s.Size.Z))):=by
  obtain ⟨v,hv⟩:=hx
  have e : q7o d s.Frame.Turn s.Frame.At.X s.Frame.At.Y s.Frame.At.Z s.Size.X s.Size.Y s.Size.Z out = some (r.2,s.Frame.Turn,s.Frame.At.X,s.Frame.At.Y,s.Frame.At.Z,s.Size.X,s.Size.Y,s.Size.Z,out.set d.toNat r.1):=by
    unfold q7o
    have h1 : J2 ({X:=s.Size.X,Y:=s.Size.Y,Z:=s.Size.Z} : qi) d = some (t,at_,flat):=hf
    have h2 : Zd ({Frame:=({Turn:=s.Frame.Turn,At:=({X:=s.Frame.At.X,Y:=s.Frame.At.Y,Z:=s.Frame.At.Z} : qi)} : Qn),Size:=({X:=s.Size.X,Y:=s.Size.Y,Z:=s.Size.Z} : qi)} : Q6) at_ flat t = some r:=hi
    simp only [h1,h2,hv,Option.bind_some]
  unfold q1q
  simp only [decide_eq_true hd,cond_true,e,Option.bind_some]
  rfl
theorem idx6 {out : List Q6} (h : out.length = 6) {k : Nat} (hk : k < 6) : ∃ v,idxA 6 out (k : Int) = some v:=by
  unfold idxA
  rw [if_pos ⟨by omega,by omega⟩]
  exact ⟨_,List.getElem?_eq_getElem (by simpa using (by omega : k < out.length))⟩
def Y4 : Q6:=⟨⟨0,⟨0,0,0⟩⟩,⟨2,3,4⟩⟩
theorem qn7 : ∀ t : Nat,t < 24→Zw t 0 = t:=by decide +kernel
theorem qox (a : qi) : Yu 0 ⟨0,0,0⟩ a = a:=by
  obtain ⟨x,y,z⟩:=a
  unfold Yu addV mulV;rw [qlt];simp
theorem qyx (t : Nat) (a z : qi) (h : t < 24) (ha : InV a (-1000000)) (hz : InV z 0) : Zd Y4 a z (t : Int) = some (⟨⟨(t : Int),a⟩,z⟩,0):=by
  have:=qey (s:=Y4) (u:=0) (t:=t) rfl (by decide) h ha hz
  rw [qn7 t h] at this
  rw [this,show Y4.Frame.At = ⟨0,0,0⟩ from rfl,qox,if_pos ⟨by simp only;omega,ha⟩]
theorem qo5 : ∃ f1 f2 f3 f5,q7n Y4 = some ((⟨⟨10,⟨2,0,0⟩⟩,⟨3,4,0⟩⟩,f1,f2,f3,⟨⟨0,⟨0,0,4⟩⟩,⟨2,3,0⟩⟩,f5),0):=by
  have st : ∀ (k t : Nat) (a z : qi) (out : List Q6),k < 6→t < 24→InV a (-1000000)→InV z 0→J2 Y4.Size (k : Int) = some ((t : Int),a,z)→out.length = 6→
      q1q ((k : Int),out,0,0,0,0,2,3,4) = some (.inl (((k + 1 : Nat) : Int),out.set k ⟨⟨(t : Int),a⟩,z⟩,0,0,0,0,2,3,4)):=by
    intro k t a z out hk ht ha hz hf ho
    have:=qso (s:=Y4) (d:=(k : Int)) (by omega) hf (qyx t a z ht ha hz) (idx6 ho hk)
    have hw : w64 ((k : Int) + 1) = ((k + 1 : Nat) : Int):=by rw [qz (by omega)];omega
    rw [hw] at this
    exact this
  refine ⟨⟨⟨11,⟨0,0,4⟩⟩,⟨3,4,0⟩⟩,⟨⟨3,⟨0,3,4⟩⟩,⟨2,4,0⟩⟩,⟨⟨2,⟨0,0,0⟩⟩,⟨2,4,0⟩⟩,⟨⟨1,⟨0,3,0⟩⟩,⟨2,3,0⟩⟩,?_⟩
  unfold q7n
  rw [qsj (by decide),if_pos (by decide)]
  have h0 : ((0 : Int) != 0) = false:=rfl
  simp only [Option.bind_some,h0,cond_false]
  have e : loop q1q (((0 : Nat) : Int),[Kx,Kx,Kx,Kx,Kx,Kx],0,0,0,0,2,3,4) = some (.inl [⟨⟨10,⟨2,0,0⟩⟩,⟨3,4,0⟩⟩,⟨⟨11,⟨0,0,4⟩⟩,⟨3,4,0⟩⟩,⟨⟨3,⟨0,3,4⟩⟩,⟨2,4,0⟩⟩,⟨⟨2,⟨0,0,0⟩⟩,⟨2,4,0⟩⟩,⟨⟨0,⟨0,0,4⟩⟩,⟨2,3,0⟩⟩,⟨⟨1,⟨0,3,0⟩⟩,⟨2,3,0⟩⟩]):=by
    rw [K1 (st 0 10 _ _ _ (by omega) (by omega) (by decide) (by decide) (qnz Y4) rfl)]
    rw [K1 (st 1 11 _ _ _ (by omega) (by omega) (by decide) (by decide) (qo0 Y4) rfl)]
    rw [K1 (st 2 3 _ _ _ (by omega) (by omega) (by decide) (by decide) (qo1 Y4) rfl)]
    rw [K1 (st 3 2 _ _ _ (by omega) (by omega) (by decide) (by decide) (qo2 Y4) rfl)]
    rw [K1 (st 4 0 _ _ _ (by omega) (by omega) (by decide) (by decide) (qo3 Y4) rfl)]
    rw [K1 (st 5 1 _ _ _ (by omega) (by omega) (by decide) (by decide) (qo4 Y4) rfl)]
    exact K0 rfl
  replace e : loop q1q (0,[Kx,Kx,Kx,Kx,Kx,Kx],0,0,0,0,2,3,4) = some (.inl [⟨⟨10,⟨2,0,0⟩⟩,⟨3,4,0⟩⟩,⟨⟨11,⟨0,0,4⟩⟩,⟨3,4,0⟩⟩,⟨⟨3,⟨0,3,4⟩⟩,⟨2,4,0⟩⟩,⟨⟨2,⟨0,0,0⟩⟩,⟨2,4,0⟩⟩,⟨⟨0,⟨0,0,4⟩⟩,⟨2,3,0⟩⟩,⟨⟨1,⟨0,3,0⟩⟩,⟨2,3,0⟩⟩]):=e
  unfold Kx at e
  rw [show Y4.Frame.Turn = 0 from rfl,show Y4.Frame.At.X = 0 from rfl,show Y4.Frame.At.Y = 0 from rfl,show Y4.Frame.At.Z = 0 from rfl,show Y4.Size.X = 2 from rfl,show Y4.Size.Y = 3 from rfl,show Y4.Size.Z = 4 from rfl,e]
  rfl
def rc (a b c d : Int) : qf:={X0:=a,Y0:=b,X1:=c,Y1:=d}
def stL : List Qt:=[{Region:=[rc 0 0 2 2],Height:=1},{Region:=[rc 0 0 1 1],Height:=2}]
def stB : List qg:=[bx 0 0 0 2 2 1,bx 0 0 1 1 1 3]
theorem qfm {l : List qf} (h : l.length≤400∧(∀ r∈l,vR r)∧isR l) : Yr l = 0:=qfl.2 ⟨h.1,h.2.1,h.2.2.can⟩
theorem qyb : ∀ s∈stL,Yr s.Region = 0:=by
  intro s hs
  simp only [stL,List.mem_cons,List.not_mem_nil,or_false] at hs
  rcases hs with rfl | rfl <;> exact qfm (by decide)
theorem qki : q95 stL 0 = stB:=rfl
theorem qlh : q77 = some true:=by
  have hc : Qz stB = 0:=qfk (by decide)
  have hp : q4y [rc 0 0 2 3] 1 5 = some ([bx 0 0 1 2 3 5],0):=by
    rw [qsf,qdo,if_neg (by rw [qfm (by decide)];simp),if_pos (by unfold Ja;omega)];rfl
  have hpc : Qz [bx 0 0 1 2 3 5] = 0:=qfk (by decide)
  have hv : volume [bx 0 0 1 2 3 5] = (24,0):=by unfold volume;rw [if_neg (by simp [hpc])];rfl
  have hv2 : volume stB = (6,0):=by unfold volume;rw [if_neg (by simp [hc])];rfl
  have hst : q3c stL 0 = some (stB,0):=by
    rw [qyg (by decide) (by unfold Ja;omega) qyb (by decide) (fun k hk=>?_) (by rw [qki];decide),qki]
    have : k = 0∨k = 1∨k = 2:=by have : stL.length = 2:=rfl;omega
    rcases this with rfl | rfl | rfl <;> decide
  have hcol : column stB 0 0 = ([{Lo:=0,Hi:=3}],0):=by
    unfold column
    rw [if_neg (by simp [hc]),show colS stB 0 0 = [{Lo:=0,Hi:=1},{Lo:=1,Hi:=3}] from rfl]
    have hj:=(q2m 2 [({Lo:=0,Hi:=1} : qj),{Lo:=1,Hi:=3}] [] (by simp) (by simp)).2
    have : Jf 2 [({Lo:=0,Hi:=1} : qj),{Lo:=1,Hi:=3}] [] = [{Lo:=0,Hi:=3}]:=q48 hj.1 (by unfold Can;simp) fun x=>by
      rw [hj.2,qaa];unfold has;simp;omega
    rw [this]
  obtain ⟨f1,f2,f3,f5,hf⟩:=qo5
  unfold q77
  simp only [show q1l 0 0 2 3 = some [rc 0 0 2 3] from rfl,show q1l 0 0 2 2 = some [rc 0 0 2 2] from rfl,show q1l 0 0 1 1 = some [rc 0 0 1 1] from rfl,show qaf = some Y4 from rfl,Option.bind_some,hp,qka,hv,hf,
    show q3c [({Region:=[rc 0 0 2 2],Height:=1} : Qt),({Region:=[rc 0 0 1 1],Height:=2} : Qt)] 0 = some (stB,0) from hst,hv2,qdw,hcol,qe5 [{Lo:=0,Hi:=3}] [{Lo:=0,Hi:=3}] (by simp)]
  rfl
end Go.Sh
namespace Go.Sh
open Go Go.Am
def qlv (z : Int) (l : List Qt) (a b w : Int) (k : Nat) : Prop:=∃ j,∃ h : j < l.length,j < k∧(zAt z l j≤w∧w < zAt z l (j + 1))∧hasR l[j].Region a b
noncomputable instance (z : Int) (l : List Qt) (a b w : Int) (k : Nat) : Decidable (qlv z l a b w k):=Classical.propDecidable _
end Go.Sh
namespace Go.Sh
open Go Go.Am
theorem qkp {h : Int→Int} {c d : Nat} : ∀ (m : Nat),sumN m (fun k=>ind ((c : Int)≤k∧k < d) * h k) = sumN (min m d - c) (fun k=>h (c + k))
  | 0=>by
    have : min 0 d - c = 0:=by omega
    rw [this];rfl
  | m + 1=>by
    rw [sumN,qkp m]
    by_cases hh : (c : Int)≤(m : Int)∧(m : Int) < d
    · rw [q4h hh]
      have e1 : min (m + 1) d - c = (min m d - c) + 1:=by omega
      rw [e1,sumN]
      have e2 : ((c : Int) + ((min m d - c : Nat) : Int)) = m:=by omega
      rw [e2,Int.one_mul]
    · rw [Z6 hh]
      have e1 : min (m + 1) d - c = min m d - c:=by omega
      rw [e1,Int.zero_mul,Int.add_zero]
theorem qku {N : Nat} {f : Int→Int} {a b : Int} (h1 : -(N : Int)≤a) (h2 : a≤b) (h3 : b≤N) : sumZ N (fun x=>ind (a≤x∧x < b) * f x) = sumN (b - a).toNat (fun k=>f (a + k)):=by
  unfold sumZ
  have e : (fun k : Int=>ind (a≤k - N∧k - N < b) * f (k - N)) = fun k=>ind (((a + N).toNat : Int)≤k∧k < ((b + N).toNat : Int)) * (fun k=>f (k - N)) k:=by
    funext k
    rw [q1i (p:=a≤k - N∧k - N < b) (q:=((a + N).toNat : Int)≤k∧k < ((b + N).toNat : Int)) ⟨fun h=>by omega,fun h=>by omega⟩]
  rw [e,qkp (h:=fun k=>f (k - N)) (2 * N)]
  have e1 : min (2 * N) (b + N).toNat - (a + N).toNat = (b - a).toNat:=by omega
  rw [e1]
  refine qen fun k _=>?_
  show f (((a + N).toNat : Int) + k - N) = f (a + k)
  congr 1;omega
theorem q9a {f : Int→Int} {B : Int} (h : ∀ x,0≤f x∧f x≤B) : ∀ n : Nat,0≤sumN n f∧sumN n f≤n * B
  | 0=>by simp [sumN]
  | n + 1=>by
    have h1:=q9a h n
    have h2:=h n
    have e : ((n + 1 : Nat) : Int) * B = n * B + B:=by rw [Int.natCast_add,Int.add_mul];simp
    rw [sumN,e];omega
theorem qkn {α : Type} {f : α→Int} {B : Int} : ∀ (t : List α),(∀ x∈t,0≤f x∧f x≤B)→0≤sumL f t∧sumL f t≤t.length * B
  | [],_=>by simp [sumL]
  | x::t,h=>by
    have h1:=qkn t fun y hy=>h y (by simp [hy])
    have h2:=h x (by simp)
    have e : (((x::t).length : Nat) : Int) * B = t.length * B + B:=by rw [List.length_cons,Int.natCast_add,Int.add_mul];simp
    rw [sumL,e];omega
noncomputable def colJ (p : List qg) (x y : Int) : List qj:=Jf 2 (colS p x y) []
noncomputable def colL (p : List qg) (x y : Int) : Int:=lenL (colJ p x y)
theorem q6n {p : List qg} (hl : p.length≤400) (x y : Int) : q9j 2 (colS p x y) [] (colJ p x y):=
  (q2m 2 _ [] (by have:=q6o p x y;omega) (by simp)).2
theorem q9t {p : List qg} (hl : p.length≤400) (x y z : Int) : has (colJ p x y) z↔hasB p x y z:=by
  rw [(q6n hl x y).pts,qaa,qov]
  exact ⟨fun h=>h.elim id fun h=>absurd h (U2 z),.inl⟩
theorem qfz {p : List qg} (hl : p.length≤400) (hv : ∀ b∈p,vB b) (x y : Int) : Good (colJ p x y):=by
  have j:=q6n hl x y
  refine ⟨fun t ht=>?_,j.can.2⟩
  obtain ⟨e1,e2⟩:=j.ends t ht
  have lo:=j.can.1 t ht
  have key : ∀ w,(w∈ends (colS p x y)∨w∈ends ([] : List qj))→-1000000≤w∧w≤1000000:=by
    rintro w (h | h)
    · obtain ⟨u,hu,h⟩:=q2p.1 h
      obtain ⟨v1,v2,v3⟩:=qg0 hv x y u hu
      omega
    · obtain ⟨u,hu,h⟩:=q2p.1 h
      cases hu
  have:=key _ e1
  have:=key _ e2
  exact ⟨lo,by omega,by omega⟩
theorem qpg (s : List qj) : lenL s = sumL (fun t : qj=>t.Hi - t.Lo) s:=by
  induction s with
  | nil=>rfl
  | cons t s ih=>rw [lenL,sumL,ih]
theorem qpf {s : List qj} (hs : Good s) : lenL s = sumZ 1000000 (fun z=>ind (has s z)):=by
  rw [qpg,qbf (g:=fun t=>sumZ 1000000 (fun z=>ind (inS t z))) (fun t ht=>by
    obtain ⟨v1,v2,v3⟩:=hs.1 t ht
    exact (qbh (by omega) (by omega) (by omega)).symm),q6f]
  exact q9b fun z _ _=>qc7 hs.can z
theorem qca {p : List qg} (hl : p.length≤400) (hv : ∀ b∈p,vB b) (x y : Int) : colL p x y = sumZ 1000000 (fun z=>ind (hasB p x y z)):=by
  rw [colL,qpf (qfz hl hv x y)]
  exact q9b fun z _ _=>q1i (q9t hl x y z)
theorem qc9 {p : List qg} (hl : p.length≤400) (hv : ∀ b∈p,vB b) (x y : Int) : 0≤colL p x y∧colL p x y≤2000000:=by
  rw [qca hl hv]
  refine ⟨qbi fun _ _ _=>qad.1,?_⟩
  have:=q9c (N:=1000000) (f:=fun z=>ind (hasB p x y z)) (g:=fun _=>1) fun _ _ _=>qad.2
  rw [qbg] at this
  omega
theorem qn0 {p : List qg} (hl : p.length≤400) (hv : ∀ b∈p,vB b) {x y : Int} (h : ¬ ∃ z,hasB p x y z) : colL p x y = 0:=by
  rw [qca hl hv,q9b (g:=fun _=>0) fun z _ _=>Z6 fun hz=>h ⟨z,hz⟩]
  exact qeo
theorem qmz {p : List qg} (hl : p.length≤400) (x y : Int) : 0 < (colJ p x y).length↔∃ z,hasB p x y z:=by
  constructor
  · intro h
    obtain ⟨t,ht⟩:=List.exists_mem_of_length_pos h
    have:=(q6n hl x y).can.1 t ht
    exact ⟨t.Lo,(q9t hl x y t.Lo).1 ⟨t,ht,by omega,by omega⟩⟩
  · rintro ⟨z,hz⟩
    obtain ⟨t,ht,_⟩:=(q9t hl x y z).2 hz
    exact List.length_pos_of_mem ht
noncomputable def fpF (p : List qg) : List qf:=mrgR 2 (p.map Yc) []
theorem qh0 {p : List qg} (hl : p.length≤400) (hv : ∀ b∈p,vB b) (x y : Int) : hasR (fpF p) x y↔∃ z,hasB p x y z:=by
  rw [fpF,qhj (by simp;omega)]
  constructor
  · rintro ⟨r,hr,h1,h2,h3,h4⟩
    obtain ⟨b,hb,rfl⟩:=List.mem_map.1 hr
    have:=hv b hb
    unfold vB at this
    exact ⟨b.Lo.Z,b,hb,⟨h1,h2⟩,⟨h3,h4⟩,Int.le_refl _,by omega⟩
  · rintro ⟨z,b,hb,⟨h1,h2⟩,⟨h3,h4⟩,_⟩
    exact ⟨Yc b,List.mem_map_of_mem hb,h1,h2,h3,h4⟩
theorem qcl {p : List qg} (hl : p.length≤400) : CanR (fpF p):=q7a 2 (by simp;omega)
theorem qh1 {p : List qg} (hv : ∀ b∈p,vB b) : ∀ r∈p.map Yc,vR r:=by
  intro r hr
  obtain ⟨b,hb,rfl⟩:=List.mem_map.1 hr
  have:=hv b hb
  unfold vB at this;unfold vR Yc;simp only;omega
theorem qod {p : List qg} (hl : p.length≤400) (hv : ∀ b∈p,vB b) : ∀ r∈fpF p,vR r:=
  (qcl hl).vR (InR.mrg (by simp;omega) (qz3 (qh1 hv)) InR.nil)
noncomputable def rowR (p : List qg) (r : qf) (x : Int) : Int:=sumN (r.Y1 - r.Y0).toNat (fun j=>colL p x (r.Y0 + j))
noncomputable def Jo (p : List qg) (r : qf) : Int:=sumN (r.X1 - r.X0).toNat (fun i=>rowR p r (r.X0 + i))
theorem qz7 {p : List qg} (hc : CanB p) (hl : p.length≤400) (hv : ∀ b∈p,vB b) : volL p = sumL (Jo p) (fpF p):=by
  rw [ql2 hc hv]
  have e1 : cnt3 1000000 (hasB p) = sumZ 1000000 fun x=>sumZ 1000000 fun y=>sumL (fun r=>ind (r.X0≤x∧x < r.X1) * (ind (r.Y0≤y∧y < r.Y1) * colL p x y)) (fpF p):=by
    unfold cnt3
    refine q9b fun x _ _=>q9b fun y _ _=>?_
    rw [← qca hl hv]
    have e2 : sumL (fun r=>ind (r.X0≤x∧x < r.X1) * (ind (r.Y0≤y∧y < r.Y1) * colL p x y)) (fpF p) = colL p x y * cntR (fpF p) x y:=by
      unfold cntR
      rw [← qys]
      refine qbf fun r _=>?_
      have : ind (inR r x y) = ind (r.X0≤x∧x < r.X1) * ind (r.Y0≤y∧y < r.Y1):=qcw
      rw [this,← Int.mul_assoc,Int.mul_comm]
    rw [e2,(qcl hl).cnt]
    by_cases h : hasR (fpF p) x y
    · rw [q4h h,Int.mul_one]
    · rw [Z6 h,Int.mul_zero]
      exact qn0 hl hv fun hh=>h ((qh0 hl hv x y).2 hh)
  rw [e1]
  have e2 : ∀ x : Int,(sumZ 1000000 fun y=>sumL (fun r=>ind (r.X0≤x∧x < r.X1) * (ind (r.Y0≤y∧y < r.Y1) * colL p x y)) (fpF p)) = sumL (fun r=>sumZ 1000000 fun y=>ind (r.X0≤x∧x < r.X1) * (ind (r.Y0≤y∧y < r.Y1) * colL p x y)) (fpF p):=fun x=>
    (q6f (fun (r : qf) (y : Int)=>ind (r.X0≤x∧x < r.X1) * (ind (r.Y0≤y∧y < r.Y1) * colL p x y)) (fpF p)).symm
  rw [show (fun x=>sumZ 1000000 fun y=>sumL (fun r=>ind (r.X0≤x∧x < r.X1) * (ind (r.Y0≤y∧y < r.Y1) * colL p x y)) (fpF p)) = fun x=>sumL (fun r=>sumZ 1000000 fun y=>ind (r.X0≤x∧x < r.X1) * (ind (r.Y0≤y∧y < r.Y1) * colL p x y)) (fpF p) from funext e2]
  rw [← q6f (fun (r : qf) (x : Int)=>sumZ 1000000 fun y=>ind (r.X0≤x∧x < r.X1) * (ind (r.Y0≤y∧y < r.Y1) * colL p x y)) (fpF p)]
  refine qbf fun r hr=>?_
  have hvr:=qod hl hv r hr
  unfold vR at hvr
  have e3 : (fun x : Int=>sumZ 1000000 fun y=>ind (r.X0≤x∧x < r.X1) * (ind (r.Y0≤y∧y < r.Y1) * colL p x y)) = fun x=>ind (r.X0≤x∧x < r.X1) * rowR p r x:=by
    funext x
    rw [q6g,qku (f:=fun y=>colL p x y) (by omega) (by omega) (by omega)]
    rfl
  rw [e3,qku (f:=fun x=>rowR p r x) (by omega) (by omega) (by omega)]
  rfl
theorem qg1 {p : List qg} (hp : Qz p = 0) (x y : Int) : column p x y = (colJ p x y,0):=by
  unfold column;rw [if_neg (by simp [hp])];rfl
theorem qfy {p : List qg} (hp : Qz p = 0) (hl : p.length≤30) (x y : Int) : Zu (colJ p x y) = 0:=by
  have h1:=(q6n (p:=p) (by omega) x y).len
  have h2:=q6o p x y
  unfold Zu
  rw [if_neg (by simp at h1;omega),if_pos (qfz (by omega) (J8.1 hp).2.1 x y)]
theorem qn4 {p : List qg} (hp : Qz p = 0) (hl : p.length≤30) (x y : Int) : q4o (colJ p x y) = some (colL p x y,0):=by
  rw [(qpi _).2,qag,if_pos (qfy hp hl x y)];rfl
theorem qjl {p : List qg} (hp : Qz p = 0) {r : qf} (hr : -20≤r.Y0∧r.Y1≤20) (x : Int) : 0≤rowR p r x∧rowR p r x≤80000000:=by
  obtain ⟨hl,hv,_⟩:=J8.1 hp
  have:=q9a (f:=fun j=>colL p x (r.Y0 + j)) (fun j=>qc9 hl hv x (r.Y0 + j)) (r.Y1 - r.Y0).toNat
  unfold rowR
  omega
theorem qmb {p : List qg} (hp : Qz p = 0) {r : qf} (hr : -20≤r.Y0∧r.Y1≤20) (hx : -20≤r.X0∧r.X1≤20) : 0≤Jo p r∧Jo p r≤3200000000:=by
  have:=q9a (f:=fun i=>rowR p r (r.X0 + i)) (fun i=>qjl hp hr (r.X0 + i)) (r.X1 - r.X0).toNat
  unfold Jo
  omega
theorem qn3 {p : List qg} (hp : Qz p = 0) (hl : p.length≤30) {F : List qf} {e : Int} {i : Nat} (hi : i < F.length) (hr : -20≤F[i].Y0∧F[i].Y0 < F[i].Y1∧F[i].Y1≤20) (q s0 x : Int) (hs : 0≤s0∧s0≤1000000000000000) :
    loop (q2o (F,e) (q,(i : Int)) p (s0,x)) (s0,F[i].Y0) = some (.inl (s0 + rowR p F[i] x)):=by
  obtain ⟨_,hv,_⟩:=J8.1 hp
  have key:=Yp (f:=q2o (F,e) (q,(i : Int)) p (s0,x)) (fun k=>(s0 + sumN k (fun j=>colL p x (F[i].Y0 + j)),F[i].Y0 + (k : Int))) (F[i].Y1 - F[i].Y0).toNat (.inl (s0 + rowR p F[i] x)) (fun k hk=>by
    have hd : decide (F[i].Y0 + (k : Int) < F[i].Y1) = true:=decide_eq_true (by omega)
    have b1:=q9a (f:=fun j=>colL p x (F[i].Y0 + j)) (fun j=>qc9 (by omega) hv x (F[i].Y0 + j)) k
    have b2:=qc9 (by omega : p.length≤400) hv x (F[i].Y0 + k)
    have w1 : w64 (s0 + sumN k (fun j=>colL p x (F[i].Y0 + j)) + colL p x (F[i].Y0 + k)) = s0 + sumN (k + 1) (fun j=>colL p x (F[i].Y0 + j)):=by rw [sumN,qz (by omega)];omega
    have w2 : w64 (F[i].Y0 + (k : Int) + 1) = F[i].Y0 + ((k + 1 : Nat) : Int):=by rw [qz (by omega)];omega
    simp only [q2o,Qf hi,Option.bind_some,hd,cond_true,qdw,qg1 hp,qn4 hp hl,show ((0 : Int) != 0) = false from rfl,cond_false,w1,w2]) (by
    have hd : decide (F[i].Y0 + (((F[i].Y1 - F[i].Y0).toNat : Nat) : Int) < F[i].Y1) = false:=decide_eq_false (by omega)
    simp only [q2o,Qf hi,Option.bind_some,hd,cond_false]
    rfl) (Nat.zero_le _)
  have e0 : s0 + sumN 0 (fun j=>colL p x (F[i].Y0 + j)) = s0:=by rw [sumN];omega
  have e1 : F[i].Y0 + ((0 : Nat) : Int) = F[i].Y0:=by omega
  simp only [e0,e1] at key
  exact key
theorem qn2 {p : List qg} (hp : Qz p = 0) (hl : p.length≤30) {F : List qf} {e : Int} {i : Nat} (hi : i < F.length) (hr : -20≤F[i].Y0∧F[i].Y0 < F[i].Y1∧F[i].Y1≤20) (hx : -20≤F[i].X0∧F[i].X0 < F[i].X1∧F[i].X1≤20) (s0 : Int) (hs : 0≤s0∧s0≤100000000000000) :
    loop (q2n (F,e) (s0,(i : Int)) p) (s0,F[i].X0) = some (.inl (s0 + Jo p F[i])):=by
  have key:=Yp (f:=q2n (F,e) (s0,(i : Int)) p) (fun k=>(s0 + sumN k (fun j=>rowR p F[i] (F[i].X0 + j)),F[i].X0 + (k : Int))) (F[i].X1 - F[i].X0).toNat (.inl (s0 + Jo p F[i])) (fun k hk=>by
    have hd : decide (F[i].X0 + (k : Int) < F[i].X1) = true:=decide_eq_true (by omega)
    have b1:=q9a (f:=fun j=>rowR p F[i] (F[i].X0 + j)) (fun j=>qjl hp ⟨hr.1,hr.2.2⟩ (F[i].X0 + j)) k
    have h3:=qn3 (e:=e) hp hl hi hr s0 (s0 + sumN k (fun j=>rowR p F[i] (F[i].X0 + j))) (F[i].X0 + k) (by omega)
    have w2 : w64 (F[i].X0 + (k : Int) + 1) = F[i].X0 + ((k + 1 : Nat) : Int):=by rw [qz (by omega)];omega
    simp only [q2n,Qf hi,Option.bind_some,hd,cond_true,h3,w2]
    rw [sumN,← Int.add_assoc]) (by
    have hd : decide (F[i].X0 + (((F[i].X1 - F[i].X0).toNat : Nat) : Int) < F[i].X1) = false:=decide_eq_false (by omega)
    simp only [q2n,Qf hi,Option.bind_some,hd,cond_false]
    rfl) (Nat.zero_le _)
  have e0 : s0 + sumN 0 (fun j=>rowR p F[i] (F[i].X0 + j)) = s0:=by rw [sumN];omega
  have e1 : F[i].X0 + ((0 : Nat) : Int) = F[i].X0:=by omega
  simp only [e0,e1] at key
  exact key
theorem qn1 {p : List qg} (hp : Qz p = 0) (hl : p.length≤30) {e : Int} (hF : (fpF p).length≤400) :
    loop (Jg (fpF p,e) true p) (0,0) = some (.inr true)∨loop (Jg (fpF p,e) true p) (0,0) = some (.inl (volL p)):=by
  obtain ⟨_,hv,hcan⟩:=J8.1 hp
  have hlt:=(qcl (p:=p) (by omega)).lt
  generalize hFe : fpF p = F at hF hlt ⊢
  have key:=Z7 (f:=Jg (F,e) true p) (σ:=Unit) (fun k _=>(sumL (Jo p) (F.take k),(k : Int))) F.length
    (fun k _=>∀ j (h : j < F.length),j < k→(-20≤F[j].Y0∧F[j].Y1≤20)∧(-20≤F[j].X0∧F[j].X1≤20)) (fun b=>b = .inr true∨b = .inl (sumL (Jo p) F)) ?_ ?_ (k0:=0) (c0:=()) (by omega) (by intro j _ h;omega)
  · obtain ⟨b,h1,h2⟩:=key
    have h1 : loop (Jg (F,e) true p) (0,0) = some b:=h1
    rcases h2 with rfl | rfl
    · exact .inl h1
    · rw [qz7 hcan (by omega) hv,hFe];exact .inr h1
  · intro k _ hk hinv
    have hdl : decide ((k : Int) < (F.length : Int)) = true:=decide_eq_true (by omega)
    by_cases c1 : min F[k].X0 F[k].Y0 < -20
    · refine .inr ⟨.inr true,?_,.inl rfl⟩
      simp only [Jg,hdl,cond_true,Qf hk,Option.bind_some,decide_eq_true c1]
    by_cases c2 : max F[k].X1 F[k].Y1 > 20
    · refine .inr ⟨.inr true,?_,.inl rfl⟩
      simp only [Jg,hdl,cond_true,Qf hk,Option.bind_some,decide_eq_false c1,decide_eq_true c2,cond_false]
    have h0:=hlt _ (List.getElem_mem hk)
    have hb:=qkn (f:=Jo p) (B:=3200000000) (F.take k) (fun r hr=>by
      obtain ⟨j,hj,rfl⟩:=List.getElem_of_mem hr
      rw [List.length_take] at hj
      rw [List.getElem_take]
      have:=hinv j (by omega) (by omega)
      exact qmb hp this.1 this.2)
    rw [List.length_take] at hb
    have h2:=qn2 (e:=e) hp hl hk (by omega) (by omega) (sumL (Jo p) (F.take k)) (by omega)
    refine .inl ⟨(),?_,fun j h hj=>?_⟩
    · have w2 : w64 ((k : Int) + 1) = ((k + 1 : Nat) : Int):=by rw [qz (by omega)];omega
      simp only [Jg,hdl,cond_true,Qf hk,Option.bind_some,decide_eq_false c1,decide_eq_false c2,cond_false,h2,w2]
      rw [List.take_succ_eq_append_getElem hk,qem]
      simp [sumL]
    · by_cases e : j = k
      · subst e;omega
      · exact hinv j h (by omega)
  · intro _ hi
    have hd : decide ((F.length : Int) < (F.length : Int)) = false:=decide_eq_false (by omega)
    refine ⟨_,?_,.inr rfl⟩
    simp only [Jg,hd,cond_false]
    rw [List.take_length]
open Classical in
theorem qzx (p : List qg) (v : qi) : qae p v = some true:=by
  unfold qae
  rw [qlh]
  simp only [Option.bind_some,qrz]
  by_cases h1 : p.length > 30
  · rw [decide_eq_true (by omega : (p.length : Int) > 30)];rfl
  rw [decide_eq_false (by omega : ¬ (p.length : Int) > 30)]
  by_cases h2 : ¬ Qz p = 0
  · have : (Qz p != 0) = true:=by simpa using h2
    rw [this];rfl
  replace h2:=Classical.not_not.1 h2
  have hl : p.length≤30:=by omega
  obtain ⟨_,hv,_⟩:=J8.1 h2
  have l400 : p.length≤400:=by omega
  have hjl:=(q6n l400 v.X v.Y).len
  have hsl:=q6o p v.X v.Y
  have hjl : (colJ p v.X v.Y).length≤1000000:=by simp at hjl;omega
  have hh : decide (has (colJ p v.X v.Y) v.Z) = decide (hasB p v.X v.Y v.Z):=decide_eq_decide.2 (q9t l400 v.X v.Y v.Z)
  have h00 : ((0 : Int) != 0) = false:=rfl
  have hfp : footprint p = if 400 < (fpF p).length then ([],4) else (fpF p,0):=by
    unfold footprint
    rw [if_neg (by simp [h2]),mkR,if_neg (by simp;omega),if_pos (qh1 hv)];rfl
  simp only [h2,h00,cond_false,Option.bind_some,Bool.not_true,qdw,qg1 h2,qsd,qj4,qfy h2 hl,qdr _ _ hjl,qxn p v (by omega),hfp]
  rw [hh]
  simp only [beq_self_eq_true,Bool.not_true,cond_false]
  by_cases hF : 400 < (fpF p).length
  · rw [if_pos hF];rfl
  rw [if_neg hF]
  have hpos : decide (hasR (fpF p) v.X v.Y) = decide (((colJ p v.X v.Y).length : Int) > 0):=decide_eq_decide.2 ((qh0 l400 hv v.X v.Y).trans ((qmz l400 v.X v.Y).symm.trans (by omega)))
  simp only [h00,cond_false,qdt _ _ _ (by omega : (fpF p).length≤1000000),hpos,Option.bind_some,beq_self_eq_true,Bool.not_true]
  rcases qn1 (e:=0) h2 hl (by omega) with e | e
  · rw [e];rfl
  · rw [e]
    simp only [Option.bind_some,qka,volume,h2,ne_eq,not_true_eq_false,if_false,beq_self_eq_true,cond_true]
end Go.Sh
