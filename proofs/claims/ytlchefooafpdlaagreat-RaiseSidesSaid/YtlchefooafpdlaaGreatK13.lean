/- Ru1 Ru2 Ru3 Ru4 Rs9 Ru5 Ru6 Ru7 Ru8 -/
import Derived.Test.YtlchefooafpdlaaGreatK12
namespace Go.Sh
open Go Go.Am
def colS (s : List qk) (x y : Int) : List qm:=s.flatMap fun b=>if decide (b.Lo.X≤x∧x < b.Hi.X) && decide (b.Lo.Y≤y∧y < b.Hi.Y) then [{Lo:=b.Lo.Z,Hi:=b.Hi.Z}] else []
theorem qh8 (s : List qk) (x y : Int) : (colS s x y).length≤s.length:=by
  unfold colS
  induction s with
  | nil=>simp
  | cons r l ih=>
    simp only [List.flatMap_cons,List.length_append,List.length_cons]
    have : (if (decide (r.Lo.X≤x∧x < r.Hi.X) && decide (r.Lo.Y≤y∧y < r.Hi.Y)) = true then [({Lo:=r.Lo.Z,Hi:=r.Hi.Z} : qm)] else []).length≤1:=by split <;> simp
    omega
theorem qow {s : List qk} (h : ∀ b∈s,vB b) (x y : Int) : ∀ t∈colS s x y,vld t:=by
  intro t ht
  unfold colS at ht
  rw [List.mem_flatMap] at ht
  obtain ⟨b,hb,h1⟩:=ht
  split at h1
  · obtain rfl:=List.mem_singleton.1 h1
    have:=h b hb
    unfold vB at this
    unfold vld
    simp only
    omega
  · cases h1
noncomputable def column (s : List qk) (x y : Int) : List qm × Int:=if K7 s≠0 then ([],K7 s) else (Zf 2 (colS s x y) [],0)
theorem qtd (s : List qk) (x y : Int) : q82 s x y = some (column s x y):=by
  unfold q82 column
  rw [qby,Option.bind_some]
  by_cases h : ¬ K7 s = 0
  · have : (K7 s != 0) = true:=by simpa using h
    rw [if_pos h,this,cond_true]
  replace h:=Classical.not_not.1 h
  obtain ⟨hl,hv,_⟩:=Zv.1 h
  rw [if_neg (by simp [h]),h,show ((0 : Int) != 0) = false from rfl,cond_false]
  have:=q47 s q7 (fun b=>if decide (b.Lo.X≤x∧x < b.Hi.X) && decide (b.Lo.Y≤y∧y < b.Hi.Y) then [({Lo:=b.Lo.Z,Hi:=b.Hi.Z} : qm)] else []) [] (fun o=>o) (q53 s x y) (fun k hk o ho=>by
    have h8 : o.length≤k:=by rw [ho,List.nil_append];have:=qh8 (s.take k) x y;rw [List.length_take,Nat.min_eq_left q7] at this;exact this
    simp only [q53,dlt hk,cond_true,K1 hk,Option.bind_some,w64s hk q7]
    by_cases h1 : s[k].Lo.X≤x <;> by_cases h2 : x < s[k].Hi.X <;> by_cases h3 : s[k].Lo.Y≤y <;> by_cases h4 : y < s[k].Hi.Y <;> simp [h1,h2,h3,h4]
    all_goals (rw [Za (by simp;omega)];rfl)) (fun o=>by simp only [q53,dnl,cond_false])
  rw [List.nil_append] at this
  have hmk : q2w (colS s x y) = some (Zf 2 (colS s x y) [],0):=by
    have:=qh8 s x y
    rw [qjk]
    unfold qaw
    rw [if_neg q7,if_pos (qow hv x y)]
  rw [this]
  simp only [Option.bind_some]
  rw [show s.flatMap (fun b=>if decide (b.Lo.X≤x∧x < b.Hi.X) && decide (b.Lo.Y≤y∧y < b.Hi.Y) then [({Lo:=b.Lo.Z,Hi:=b.Hi.Z} : qm)] else []) = colS s x y from rfl,hmk]
  rfl
end Go.Sh
namespace Go.Sh
open Go Go.Am
def badH (s : K4) : Bool:=decide (s.Height < 1) || decide (s.Height > 1000000)
theorem qzl (s : K4) : q1f s = some (badH s):=by
  unfold q1f badH
  by_cases h : s.Height < 1 <;> simp [h]
theorem qzn (l : List K4) (hl : l.length≤100) : q8h l (fun x0=>q1f x0) = some (l.any badH):=by
  have hs : ∀ (k : Nat) (h : k < l.length),q3q l (fun x0=>q1f x0) (k : Int) = some (if badH l[k] = true then .inr (.inr (k : Int)) else .inl ((k + 1 : Nat) : Int)):=by
    intro k h
    simp only [q3q,dlt h,cond_true,K1 h,Option.bind_some,w64s h (by omega : l.length≤1000000),qzl]
    cases badH l[k] <;> simp
  have hd : q3q l (fun x0=>q1f x0) (l.length : Int) = some (.inr (.inl ())):=by simp only [q3q,dnl,cond_false]
  unfold q8h qbu
  rcases q7g l badH (fun k _=>(k : Int)) () _ hs hd with ⟨h1,h2⟩ | ⟨k,hk,hc,_,h2⟩
  · rw [h2]
    have : l.any badH = false:=by
      rw [List.any_eq_false];intro x hx;simp [h1 x hx]
    rw [this];rfl
  · rw [h2]
    have : l.any badH = true:=List.any_eq_true.2 ⟨_,List.getElem_mem hk,hc⟩
    rw [this]
    simp only [Option.bind_some]
    rw [decide_eq_true q7]
theorem qzm {l : List K4} (hl : l.length≤100) (hc : ∀ s∈l,Kh s.Region = 0) : loop (q3k l) 0 = some (.inl ()):=
  Zp (f:=q3k l) (fun k=>(k : Int)) l.length _ (fun k hk=>by
    simp only [q3k,dlt hk,cond_true,K1 hk,Option.bind_some,w64s hk (by omega : l.length≤1000000),qet,hc _ (List.getElem_mem hk)];rfl) (by simp only [q3k,dnl,cond_false]) (Nat.zero_le _)
noncomputable def q9m (l : List K4) (z : Int) : List qk:=(Qo putB Qn (Kq z l)).flat putB
theorem qzx {l : List K4} {z : Int} {x : Int × Int × List ql} (hx : x∈Kq z l) : ∃ s∈l,x.2.2 = s.Region:=by
  obtain ⟨k,hk,rfl⟩:=List.getElem_of_mem hx
  rw [qfj] at hk
  rw [qfi l z k hk]
  exact ⟨_,List.getElem_mem hk,rfl⟩
theorem qzo {l : List K4} {z : Int} (hn : l.length≤100) (hz : Jy z) (hH : ∀ s∈l,1≤s.Height∧s.Height≤1000000) (hR : ∀ s∈l,s.Region.length≤400) (hA : ∀ k,k≤l.length→zAt z l k≤1000000) :
    loop (q3l l) (z,0,[],0,0,[]) = some (.inl ((Qo putB Qn (Kq z l)).sec,((Qo putB Qn (Kq z l)).done.length : Int),(Qo putB Qn (Kq z l)).hi,q9m l z)):=by
  have hlen:=qfj l z
  have hM : ∀ t∈Kq z l,t.2.2.length≤400:=fun x hx=>by
    obtain ⟨s,hs,e⟩:=qzx hx
    rw [e];exact hR s hs
  have hml : ∀ i,((Qo putB Qn ((Kq z l).take i)).flat putB).length≤40000:=fun i=>by
    have h1:=qaj putB (s0:=Qn) (M:=400) (steps:=(Kq z l).take i) (fun t ht=>hM t (List.mem_of_mem_take ht))
    have h2 : ((Kq z l).take i).length≤100:=by rw [List.length_take];omega
    have h3 : (Qn.flat putB : List qk).length = 0:=rfl
    have h4 : ((Kq z l).take i).length * 400≤100 * 400:=Nat.mul_le_mul_right _ h2
    omega
  have hlow : ∀ k,k≤l.length→-1000000≤zAt z l k:=by
    intro k
    induction k with
    | zero=>intro _;rw [qck];exact hz.1
    | succ k ih=>
      intro hk
      rw [qg1 l z k q7]
      have:=hH _ (List.getElem_mem (by omega : k < l.length))
      have:=ih q7
      omega
  have key:=Zp (f:=q3l l) (fun k=>(zAt z l k,(k : Int),(Qo putB Qn ((Kq z l).take k)).sec,((Qo putB Qn ((Kq z l).take k)).done.length : Int),(Qo putB Qn ((Kq z l).take k)).hi,(Qo putB Qn ((Kq z l).take k)).flat putB)) l.length
    (.inl ((Qo putB Qn (Kq z l)).sec,((Qo putB Qn (Kq z l)).done.length : Int),(Qo putB Qn (Kq z l)).hi,(Qo putB Qn (Kq z l)).flat putB)) (fun k hk=>by
      have hr:=hR _ (List.getElem_mem hk)
      have hm:=hml k
      have h1:=hA (k + 1) q7
      have hd : decide (zAt z l (k + 1) > 1000000) = false:=decide_eq_false q7
      have ha : w64 (zAt z l k + l[k].Height) = zAt z l (k + 1):=by
        have h2:=hlow k q7
        have h3:=hH _ (List.getElem_mem hk)
        have h4:=hA k q7
        rw [Q0 q7,qg1 l z k hk]
      have hadd:=quh (Qo putB Qn ((Kq z l).take k)) (zAt z l k) (zAt z l (k + 1)) l[k].Region q7
      rw [qak putB (by omega : k < (Kq z l).length),qfi l z k hk]
      simp only [q3l,dlt hk,cond_true,K1 hk,Option.bind_some,ha,hd,cond_false,hadd,w64s hk (by omega : l.length≤1000000)]) (by
      rw [← hlen,List.take_length,hlen]
      simp only [q3l,dnl,cond_false]) (Nat.zero_le _)
  have e0:=qck z l
  simp only [List.take_zero,e0] at key
  exact key
theorem qzp {l : List K4} {z : Int} (hn : l.length≤100) (hz : Jy z) (hc : ∀ s∈l,Kh s.Region = 0) (hH : ∀ s∈l,1≤s.Height∧s.Height≤1000000) (hA : ∀ k,k≤l.length→zAt z l k≤1000000) (hl : (q9m l z).length≤400) :
    q3j l z = some (q9m l z,0):=by
  unfold q3j
  have : decide ((l.length : Int) > 100) = false:=decide_eq_false q7
  rw [this,cond_false,qzm hn hc]
  have hany : l.any badH = false:=by
    rw [List.any_eq_false]
    intro s hs
    have:=hH s hs
    simp only [badH,Bool.or_eq_true,decide_eq_true_eq]
    omega
  simp only [Option.bind_some,qkt,qzn l hn,hany,decide_eq_true hz,Bool.not_true,cond_false,qzo hn hz hH (fun s hs=>(q35.1 (hc s hs)).1) hA]
  rw [decide_eq_false (by omega : ¬ ((q9m l z).length : Int) > 400)]
  rfl
def q114 : Q2 × Q2 × Q2 × Q2 × Q2 × Q2:=(Kf,Kf,Kf,Kf,Kf,Kf)
theorem qeq {s : Q2} (ht : 0≤s.Frame.Turn) : q56 s = some (if SOk s then 0 else 8):=by
  unfold q56
  by_cases hs : SOk s
  · obtain ⟨u,hu⟩ : ∃ u : Nat,s.Frame.Turn = u:=⟨s.Frame.Turn.toNat,q7⟩
    have h : Zz s ⟨0,0,0⟩ ⟨0,0,0⟩ ((0 : Nat) : Int) = _:=qcp (t:=0) hu hs q7 (by unfold InV;simp) (by unfold InV;simp)
    have u24 : u < 24:=by have:=hs.1.1;omega
    rw [qox u u24,qqn,← hu,if_pos hs.1] at h
    have h : Zz s ⟨0,0,0⟩ ⟨0,0,0⟩ 0 = some (⟨⟨s.Frame.Turn,s.Frame.At⟩,⟨0,0,0⟩⟩,0):=h
    rw [h,if_pos hs];rfl
  · rw [qn3 hs,if_neg hs];rfl
theorem qhu (s : Q2) : J6 s.Size 0 = some (10,⟨s.Size.X,0,0⟩,⟨s.Size.Y,s.Size.Z,0⟩):=rfl
theorem qhv (s : Q2) : J6 s.Size 1 = some (11,⟨0,0,s.Size.Z⟩,⟨s.Size.Y,s.Size.Z,0⟩):=rfl
theorem qhw (s : Q2) : J6 s.Size 2 = some (3,⟨0,s.Size.Y,s.Size.Z⟩,⟨s.Size.X,s.Size.Z,0⟩):=rfl
theorem qhx (s : Q2) : J6 s.Size 3 = some (2,⟨0,0,0⟩,⟨s.Size.X,s.Size.Z,0⟩):=rfl
theorem qhy (s : Q2) : J6 s.Size 4 = some (0,⟨0,0,s.Size.Z⟩,⟨s.Size.X,s.Size.Y,0⟩):=rfl
theorem qhz (s : Q2) : J6 s.Size 5 = some (1,⟨0,s.Size.Y,0⟩,⟨s.Size.X,s.Size.Y,0⟩):=rfl
theorem qku {s : Q2} {d : Int} {t : Int} {at_ flat : qi} {out : List Q2} {r : Q2 × Int} (hd : d < 6) (hf : J6 s.Size d = some (t,at_,flat)) (hi : Zz s at_ flat t = some r) (hx : ∃ v,idxA 6 out d = some v) :
    U5 (d,out,s.Frame.Turn,s.Frame.At.X,s.Frame.At.Y,s.Frame.At.Z,s.Size.X,s.Size.Y,s.Size.Z) =
      cond (r.2 != 0) (some (.inr (.inr (q114,r.2)))) (some (.inl (w64 (d + 1),out.set d.toNat r.1,s.Frame.Turn,s.Frame.At.X,s.Frame.At.Y,s.Frame.At.Z,s.Size.X,s.Size.Y,s.Size.Z))):=by
  obtain ⟨v,hv⟩:=hx
  have e : q83 d s.Frame.Turn s.Frame.At.X s.Frame.At.Y s.Frame.At.Z s.Size.X s.Size.Y s.Size.Z out = some (r.2,s.Frame.Turn,s.Frame.At.X,s.Frame.At.Y,s.Frame.At.Z,s.Size.X,s.Size.Y,s.Size.Z,out.set d.toNat r.1):=by
    unfold q83
    have h1 : J6 ({X:=s.Size.X,Y:=s.Size.Y,Z:=s.Size.Z} : qi) d = some (t,at_,flat):=hf
    have h2 : Zz ({Frame:=({Turn:=s.Frame.Turn,At:=({X:=s.Frame.At.X,Y:=s.Frame.At.Y,Z:=s.Frame.At.Z} : qi)} : Qq),Size:=({X:=s.Size.X,Y:=s.Size.Y,Z:=s.Size.Z} : qi)} : Q2) at_ flat t = some r:=hi
    simp only [h1,h2,hv,Option.bind_some]
  unfold U5
  simp only [decide_eq_true hd,cond_true,e,Option.bind_some]
  rfl
theorem idx6 {out : List Q2} (h : out.length = 6) {k : Nat} (hk : k < 6) : ∃ v,idxA 6 out (k : Int) = some v:=by
  unfold idxA
  rw [if_pos ⟨q7,q7⟩]
  exact ⟨_,List.getElem?_eq_getElem (by simpa using (by omega : k < out.length))⟩
def Yl : Q2:=⟨⟨0,⟨0,0,0⟩⟩,⟨2,3,4⟩⟩
theorem qoy : ∀ t : Nat,t < 24→Zb t 0 = t:=by decide +kernel
theorem qqm (a : qi) : Yd 0 ⟨0,0,0⟩ a = a:=by
  obtain ⟨x,y,z⟩:=a
  unfold Yd addV mulV;rw [qgj];simp
theorem q10e (t : Nat) (a z : qi) (h : t < 24) (ha : InV a (-1000000)) (hz : InV z 0) : Zz Yl a z (t : Int) = some (⟨⟨(t : Int),a⟩,z⟩,0):=by
  have:=qcp (s:=Yl) (u:=0) (t:=t) rfl qt h ha hz
  rw [qoy t h] at this
  rw [this,show Yl.Frame.At = ⟨0,0,0⟩ from rfl,qqm,if_pos ⟨by simp only;omega,ha⟩]
theorem qpw : ∃ f1 f2 f3 f5,q2j Yl = some ((⟨⟨10,⟨2,0,0⟩⟩,⟨3,4,0⟩⟩,f1,f2,f3,⟨⟨0,⟨0,0,4⟩⟩,⟨2,3,0⟩⟩,f5),0):=by
  have st : ∀ (k t : Nat) (a z : qi) (out : List Q2),k < 6→t < 24→InV a (-1000000)→InV z 0→J6 Yl.Size (k : Int) = some ((t : Int),a,z)→out.length = 6→
      U5 ((k : Int),out,0,0,0,0,2,3,4) = some (.inl (((k + 1 : Nat) : Int),out.set k ⟨⟨(t : Int),a⟩,z⟩,0,0,0,0,2,3,4)):=by
    intro k t a z out hk ht ha hz hf ho
    have:=qku (s:=Yl) (d:=(k : Int)) q7 hf (q10e t a z ht ha hz) (idx6 ho hk)
    have hw : w64 ((k : Int) + 1) = ((k + 1 : Nat) : Int):=by rw [Q0 q7];omega
    rw [hw] at this
    exact this
  refine ⟨⟨⟨11,⟨0,0,4⟩⟩,⟨3,4,0⟩⟩,⟨⟨3,⟨0,3,4⟩⟩,⟨2,4,0⟩⟩,⟨⟨2,⟨0,0,0⟩⟩,⟨2,4,0⟩⟩,⟨⟨1,⟨0,3,0⟩⟩,⟨2,3,0⟩⟩,?_⟩
  unfold q2j
  rw [qeq qt,if_pos qt]
  have h0 : ((0 : Int) != 0) = false:=rfl
  simp only [Option.bind_some,h0,cond_false]
  have e : loop U5 (((0 : Nat) : Int),[Kf,Kf,Kf,Kf,Kf,Kf],0,0,0,0,2,3,4) = some (.inl [⟨⟨10,⟨2,0,0⟩⟩,⟨3,4,0⟩⟩,⟨⟨11,⟨0,0,4⟩⟩,⟨3,4,0⟩⟩,⟨⟨3,⟨0,3,4⟩⟩,⟨2,4,0⟩⟩,⟨⟨2,⟨0,0,0⟩⟩,⟨2,4,0⟩⟩,⟨⟨0,⟨0,0,4⟩⟩,⟨2,3,0⟩⟩,⟨⟨1,⟨0,3,0⟩⟩,⟨2,3,0⟩⟩]):=by
    rw [Qv (st 0 10 _ _ _ q7 q7 qt qt (qhu Yl) rfl)]
    rw [Qv (st 1 11 _ _ _ q7 q7 qt qt (qhv Yl) rfl)]
    rw [Qv (st 2 3 _ _ _ q7 q7 qt qt (qhw Yl) rfl)]
    rw [Qv (st 3 2 _ _ _ q7 q7 qt qt (qhx Yl) rfl)]
    rw [Qv (st 4 0 _ _ _ q7 q7 qt qt (qhy Yl) rfl)]
    rw [Qv (st 5 1 _ _ _ q7 q7 qt qt (qhz Yl) rfl)]
    exact K8 rfl
  replace e : loop U5 (0,[Kf,Kf,Kf,Kf,Kf,Kf],0,0,0,0,2,3,4) = some (.inl [⟨⟨10,⟨2,0,0⟩⟩,⟨3,4,0⟩⟩,⟨⟨11,⟨0,0,4⟩⟩,⟨3,4,0⟩⟩,⟨⟨3,⟨0,3,4⟩⟩,⟨2,4,0⟩⟩,⟨⟨2,⟨0,0,0⟩⟩,⟨2,4,0⟩⟩,⟨⟨0,⟨0,0,4⟩⟩,⟨2,3,0⟩⟩,⟨⟨1,⟨0,3,0⟩⟩,⟨2,3,0⟩⟩]):=e
  unfold Kf at e
  rw [show Yl.Frame.Turn = 0 from rfl,show Yl.Frame.At.X = 0 from rfl,show Yl.Frame.At.Y = 0 from rfl,show Yl.Frame.At.Z = 0 from rfl,show Yl.Size.X = 2 from rfl,show Yl.Size.Y = 3 from rfl,show Yl.Size.Z = 4 from rfl,e]
  rfl
def rc (a b c d : Int) : ql:={X0:=a,Y0:=b,X1:=c,Y1:=d}
def stL : List K4:=[{Region:=[rc 0 0 2 2],Height:=1},{Region:=[rc 0 0 1 1],Height:=2}]
def stB : List qk:=[bx 0 0 0 2 2 1,bx 0 0 1 1 1 3]
theorem qgu {l : List ql} (h : l.length≤400∧(∀ r∈l,vR r)∧isR l) : Kh l = 0:=q35.2 ⟨h.1,h.2.1,h.2.2.can⟩
theorem qzk : ∀ s∈stL,Kh s.Region = 0:=by
  intro s hs
  simp only [stL,List.mem_cons,List.not_mem_nil,or_false] at hs
  rcases hs with rfl | rfl <;> exact qgu qt
theorem qm9 : q9m stL 0 = stB:=rfl
theorem qnh : q7p = some true:=by
  have hc : K7 stB = 0:=qgt qt
  have hp : q54 [rc 0 0 2 3] 1 5 = some ([bx 0 0 1 2 3 5],0):=by
    rw [qtg,qel,if_neg (by rw [qgu qt];simp),if_pos (by unfold Jy;omega)];rfl
  have hpc : K7 [bx 0 0 1 2 3 5] = 0:=qgt qt
  have hv : volume [bx 0 0 1 2 3 5] = (24,0):=by unfold volume;rw [if_neg (by simp [hpc])];rfl
  have hv2 : volume stB = (6,0):=by unfold volume;rw [if_neg (by simp [hc])];rfl
  have hst : q3j stL 0 = some (stB,0):=by
    rw [qzp qt (by unfold Jy;omega) qzk qt (fun k hk=>?_) (by rw [qm9];decide),qm9]
    have : k = 0∨k = 1∨k = 2:=by have : stL.length = 2:=rfl;omega
    rcases this with rfl | rfl | rfl <;> decide
  have hcol : column stB 0 0 = ([{Lo:=0,Hi:=3}],0):=by
    unfold column
    rw [if_neg (by simp [hc]),show colS stB 0 0 = [{Lo:=0,Hi:=1},{Lo:=1,Hi:=3}] from rfl]
    have hj:=(q4s 2 [({Lo:=0,Hi:=1} : qm),{Lo:=1,Hi:=3}] [] qf qf).2
    have : Zf 2 [({Lo:=0,Hi:=1} : qm),{Lo:=1,Hi:=3}] [] = [{Lo:=0,Hi:=3}]:=q4d hj.1 (by unfold Can;simp) fun x=>by
      rw [hj.2,qar];unfold has;simp;omega
    rw [this]
  obtain ⟨f1,f2,f3,f5,hf⟩:=qpw
  unfold q7p
  simp only [show q2g 0 0 2 3 = some [rc 0 0 2 3] from rfl,show q2g 0 0 2 2 = some [rc 0 0 2 2] from rfl,show q2g 0 0 1 1 = some [rc 0 0 1 1] from rfl,show qav = some Yl from rfl,Option.bind_some,hp,qyy,hv,hf,
    show q3j [({Region:=[rc 0 0 2 2],Height:=1} : K4),({Region:=[rc 0 0 1 1],Height:=2} : K4)] 0 = some (stB,0) from hst,hv2,qtd,hcol,qui [{Lo:=0,Hi:=3}] [{Lo:=0,Hi:=3}] qf]
  rfl
end Go.Sh
namespace Go.Sh
open Go Go.Am
def qnu (z : Int) (l : List K4) (a b w : Int) (k : Nat) : Prop:=∃ j,∃ h : j < l.length,j < k∧(zAt z l j≤w∧w < zAt z l (j + 1))∧hasR l[j].Region a b
noncomputable instance (z : Int) (l : List K4) (a b w : Int) (k : Nat) : Decidable (qnu z l a b w k):=Classical.propDecidable _
end Go.Sh
namespace Go.Sh
open Go Go.Am
end Go.Sh
namespace Go.Sh
open Go Go.Am
def tbl : List V3:=[(⟨1,0,0⟩,⟨0,1,0⟩,⟨0,0,1⟩),(⟨1,0,0⟩,⟨0,-1,0⟩,⟨0,0,-1⟩),(⟨1,0,0⟩,⟨0,0,1⟩,⟨0,-1,0⟩),(⟨1,0,0⟩,⟨0,0,-1⟩,⟨0,1,0⟩),(⟨-1,0,0⟩,⟨0,1,0⟩,⟨0,0,-1⟩),(⟨-1,0,0⟩,⟨0,-1,0⟩,⟨0,0,1⟩),(⟨-1,0,0⟩,⟨0,0,1⟩,⟨0,1,0⟩),(⟨-1,0,0⟩,⟨0,0,-1⟩,⟨0,-1,0⟩),(⟨0,1,0⟩,⟨1,0,0⟩,⟨0,0,-1⟩),(⟨0,1,0⟩,⟨-1,0,0⟩,⟨0,0,1⟩),(⟨0,1,0⟩,⟨0,0,1⟩,⟨1,0,0⟩),(⟨0,1,0⟩,⟨0,0,-1⟩,⟨-1,0,0⟩),(⟨0,-1,0⟩,⟨1,0,0⟩,⟨0,0,1⟩),(⟨0,-1,0⟩,⟨-1,0,0⟩,⟨0,0,-1⟩),(⟨0,-1,0⟩,⟨0,0,1⟩,⟨-1,0,0⟩),(⟨0,-1,0⟩,⟨0,0,-1⟩,⟨1,0,0⟩),(⟨0,0,1⟩,⟨1,0,0⟩,⟨0,1,0⟩),(⟨0,0,1⟩,⟨-1,0,0⟩,⟨0,-1,0⟩),(⟨0,0,1⟩,⟨0,1,0⟩,⟨-1,0,0⟩),(⟨0,0,1⟩,⟨0,-1,0⟩,⟨1,0,0⟩),(⟨0,0,-1⟩,⟨1,0,0⟩,⟨0,-1,0⟩),(⟨0,0,-1⟩,⟨-1,0,0⟩,⟨0,1,0⟩),(⟨0,0,-1⟩,⟨0,1,0⟩,⟨1,0,0⟩),(⟨0,0,-1⟩,⟨0,-1,0⟩,⟨-1,0,0⟩)]
theorem q4c : ∀ t : Nat,t < 24→axT t∈tbl:=by decide +kernel
def boxM (m : V3) (a : qi) (b : qk) : qk:=qc3 (addV (mulV m b.Lo) a) (addV (mulV m b.Hi) a)
def Up (m : V3) : Prop:=(rowOk m.1.X m.2.1.X m.2.2.X∧rowOk m.1.Y m.2.1.Y m.2.2.Y∧rowOk m.1.Z m.2.1.Z m.2.2.Z)∧
  ((m.1.X≠0∧m.2.1.Y≠0∧m.2.2.Z≠0)∨(m.1.X≠0∧m.2.1.Z≠0∧m.2.2.Y≠0)∨(m.1.Y≠0∧m.2.1.X≠0∧m.2.2.Z≠0)∨(m.1.Y≠0∧m.2.1.Z≠0∧m.2.2.X≠0)∨(m.1.Z≠0∧m.2.1.X≠0∧m.2.2.Y≠0)∨(m.1.Z≠0∧m.2.1.Y≠0∧m.2.2.X≠0))
instance (m : V3) : Decidable (Up m):=by unfold Up;infer_instance
theorem q6x : ∀ m∈tbl,Up m:=by decide +kernel
theorem rowOk.one {a b c : Int} (h : rowOk a b c) : (a≠0→b = 0∧c = 0)∧(b≠0→a = 0∧c = 0)∧(c≠0→a = 0∧b = 0):=by unfold rowOk at h;omega
end Go.Sh
namespace Go.Sh
open Go Go.Am
theorem qex {a b c x y z t n k : Int} (h : rowOk a b c) (hx : -k≤x∧x≤k) (hy : -k≤y∧y≤k) (hz : -k≤z∧z≤k) (ht : -n≤t∧t≤n) :
    -(n + k)≤x * a + y * b + z * c + t∧x * a + y * b + z * c + t≤n + k:=by
  rcases h with ⟨rfl,rfl,rfl⟩ | ⟨rfl,rfl,rfl⟩ | ⟨rfl,rfl,rfl⟩ | ⟨rfl,rfl,rfl⟩ | ⟨rfl,rfl,rfl⟩ | ⟨rfl,rfl,rfl⟩ <;> omega
theorem qat {u : Nat} (hu : u < 24) {A v : qi} {n k : Int} (hA : Qw A n) (hv : Qw v k) : Qw (Yd u A v) (n + k):=by
  obtain ⟨⟨r1,r2,r3⟩,_⟩:=q6x _ (q4c u hu)
  obtain ⟨a1,a2,a3,a4,a5,a6⟩:=hA
  obtain ⟨v1,v2,v3,v4,v5,v6⟩:=hv
  have h1:=qex (t:=A.X) r1 ⟨v1,v2⟩ ⟨v3,v4⟩ ⟨v5,v6⟩ ⟨a1,a2⟩
  have h2:=qex (t:=A.Y) r2 ⟨v1,v2⟩ ⟨v3,v4⟩ ⟨v5,v6⟩ ⟨a3,a4⟩
  have h3:=qex (t:=A.Z) r3 ⟨v1,v2⟩ ⟨v3,v4⟩ ⟨v5,v6⟩ ⟨a5,a6⟩
  exact ⟨h1.1,h1.2,h2.1,h2.2,h3.1,h3.2⟩
theorem qey {a b c x y z X Y Z t : Int} (h : rowOk a b c) (hx : x = 0∨x = X) (hy : y = 0∨y = Y) (hz : z = 0∨z = Z) (h0 : 0≤X∧0≤Y∧0≤Z) :
    min (0 * a + 0 * b + 0 * c + t) (X * a + Y * b + Z * c + t)≤x * a + y * b + z * c + t∧x * a + y * b + z * c + t≤max (0 * a + 0 * b + 0 * c + t) (X * a + Y * b + Z * c + t):=by
  rcases h with ⟨rfl,rfl,rfl⟩ | ⟨rfl,rfl,rfl⟩ | ⟨rfl,rfl,rfl⟩ | ⟨rfl,rfl,rfl⟩ | ⟨rfl,rfl,rfl⟩ | ⟨rfl,rfl,rfl⟩ <;> omega
noncomputable def corn (u : Nat) (s : Q2) (i j l : Int) : qi:=Yd u s.Frame.At ⟨i * s.Size.X,j * s.Size.Y,l * s.Size.Z⟩
theorem q2c {v : qi} {k n : Int} (h : Qw v k) (hk : k≤n) : Qw v n:=by unfold Qw at *;omega
theorem qp7 {s : Q2} {u : Nat} (hu : s.Frame.Turn = u) (h24 : u < 24) (hA : Qw s.Frame.At 4000) (hS : Qw s.Size 4000) {k : Nat} (hk : k < 8) {i j l : Int}
    (hi : Int.tmod (k : Int) 2 = i) (hj : Int.tmod (w64 (Int.tdiv (k : Int) 2)) 2 = j) (hl : w64 (Int.tdiv (k : Int) 4) = l) (bi : i = 0∨i = 1) (bj : j = 0∨j = 1) (bl : l = 0∨l = 1) {out : List qi} (ho : out.length = 8) :
    q39 s ((k : Int),out) = some (.inl (((k + 1 : Nat) : Int),out.set k (corn u s i j l))):=by
  have hv : Qw (⟨i * s.Size.X,j * s.Size.Y,l * s.Size.Z⟩ : qi) 4000:=by
    obtain ⟨v1,v2,v3,v4,v5,v6⟩:=hS
    unfold Qw
    refine ⟨?_,?_,?_,?_,?_,?_⟩ <;> rcases bi with rfl | rfl <;> rcases bj with rfl | rfl <;> rcases bl with rfl | rfl <;> simp only <;> omega
  have him:=qig (v:=⟨i * s.Size.X,j * s.Size.Y,l * s.Size.Z⟩) hu h24 (q2c hA q7) (q2c hv q7)
  have hbd:=qat h24 hA hv
  have w1 : w64 (i * s.Size.X) = i * s.Size.X:=by obtain ⟨v1,v2,v3,v4,v5,v6⟩:=hv;simp only at v1 v2;exact Q0 q7
  have w2 : w64 (j * s.Size.Y) = j * s.Size.Y:=by obtain ⟨v1,v2,v3,v4,v5,v6⟩:=hv;simp only at v3 v4;exact Q0 q7
  have w3 : w64 (l * s.Size.Z) = l * s.Size.Z:=by obtain ⟨v1,v2,v3,v4,v5,v6⟩:=hv;simp only at v5 v6;exact Q0 q7
  have hd : decide ((k : Int) < 8) = true:=decide_eq_true q7
  have hw : w64 ((k : Int) + 1) = ((k + 1 : Nat) : Int):=by rw [Q0 q7];omega
  have i1 : ∃ v,idxA 8 out (k : Int) = some v:=by
    unfold idxA;rw [if_pos ⟨q7,q7⟩]
    exact ⟨_,List.getElem?_eq_getElem (by simpa using (by omega : k < out.length))⟩
  obtain ⟨v,i1⟩:=i1
  have i2 : idxA 8 (out.set k (corn u s i j l)) (k : Int) = some (corn u s i j l):=by
    unfold idxA;rw [if_pos ⟨q7,q7⟩,Int.toNat_natCast,List.getElem?_set_self q7]
  have hfine : q12 (corn u s i j l) (-1000000) = some true:=by
    rw [qag,decide_eq_true]
    have:=q2c (n:=1000000) hbd q7
    unfold Qw at this;unfold InV corn;omega
  have him' : q3a s.Frame ⟨i * s.Size.X,j * s.Size.Y,l * s.Size.Z⟩ = some (corn u s i j l):=him
  simp only [q39,hd,cond_true,hi,hj,hl,w1,w2,w3,him',Option.bind_some,i1,Int.toNat_natCast,i2,hfine,Bool.not_true,cond_false,hw]
theorem qp8 {s : Q2} {u : Nat} (hu : s.Frame.Turn = u) (h24 : u < 24) (hA : Qw s.Frame.At 4000) (hS : Qw s.Size 4000) (hok : SOk s) :
    q7j s = some ((corn u s 0 0 0,corn u s 1 0 0,corn u s 0 1 0,corn u s 1 1 0,corn u s 0 0 1,corn u s 1 0 1,corn u s 0 1 1,corn u s 1 1 1),0):=by
  unfold q7j
  rw [qdk,if_pos hok]
  have h0 : ((0 : Int) != 0) = false:=rfl
  simp only [Option.bind_some,h0,cond_false]
  have st:=@qp7 s u hu h24 hA hS
  have e : loop (q39 s) (((0 : Nat) : Int),[zeroV,zeroV,zeroV,zeroV,zeroV,zeroV,zeroV,zeroV]) = some (.inl [corn u s 0 0 0,corn u s 1 0 0,corn u s 0 1 0,corn u s 1 1 0,corn u s 0 0 1,corn u s 1 0 1,corn u s 0 1 1,corn u s 1 1 1]):=by
    rw [Qv (st (k:=0) (i:=0) (j:=0) (l:=0) q7 (by decide +kernel) (by decide +kernel) (by decide +kernel) qt qt qt rfl)]
    rw [Qv (st (k:=1) (i:=1) (j:=0) (l:=0) q7 (by decide +kernel) (by decide +kernel) (by decide +kernel) qt qt qt rfl)]
    rw [Qv (st (k:=2) (i:=0) (j:=1) (l:=0) q7 (by decide +kernel) (by decide +kernel) (by decide +kernel) qt qt qt rfl)]
    rw [Qv (st (k:=3) (i:=1) (j:=1) (l:=0) q7 (by decide +kernel) (by decide +kernel) (by decide +kernel) qt qt qt rfl)]
    rw [Qv (st (k:=4) (i:=0) (j:=0) (l:=1) q7 (by decide +kernel) (by decide +kernel) (by decide +kernel) qt qt qt rfl)]
    rw [Qv (st (k:=5) (i:=1) (j:=0) (l:=1) q7 (by decide +kernel) (by decide +kernel) (by decide +kernel) qt qt qt rfl)]
    rw [Qv (st (k:=6) (i:=0) (j:=1) (l:=1) q7 (by decide +kernel) (by decide +kernel) (by decide +kernel) qt qt qt rfl)]
    rw [Qv (st (k:=7) (i:=1) (j:=1) (l:=1) q7 (by decide +kernel) (by decide +kernel) (by decide +kernel) qt qt qt rfl)]
    exact K8 rfl
  have e : loop (q39 s) (0,[zeroV,zeroV,zeroV,zeroV,zeroV,zeroV,zeroV,zeroV]) = some (.inl [corn u s 0 0 0,corn u s 1 0 0,corn u s 0 1 0,corn u s 1 1 0,corn u s 0 0 1,corn u s 1 0 1,corn u s 0 1 1,corn u s 1 1 1]):=e
  unfold zeroV at e
  rw [e]
  rfl
theorem min8 {c0 c1 c2 c3 c4 c5 c6 c7 : Int} (h1 : min c0 c7≤c1) (h2 : min c0 c7≤c2) (h3 : min c0 c7≤c3) (h4 : min c0 c7≤c4) (h5 : min c0 c7≤c5) (h6 : min c0 c7≤c6) :
    min (min (min (min (min (min (min (min c0 c0) c1) c2) c3) c4) c5) c6) c7 = min c0 c7:=by
  refine Int.le_antisymm ?_ ?_
  · refine Int.le_min.2 ⟨?_,Int.min_le_right _ _⟩
    refine Int.le_trans (Int.min_le_left _ _) (Int.le_trans (Int.min_le_left _ _) (Int.le_trans (Int.min_le_left _ _) (Int.le_trans (Int.min_le_left _ _) (Int.le_trans (Int.min_le_left _ _) (Int.le_trans (Int.min_le_left _ _) (Int.le_trans (Int.min_le_left _ _) (Int.min_le_left _ _)))))))
  · have:=Int.min_le_left c0 c7
    exact Int.le_min.2 ⟨Int.le_min.2 ⟨Int.le_min.2 ⟨Int.le_min.2 ⟨Int.le_min.2 ⟨Int.le_min.2 ⟨Int.le_min.2 ⟨Int.le_min.2 ⟨this,this⟩,h1⟩,h2⟩,h3⟩,h4⟩,h5⟩,h6⟩,Int.min_le_right _ _⟩
theorem max8 {c0 c1 c2 c3 c4 c5 c6 c7 : Int} (h1 : c1≤max c0 c7) (h2 : c2≤max c0 c7) (h3 : c3≤max c0 c7) (h4 : c4≤max c0 c7) (h5 : c5≤max c0 c7) (h6 : c6≤max c0 c7) :
    max (max (max (max (max (max (max (max c0 c0) c1) c2) c3) c4) c5) c6) c7 = max c0 c7:=by
  refine Int.le_antisymm ?_ ?_
  · have:=Int.le_max_left c0 c7
    exact Int.max_le.2 ⟨Int.max_le.2 ⟨Int.max_le.2 ⟨Int.max_le.2 ⟨Int.max_le.2 ⟨Int.max_le.2 ⟨Int.max_le.2 ⟨Int.max_le.2 ⟨this,this⟩,h1⟩,h2⟩,h3⟩,h4⟩,h5⟩,h6⟩,Int.le_max_right _ _⟩
  · refine Int.max_le.2 ⟨?_,Int.le_max_right _ _⟩
    refine Int.le_trans (Int.le_max_left _ _) (Int.le_trans (Int.le_max_left _ _) (Int.le_trans (Int.le_max_left _ _) (Int.le_trans (Int.le_max_left _ _) (Int.le_trans (Int.le_max_left _ _) (Int.le_trans (Int.le_max_left _ _) (Int.le_trans (Int.le_max_left _ _) (Int.le_max_left _ _)))))))
theorem qgn {s : Q2} {u : Nat} (hu : s.Frame.Turn = u) (h24 : u < 24) (hA : Qw s.Frame.At 4000) (hS : Qw s.Size 4000) (hok : SOk s) (hp : 0 < s.Size.X∧0 < s.Size.Y∧0 < s.Size.Z) :
    q20 s = some (boxM (axT u) s.Frame.At ⟨⟨0,0,0⟩,s.Size⟩,0):=by
  unfold q20
  rw [qp8 hu h24 hA hS hok]
  have h0 : ((0 : Int) != 0) = false:=rfl
  have hx : (s.Size.X == 0) = false:=by simp;omega
  have hy : (s.Size.Y == 0) = false:=by simp;omega
  have hz : (s.Size.Z == 0) = false:=by simp;omega
  simp only [Option.bind_some,h0,cond_false,hx,hy,hz]
  have st : ∀ (k : Nat) (v : qi) (a b c d e f : Int),k < 8→idxA 8 [corn u s 0 0 0,corn u s 1 0 0,corn u s 0 1 0,corn u s 1 1 0,corn u s 0 0 1,corn u s 1 0 1,corn u s 0 1 1,corn u s 1 1 1] (k : Int) = some v→
      q38 ((corn u s 0 0 0,corn u s 1 0 0,corn u s 0 1 0,corn u s 1 1 0,corn u s 0 0 1,corn u s 1 0 1,corn u s 0 1 1,corn u s 1 1 1),0) ((k : Int),a,b,c,d,e,f) = some (.inl (((k + 1 : Nat) : Int),min a v.X,min b v.Y,min c v.Z,max d v.X,max e v.Y,max f v.Z)):=by
    intro k v a b c d e f hk hv
    have hd : decide ((k : Int) < 8) = true:=decide_eq_true q7
    have hw : w64 ((k : Int) + 1) = ((k + 1 : Nat) : Int):=by rw [Q0 q7];omega
    simp only [q38,hd,cond_true,hv,Option.bind_some,hw]
  have e : ∀ a b c d e f : Int,loop (q38 ((corn u s 0 0 0,corn u s 1 0 0,corn u s 0 1 0,corn u s 1 1 0,corn u s 0 0 1,corn u s 1 0 1,corn u s 0 1 1,corn u s 1 1 1),0)) (((0 : Nat) : Int),a,b,c,d,e,f) = some
      (min (min (min (min (min (min (min (min a (corn u s 0 0 0).X) (corn u s 1 0 0).X) (corn u s 0 1 0).X) (corn u s 1 1 0).X) (corn u s 0 0 1).X) (corn u s 1 0 1).X) (corn u s 0 1 1).X) (corn u s 1 1 1).X,
       min (min (min (min (min (min (min (min b (corn u s 0 0 0).Y) (corn u s 1 0 0).Y) (corn u s 0 1 0).Y) (corn u s 1 1 0).Y) (corn u s 0 0 1).Y) (corn u s 1 0 1).Y) (corn u s 0 1 1).Y) (corn u s 1 1 1).Y,
       min (min (min (min (min (min (min (min c (corn u s 0 0 0).Z) (corn u s 1 0 0).Z) (corn u s 0 1 0).Z) (corn u s 1 1 0).Z) (corn u s 0 0 1).Z) (corn u s 1 0 1).Z) (corn u s 0 1 1).Z) (corn u s 1 1 1).Z,
       max (max (max (max (max (max (max (max d (corn u s 0 0 0).X) (corn u s 1 0 0).X) (corn u s 0 1 0).X) (corn u s 1 1 0).X) (corn u s 0 0 1).X) (corn u s 1 0 1).X) (corn u s 0 1 1).X) (corn u s 1 1 1).X,
       max (max (max (max (max (max (max (max e (corn u s 0 0 0).Y) (corn u s 1 0 0).Y) (corn u s 0 1 0).Y) (corn u s 1 1 0).Y) (corn u s 0 0 1).Y) (corn u s 1 0 1).Y) (corn u s 0 1 1).Y) (corn u s 1 1 1).Y,
       max (max (max (max (max (max (max (max f (corn u s 0 0 0).Z) (corn u s 1 0 0).Z) (corn u s 0 1 0).Z) (corn u s 1 1 0).Z) (corn u s 0 0 1).Z) (corn u s 1 0 1).Z) (corn u s 0 1 1).Z) (corn u s 1 1 1).Z):=by
    intro a b c d e f
    rw [Qv (st 0 _ _ _ _ _ _ _ q7 rfl),Qv (st 1 _ _ _ _ _ _ _ q7 rfl),Qv (st 2 _ _ _ _ _ _ _ q7 rfl),Qv (st 3 _ _ _ _ _ _ _ q7 rfl),
      Qv (st 4 _ _ _ _ _ _ _ q7 rfl),Qv (st 5 _ _ _ _ _ _ _ q7 rfl),Qv (st 6 _ _ _ _ _ _ _ q7 rfl),Qv (st 7 _ _ _ _ _ _ _ q7 rfl)]
    exact K8 rfl
  obtain ⟨⟨r1,r2,r3⟩,_⟩:=q6x _ (q4c u h24)
  have hp' : 0≤s.Size.X∧0≤s.Size.Y∧0≤s.Size.Z:=by omega
  have b : ∀ (i j l : Int),(i = 0∨i = 1)→(j = 0∨j = 1)→(l = 0∨l = 1)→
      (min (corn u s 0 0 0).X (corn u s 1 1 1).X≤(corn u s i j l).X∧(corn u s i j l).X≤max (corn u s 0 0 0).X (corn u s 1 1 1).X)∧
      (min (corn u s 0 0 0).Y (corn u s 1 1 1).Y≤(corn u s i j l).Y∧(corn u s i j l).Y≤max (corn u s 0 0 0).Y (corn u s 1 1 1).Y)∧
      (min (corn u s 0 0 0).Z (corn u s 1 1 1).Z≤(corn u s i j l).Z∧(corn u s i j l).Z≤max (corn u s 0 0 0).Z (corn u s 1 1 1).Z):=by
    intro i j l hi hj hl
    have q : ∀ (i X : Int),(i = 0∨i = 1)→(i * X = 0∨i * X = X):=by rintro i X (rfl | rfl) <;> simp
    have g1:=qey (t:=s.Frame.At.X) r1 (q i s.Size.X hi) (q j s.Size.Y hj) (q l s.Size.Z hl) hp'
    have g2:=qey (t:=s.Frame.At.Y) r2 (q i s.Size.X hi) (q j s.Size.Y hj) (q l s.Size.Z hl) hp'
    have g3:=qey (t:=s.Frame.At.Z) r3 (q i s.Size.X hi) (q j s.Size.Y hj) (q l s.Size.Z hl) hp'
    simp only [corn,Yd,addV,mulV,Int.one_mul] at *
    simp only [Int.zero_mul] at *
    exact ⟨g1,g2,g3⟩
  have e:=e (corn u s 0 0 0).X (corn u s 0 0 0).Y (corn u s 0 0 0).Z (corn u s 0 0 0).X (corn u s 0 0 0).Y (corn u s 0 0 0).Z
  have e : loop (q38 ((corn u s 0 0 0,corn u s 1 0 0,corn u s 0 1 0,corn u s 1 1 0,corn u s 0 0 1,corn u s 1 0 1,corn u s 0 1 1,corn u s 1 1 1),0)) (0,(corn u s 0 0 0).X,(corn u s 0 0 0).Y,(corn u s 0 0 0).Z,(corn u s 0 0 0).X,(corn u s 0 0 0).Y,(corn u s 0 0 0).Z) = _:=e
  have b1:=b 1 0 0 qt qt qt
  have b2:=b 0 1 0 qt qt qt
  have b3:=b 1 1 0 qt qt qt
  have b4:=b 0 0 1 qt qt qt
  have b5:=b 1 0 1 qt qt qt
  have b6:=b 0 1 1 qt qt qt
  rw [min8 b1.1.1 b2.1.1 b3.1.1 b4.1.1 b5.1.1 b6.1.1,min8 b1.2.1.1 b2.2.1.1 b3.2.1.1 b4.2.1.1 b5.2.1.1 b6.2.1.1,min8 b1.2.2.1 b2.2.2.1 b3.2.2.1 b4.2.2.1 b5.2.2.1 b6.2.2.1,
    max8 b1.1.2 b2.1.2 b3.1.2 b4.1.2 b5.1.2 b6.1.2,max8 b1.2.1.2 b2.2.1.2 b3.2.1.2 b4.2.1.2 b5.2.1.2 b6.2.1.2,max8 b1.2.2.2 b2.2.2.2 b3.2.2.2 b4.2.2.2 b5.2.2.2 b6.2.2.2] at e
  rw [e]
  simp only [Option.bind_some,boxM,qc3,corn,Yd,addV,mulV,Int.one_mul,Int.zero_mul]
end Go.Sh
namespace Go.Sh
open Go Go.Am
def Ku (L H L' H' : Int) : Prop:=L' = L∧H' = H
def Z5 (L H L' H' : Int) : Prop:=(L' = H∧H' = H + 1)∨(H' = L∧L' = L - 1)
def Adj (B C : qk) (p q : Int) : Prop:=
  (Z5 B.Lo.X B.Hi.X C.Lo.X C.Hi.X∧Ku B.Lo.Y B.Hi.Y C.Lo.Y C.Hi.Y∧Ku B.Lo.Z B.Hi.Z C.Lo.Z C.Hi.Z∧((B.Hi.Y - B.Lo.Y = p∧B.Hi.Z - B.Lo.Z = q)∨(B.Hi.Y - B.Lo.Y = q∧B.Hi.Z - B.Lo.Z = p)))∨
  (Z5 B.Lo.Y B.Hi.Y C.Lo.Y C.Hi.Y∧Ku B.Lo.X B.Hi.X C.Lo.X C.Hi.X∧Ku B.Lo.Z B.Hi.Z C.Lo.Z C.Hi.Z∧((B.Hi.X - B.Lo.X = p∧B.Hi.Z - B.Lo.Z = q)∨(B.Hi.X - B.Lo.X = q∧B.Hi.Z - B.Lo.Z = p)))∨
  (Z5 B.Lo.Z B.Hi.Z C.Lo.Z C.Hi.Z∧Ku B.Lo.X B.Hi.X C.Lo.X C.Hi.X∧Ku B.Lo.Y B.Hi.Y C.Lo.Y C.Hi.Y∧((B.Hi.X - B.Lo.X = p∧B.Hi.Y - B.Lo.Y = q)∨(B.Hi.X - B.Lo.X = q∧B.Hi.Y - B.Lo.Y = p)))
theorem qf1 {a b c X Y Z t : Int} (h : rowOk a b c) (hp : 1≤X∧1≤Y∧1≤Z) :
    (a≠0→Z5 (min (0 * a + 0 * b + 0 * c + t) (X * a + Y * b + Z * c + t)) (max (0 * a + 0 * b + 0 * c + t) (X * a + Y * b + Z * c + t)) (min (0 * (0 * a + 1 * b + 0 * c) + 0 * (0 * a + 0 * b + 1 * c) + 0 * (1 * a + 0 * b + 0 * c) + (X * a + 0 * b + 0 * c + t)) (Y * (0 * a + 1 * b + 0 * c) + Z * (0 * a + 0 * b + 1 * c) + 1 * (1 * a + 0 * b + 0 * c) + (X * a + 0 * b + 0 * c + t))) (max (0 * (0 * a + 1 * b + 0 * c) + 0 * (0 * a + 0 * b + 1 * c) + 0 * (1 * a + 0 * b + 0 * c) + (X * a + 0 * b + 0 * c + t)) (Y * (0 * a + 1 * b + 0 * c) + Z * (0 * a + 0 * b + 1 * c) + 1 * (1 * a + 0 * b + 0 * c) + (X * a + 0 * b + 0 * c + t)))∧max (0 * a + 0 * b + 0 * c + t) (X * a + Y * b + Z * c + t) - min (0 * a + 0 * b + 0 * c + t) (X * a + Y * b + Z * c + t) = X)∧
    (b≠0→Ku (min (0 * a + 0 * b + 0 * c + t) (X * a + Y * b + Z * c + t)) (max (0 * a + 0 * b + 0 * c + t) (X * a + Y * b + Z * c + t)) (min (0 * (0 * a + 1 * b + 0 * c) + 0 * (0 * a + 0 * b + 1 * c) + 0 * (1 * a + 0 * b + 0 * c) + (X * a + 0 * b + 0 * c + t)) (Y * (0 * a + 1 * b + 0 * c) + Z * (0 * a + 0 * b + 1 * c) + 1 * (1 * a + 0 * b + 0 * c) + (X * a + 0 * b + 0 * c + t))) (max (0 * (0 * a + 1 * b + 0 * c) + 0 * (0 * a + 0 * b + 1 * c) + 0 * (1 * a + 0 * b + 0 * c) + (X * a + 0 * b + 0 * c + t)) (Y * (0 * a + 1 * b + 0 * c) + Z * (0 * a + 0 * b + 1 * c) + 1 * (1 * a + 0 * b + 0 * c) + (X * a + 0 * b + 0 * c + t)))∧max (0 * a + 0 * b + 0 * c + t) (X * a + Y * b + Z * c + t) - min (0 * a + 0 * b + 0 * c + t) (X * a + Y * b + Z * c + t) = Y)∧
    (c≠0→Ku (min (0 * a + 0 * b + 0 * c + t) (X * a + Y * b + Z * c + t)) (max (0 * a + 0 * b + 0 * c + t) (X * a + Y * b + Z * c + t)) (min (0 * (0 * a + 1 * b + 0 * c) + 0 * (0 * a + 0 * b + 1 * c) + 0 * (1 * a + 0 * b + 0 * c) + (X * a + 0 * b + 0 * c + t)) (Y * (0 * a + 1 * b + 0 * c) + Z * (0 * a + 0 * b + 1 * c) + 1 * (1 * a + 0 * b + 0 * c) + (X * a + 0 * b + 0 * c + t))) (max (0 * (0 * a + 1 * b + 0 * c) + 0 * (0 * a + 0 * b + 1 * c) + 0 * (1 * a + 0 * b + 0 * c) + (X * a + 0 * b + 0 * c + t)) (Y * (0 * a + 1 * b + 0 * c) + Z * (0 * a + 0 * b + 1 * c) + 1 * (1 * a + 0 * b + 0 * c) + (X * a + 0 * b + 0 * c + t)))∧max (0 * a + 0 * b + 0 * c + t) (X * a + Y * b + Z * c + t) - min (0 * a + 0 * b + 0 * c + t) (X * a + Y * b + Z * c + t) = Z):=by
  unfold Ku Z5
  rcases h with ⟨rfl,rfl,rfl⟩ | ⟨rfl,rfl,rfl⟩ | ⟨rfl,rfl,rfl⟩ | ⟨rfl,rfl,rfl⟩ | ⟨rfl,rfl,rfl⟩ | ⟨rfl,rfl,rfl⟩ <;> omega
theorem qnc {m : V3} (hm : Up m) {A S : qi} (hp : 1≤S.X∧1≤S.Y∧1≤S.Z) :
    Adj (boxM m A ⟨⟨0,0,0⟩,S⟩) (boxM (Zw m ((⟨0,1,0⟩ : qi),(⟨0,0,1⟩ : qi),(⟨1,0,0⟩ : qi))) (addV (mulV m (⟨S.X,0,0⟩ : qi)) A) ⟨⟨0,0,0⟩,⟨S.Y,S.Z,1⟩⟩) S.Y S.Z:=by
  obtain ⟨⟨r1,r2,r3⟩,h⟩:=hm
  have q1:=qf1 (t:=A.X) r1 hp
  have q2:=qf1 (t:=A.Y) r2 hp
  have q3:=qf1 (t:=A.Z) r3 hp
  rcases h with ⟨h1,h2,h3⟩ | ⟨h1,h2,h3⟩ | ⟨h1,h2,h3⟩ | ⟨h1,h2,h3⟩ | ⟨h1,h2,h3⟩ | ⟨h1,h2,h3⟩
  · exact .inl ⟨(q1.1 h1).1,(q2.2.1 h2).1,(q3.2.2 h3).1,.inl ⟨(q2.2.1 h2).2,(q3.2.2 h3).2⟩⟩
  · exact .inl ⟨(q1.1 h1).1,(q2.2.2 h3).1,(q3.2.1 h2).1,.inr ⟨(q2.2.2 h3).2,(q3.2.1 h2).2⟩⟩
  · exact .inr<|.inl ⟨(q2.1 h1).1,(q1.2.1 h2).1,(q3.2.2 h3).1,.inl ⟨(q1.2.1 h2).2,(q3.2.2 h3).2⟩⟩
  · exact .inr<|.inl ⟨(q2.1 h1).1,(q1.2.2 h3).1,(q3.2.1 h2).1,.inr ⟨(q1.2.2 h3).2,(q3.2.1 h2).2⟩⟩
  · exact .inr<|.inr ⟨(q3.1 h1).1,(q1.2.1 h2).1,(q2.2.2 h3).1,.inl ⟨(q1.2.1 h2).2,(q2.2.2 h3).2⟩⟩
  · exact .inr<|.inr ⟨(q3.1 h1).1,(q1.2.2 h3).1,(q2.2.1 h2).1,.inr ⟨(q1.2.2 h3).2,(q2.2.1 h2).2⟩⟩
theorem qf2 {a b c X Y Z t : Int} (h : rowOk a b c) (hp : 1≤X∧1≤Y∧1≤Z) :
    (a≠0→Z5 (min (0 * a + 0 * b + 0 * c + t) (X * a + Y * b + Z * c + t)) (max (0 * a + 0 * b + 0 * c + t) (X * a + Y * b + Z * c + t)) (min (0 * (0 * a + 1 * b + 0 * c) + 0 * (0 * a + 0 * b + (-1) * c) + 0 * ((-1) * a + 0 * b + 0 * c) + (0 * a + 0 * b + Z * c + t)) (Y * (0 * a + 1 * b + 0 * c) + Z * (0 * a + 0 * b + (-1) * c) + 1 * ((-1) * a + 0 * b + 0 * c) + (0 * a + 0 * b + Z * c + t))) (max (0 * (0 * a + 1 * b + 0 * c) + 0 * (0 * a + 0 * b + (-1) * c) + 0 * ((-1) * a + 0 * b + 0 * c) + (0 * a + 0 * b + Z * c + t)) (Y * (0 * a + 1 * b + 0 * c) + Z * (0 * a + 0 * b + (-1) * c) + 1 * ((-1) * a + 0 * b + 0 * c) + (0 * a + 0 * b + Z * c + t)))∧max (0 * a + 0 * b + 0 * c + t) (X * a + Y * b + Z * c + t) - min (0 * a + 0 * b + 0 * c + t) (X * a + Y * b + Z * c + t) = X)∧
    (b≠0→Ku (min (0 * a + 0 * b + 0 * c + t) (X * a + Y * b + Z * c + t)) (max (0 * a + 0 * b + 0 * c + t) (X * a + Y * b + Z * c + t)) (min (0 * (0 * a + 1 * b + 0 * c) + 0 * (0 * a + 0 * b + (-1) * c) + 0 * ((-1) * a + 0 * b + 0 * c) + (0 * a + 0 * b + Z * c + t)) (Y * (0 * a + 1 * b + 0 * c) + Z * (0 * a + 0 * b + (-1) * c) + 1 * ((-1) * a + 0 * b + 0 * c) + (0 * a + 0 * b + Z * c + t))) (max (0 * (0 * a + 1 * b + 0 * c) + 0 * (0 * a + 0 * b + (-1) * c) + 0 * ((-1) * a + 0 * b + 0 * c) + (0 * a + 0 * b + Z * c + t)) (Y * (0 * a + 1 * b + 0 * c) + Z * (0 * a + 0 * b + (-1) * c) + 1 * ((-1) * a + 0 * b + 0 * c) + (0 * a + 0 * b + Z * c + t)))∧max (0 * a + 0 * b + 0 * c + t) (X * a + Y * b + Z * c + t) - min (0 * a + 0 * b + 0 * c + t) (X * a + Y * b + Z * c + t) = Y)∧
    (c≠0→Ku (min (0 * a + 0 * b + 0 * c + t) (X * a + Y * b + Z * c + t)) (max (0 * a + 0 * b + 0 * c + t) (X * a + Y * b + Z * c + t)) (min (0 * (0 * a + 1 * b + 0 * c) + 0 * (0 * a + 0 * b + (-1) * c) + 0 * ((-1) * a + 0 * b + 0 * c) + (0 * a + 0 * b + Z * c + t)) (Y * (0 * a + 1 * b + 0 * c) + Z * (0 * a + 0 * b + (-1) * c) + 1 * ((-1) * a + 0 * b + 0 * c) + (0 * a + 0 * b + Z * c + t))) (max (0 * (0 * a + 1 * b + 0 * c) + 0 * (0 * a + 0 * b + (-1) * c) + 0 * ((-1) * a + 0 * b + 0 * c) + (0 * a + 0 * b + Z * c + t)) (Y * (0 * a + 1 * b + 0 * c) + Z * (0 * a + 0 * b + (-1) * c) + 1 * ((-1) * a + 0 * b + 0 * c) + (0 * a + 0 * b + Z * c + t)))∧max (0 * a + 0 * b + 0 * c + t) (X * a + Y * b + Z * c + t) - min (0 * a + 0 * b + 0 * c + t) (X * a + Y * b + Z * c + t) = Z):=by
  unfold Ku Z5
  rcases h with ⟨rfl,rfl,rfl⟩ | ⟨rfl,rfl,rfl⟩ | ⟨rfl,rfl,rfl⟩ | ⟨rfl,rfl,rfl⟩ | ⟨rfl,rfl,rfl⟩ | ⟨rfl,rfl,rfl⟩ <;> omega
theorem qnd {m : V3} (hm : Up m) {A S : qi} (hp : 1≤S.X∧1≤S.Y∧1≤S.Z) :
    Adj (boxM m A ⟨⟨0,0,0⟩,S⟩) (boxM (Zw m ((⟨0,1,0⟩ : qi),(⟨0,0,-1⟩ : qi),(⟨-1,0,0⟩ : qi))) (addV (mulV m (⟨0,0,S.Z⟩ : qi)) A) ⟨⟨0,0,0⟩,⟨S.Y,S.Z,1⟩⟩) S.Y S.Z:=by
  obtain ⟨⟨r1,r2,r3⟩,h⟩:=hm
  have q1:=qf2 (t:=A.X) r1 hp
  have q2:=qf2 (t:=A.Y) r2 hp
  have q3:=qf2 (t:=A.Z) r3 hp
  rcases h with ⟨h1,h2,h3⟩ | ⟨h1,h2,h3⟩ | ⟨h1,h2,h3⟩ | ⟨h1,h2,h3⟩ | ⟨h1,h2,h3⟩ | ⟨h1,h2,h3⟩
  · exact .inl ⟨(q1.1 h1).1,(q2.2.1 h2).1,(q3.2.2 h3).1,.inl ⟨(q2.2.1 h2).2,(q3.2.2 h3).2⟩⟩
  · exact .inl ⟨(q1.1 h1).1,(q2.2.2 h3).1,(q3.2.1 h2).1,.inr ⟨(q2.2.2 h3).2,(q3.2.1 h2).2⟩⟩
  · exact .inr<|.inl ⟨(q2.1 h1).1,(q1.2.1 h2).1,(q3.2.2 h3).1,.inl ⟨(q1.2.1 h2).2,(q3.2.2 h3).2⟩⟩
  · exact .inr<|.inl ⟨(q2.1 h1).1,(q1.2.2 h3).1,(q3.2.1 h2).1,.inr ⟨(q1.2.2 h3).2,(q3.2.1 h2).2⟩⟩
  · exact .inr<|.inr ⟨(q3.1 h1).1,(q1.2.1 h2).1,(q2.2.2 h3).1,.inl ⟨(q1.2.1 h2).2,(q2.2.2 h3).2⟩⟩
  · exact .inr<|.inr ⟨(q3.1 h1).1,(q1.2.2 h3).1,(q2.2.1 h2).1,.inr ⟨(q1.2.2 h3).2,(q2.2.1 h2).2⟩⟩
theorem qf4 {a b c X Y Z t : Int} (h : rowOk a b c) (hp : 1≤X∧1≤Y∧1≤Z) :
    (a≠0→Ku (min (0 * a + 0 * b + 0 * c + t) (X * a + Y * b + Z * c + t)) (max (0 * a + 0 * b + 0 * c + t) (X * a + Y * b + Z * c + t)) (min (0 * (1 * a + 0 * b + 0 * c) + 0 * (0 * a + 0 * b + (-1) * c) + 0 * (0 * a + 1 * b + 0 * c) + (0 * a + Y * b + Z * c + t)) (X * (1 * a + 0 * b + 0 * c) + Z * (0 * a + 0 * b + (-1) * c) + 1 * (0 * a + 1 * b + 0 * c) + (0 * a + Y * b + Z * c + t))) (max (0 * (1 * a + 0 * b + 0 * c) + 0 * (0 * a + 0 * b + (-1) * c) + 0 * (0 * a + 1 * b + 0 * c) + (0 * a + Y * b + Z * c + t)) (X * (1 * a + 0 * b + 0 * c) + Z * (0 * a + 0 * b + (-1) * c) + 1 * (0 * a + 1 * b + 0 * c) + (0 * a + Y * b + Z * c + t)))∧max (0 * a + 0 * b + 0 * c + t) (X * a + Y * b + Z * c + t) - min (0 * a + 0 * b + 0 * c + t) (X * a + Y * b + Z * c + t) = X)∧
    (b≠0→Z5 (min (0 * a + 0 * b + 0 * c + t) (X * a + Y * b + Z * c + t)) (max (0 * a + 0 * b + 0 * c + t) (X * a + Y * b + Z * c + t)) (min (0 * (1 * a + 0 * b + 0 * c) + 0 * (0 * a + 0 * b + (-1) * c) + 0 * (0 * a + 1 * b + 0 * c) + (0 * a + Y * b + Z * c + t)) (X * (1 * a + 0 * b + 0 * c) + Z * (0 * a + 0 * b + (-1) * c) + 1 * (0 * a + 1 * b + 0 * c) + (0 * a + Y * b + Z * c + t))) (max (0 * (1 * a + 0 * b + 0 * c) + 0 * (0 * a + 0 * b + (-1) * c) + 0 * (0 * a + 1 * b + 0 * c) + (0 * a + Y * b + Z * c + t)) (X * (1 * a + 0 * b + 0 * c) + Z * (0 * a + 0 * b + (-1) * c) + 1 * (0 * a + 1 * b + 0 * c) + (0 * a + Y * b + Z * c + t)))∧max (0 * a + 0 * b + 0 * c + t) (X * a + Y * b + Z * c + t) - min (0 * a + 0 * b + 0 * c + t) (X * a + Y * b + Z * c + t) = Y)∧
    (c≠0→Ku (min (0 * a + 0 * b + 0 * c + t) (X * a + Y * b + Z * c + t)) (max (0 * a + 0 * b + 0 * c + t) (X * a + Y * b + Z * c + t)) (min (0 * (1 * a + 0 * b + 0 * c) + 0 * (0 * a + 0 * b + (-1) * c) + 0 * (0 * a + 1 * b + 0 * c) + (0 * a + Y * b + Z * c + t)) (X * (1 * a + 0 * b + 0 * c) + Z * (0 * a + 0 * b + (-1) * c) + 1 * (0 * a + 1 * b + 0 * c) + (0 * a + Y * b + Z * c + t))) (max (0 * (1 * a + 0 * b + 0 * c) + 0 * (0 * a + 0 * b + (-1) * c) + 0 * (0 * a + 1 * b + 0 * c) + (0 * a + Y * b + Z * c + t)) (X * (1 * a + 0 * b + 0 * c) + Z * (0 * a + 0 * b + (-1) * c) + 1 * (0 * a + 1 * b + 0 * c) + (0 * a + Y * b + Z * c + t)))∧max (0 * a + 0 * b + 0 * c + t) (X * a + Y * b + Z * c + t) - min (0 * a + 0 * b + 0 * c + t) (X * a + Y * b + Z * c + t) = Z):=by
  unfold Ku Z5
  rcases h with ⟨rfl,rfl,rfl⟩ | ⟨rfl,rfl,rfl⟩ | ⟨rfl,rfl,rfl⟩ | ⟨rfl,rfl,rfl⟩ | ⟨rfl,rfl,rfl⟩ | ⟨rfl,rfl,rfl⟩ <;> omega
theorem qnf {m : V3} (hm : Up m) {A S : qi} (hp : 1≤S.X∧1≤S.Y∧1≤S.Z) :
    Adj (boxM m A ⟨⟨0,0,0⟩,S⟩) (boxM (Zw m ((⟨1,0,0⟩ : qi),(⟨0,0,-1⟩ : qi),(⟨0,1,0⟩ : qi))) (addV (mulV m (⟨0,S.Y,S.Z⟩ : qi)) A) ⟨⟨0,0,0⟩,⟨S.X,S.Z,1⟩⟩) S.X S.Z:=by
  obtain ⟨⟨r1,r2,r3⟩,h⟩:=hm
  have q1:=qf4 (t:=A.X) r1 hp
  have q2:=qf4 (t:=A.Y) r2 hp
  have q3:=qf4 (t:=A.Z) r3 hp
  rcases h with ⟨h1,h2,h3⟩ | ⟨h1,h2,h3⟩ | ⟨h1,h2,h3⟩ | ⟨h1,h2,h3⟩ | ⟨h1,h2,h3⟩ | ⟨h1,h2,h3⟩
  · exact .inr<|.inl ⟨(q2.2.1 h2).1,(q1.1 h1).1,(q3.2.2 h3).1,.inl ⟨(q1.1 h1).2,(q3.2.2 h3).2⟩⟩
  · exact .inr<|.inr ⟨(q3.2.1 h2).1,(q1.1 h1).1,(q2.2.2 h3).1,.inl ⟨(q1.1 h1).2,(q2.2.2 h3).2⟩⟩
  · exact .inl ⟨(q1.2.1 h2).1,(q2.1 h1).1,(q3.2.2 h3).1,.inl ⟨(q2.1 h1).2,(q3.2.2 h3).2⟩⟩
  · exact .inr<|.inr ⟨(q3.2.1 h2).1,(q1.2.2 h3).1,(q2.1 h1).1,.inr ⟨(q1.2.2 h3).2,(q2.1 h1).2⟩⟩
  · exact .inl ⟨(q1.2.1 h2).1,(q2.2.2 h3).1,(q3.1 h1).1,.inr ⟨(q2.2.2 h3).2,(q3.1 h1).2⟩⟩
  · exact .inr<|.inl ⟨(q2.2.1 h2).1,(q1.2.2 h3).1,(q3.1 h1).1,.inr ⟨(q1.2.2 h3).2,(q3.1 h1).2⟩⟩
theorem qf3 {a b c X Y Z t : Int} (h : rowOk a b c) (hp : 1≤X∧1≤Y∧1≤Z) :
    (a≠0→Ku (min (0 * a + 0 * b + 0 * c + t) (X * a + Y * b + Z * c + t)) (max (0 * a + 0 * b + 0 * c + t) (X * a + Y * b + Z * c + t)) (min (0 * (1 * a + 0 * b + 0 * c) + 0 * (0 * a + 0 * b + 1 * c) + 0 * (0 * a + (-1) * b + 0 * c) + (0 * a + 0 * b + 0 * c + t)) (X * (1 * a + 0 * b + 0 * c) + Z * (0 * a + 0 * b + 1 * c) + 1 * (0 * a + (-1) * b + 0 * c) + (0 * a + 0 * b + 0 * c + t))) (max (0 * (1 * a + 0 * b + 0 * c) + 0 * (0 * a + 0 * b + 1 * c) + 0 * (0 * a + (-1) * b + 0 * c) + (0 * a + 0 * b + 0 * c + t)) (X * (1 * a + 0 * b + 0 * c) + Z * (0 * a + 0 * b + 1 * c) + 1 * (0 * a + (-1) * b + 0 * c) + (0 * a + 0 * b + 0 * c + t)))∧max (0 * a + 0 * b + 0 * c + t) (X * a + Y * b + Z * c + t) - min (0 * a + 0 * b + 0 * c + t) (X * a + Y * b + Z * c + t) = X)∧
    (b≠0→Z5 (min (0 * a + 0 * b + 0 * c + t) (X * a + Y * b + Z * c + t)) (max (0 * a + 0 * b + 0 * c + t) (X * a + Y * b + Z * c + t)) (min (0 * (1 * a + 0 * b + 0 * c) + 0 * (0 * a + 0 * b + 1 * c) + 0 * (0 * a + (-1) * b + 0 * c) + (0 * a + 0 * b + 0 * c + t)) (X * (1 * a + 0 * b + 0 * c) + Z * (0 * a + 0 * b + 1 * c) + 1 * (0 * a + (-1) * b + 0 * c) + (0 * a + 0 * b + 0 * c + t))) (max (0 * (1 * a + 0 * b + 0 * c) + 0 * (0 * a + 0 * b + 1 * c) + 0 * (0 * a + (-1) * b + 0 * c) + (0 * a + 0 * b + 0 * c + t)) (X * (1 * a + 0 * b + 0 * c) + Z * (0 * a + 0 * b + 1 * c) + 1 * (0 * a + (-1) * b + 0 * c) + (0 * a + 0 * b + 0 * c + t)))∧max (0 * a + 0 * b + 0 * c + t) (X * a + Y * b + Z * c + t) - min (0 * a + 0 * b + 0 * c + t) (X * a + Y * b + Z * c + t) = Y)∧
    (c≠0→Ku (min (0 * a + 0 * b + 0 * c + t) (X * a + Y * b + Z * c + t)) (max (0 * a + 0 * b + 0 * c + t) (X * a + Y * b + Z * c + t)) (min (0 * (1 * a + 0 * b + 0 * c) + 0 * (0 * a + 0 * b + 1 * c) + 0 * (0 * a + (-1) * b + 0 * c) + (0 * a + 0 * b + 0 * c + t)) (X * (1 * a + 0 * b + 0 * c) + Z * (0 * a + 0 * b + 1 * c) + 1 * (0 * a + (-1) * b + 0 * c) + (0 * a + 0 * b + 0 * c + t))) (max (0 * (1 * a + 0 * b + 0 * c) + 0 * (0 * a + 0 * b + 1 * c) + 0 * (0 * a + (-1) * b + 0 * c) + (0 * a + 0 * b + 0 * c + t)) (X * (1 * a + 0 * b + 0 * c) + Z * (0 * a + 0 * b + 1 * c) + 1 * (0 * a + (-1) * b + 0 * c) + (0 * a + 0 * b + 0 * c + t)))∧max (0 * a + 0 * b + 0 * c + t) (X * a + Y * b + Z * c + t) - min (0 * a + 0 * b + 0 * c + t) (X * a + Y * b + Z * c + t) = Z):=by
  unfold Ku Z5
  rcases h with ⟨rfl,rfl,rfl⟩ | ⟨rfl,rfl,rfl⟩ | ⟨rfl,rfl,rfl⟩ | ⟨rfl,rfl,rfl⟩ | ⟨rfl,rfl,rfl⟩ | ⟨rfl,rfl,rfl⟩ <;> omega
theorem qne {m : V3} (hm : Up m) {A S : qi} (hp : 1≤S.X∧1≤S.Y∧1≤S.Z) :
    Adj (boxM m A ⟨⟨0,0,0⟩,S⟩) (boxM (Zw m ((⟨1,0,0⟩ : qi),(⟨0,0,1⟩ : qi),(⟨0,-1,0⟩ : qi))) (addV (mulV m (⟨0,0,0⟩ : qi)) A) ⟨⟨0,0,0⟩,⟨S.X,S.Z,1⟩⟩) S.X S.Z:=by
  obtain ⟨⟨r1,r2,r3⟩,h⟩:=hm
  have q1:=qf3 (t:=A.X) r1 hp
  have q2:=qf3 (t:=A.Y) r2 hp
  have q3:=qf3 (t:=A.Z) r3 hp
  rcases h with ⟨h1,h2,h3⟩ | ⟨h1,h2,h3⟩ | ⟨h1,h2,h3⟩ | ⟨h1,h2,h3⟩ | ⟨h1,h2,h3⟩ | ⟨h1,h2,h3⟩
  · exact .inr<|.inl ⟨(q2.2.1 h2).1,(q1.1 h1).1,(q3.2.2 h3).1,.inl ⟨(q1.1 h1).2,(q3.2.2 h3).2⟩⟩
  · exact .inr<|.inr ⟨(q3.2.1 h2).1,(q1.1 h1).1,(q2.2.2 h3).1,.inl ⟨(q1.1 h1).2,(q2.2.2 h3).2⟩⟩
  · exact .inl ⟨(q1.2.1 h2).1,(q2.1 h1).1,(q3.2.2 h3).1,.inl ⟨(q2.1 h1).2,(q3.2.2 h3).2⟩⟩
  · exact .inr<|.inr ⟨(q3.2.1 h2).1,(q1.2.2 h3).1,(q2.1 h1).1,.inr ⟨(q1.2.2 h3).2,(q2.1 h1).2⟩⟩
  · exact .inl ⟨(q1.2.1 h2).1,(q2.2.2 h3).1,(q3.1 h1).1,.inr ⟨(q2.2.2 h3).2,(q3.1 h1).2⟩⟩
  · exact .inr<|.inl ⟨(q2.2.1 h2).1,(q1.2.2 h3).1,(q3.1 h1).1,.inr ⟨(q1.2.2 h3).2,(q3.1 h1).2⟩⟩
theorem q5m {a b c X Y Z t : Int} (h : rowOk a b c) (hp : 1≤X∧1≤Y∧1≤Z) :
    (a≠0→Ku (min (0 * a + 0 * b + 0 * c + t) (X * a + Y * b + Z * c + t)) (max (0 * a + 0 * b + 0 * c + t) (X * a + Y * b + Z * c + t)) (min (0 * (1 * a + 0 * b + 0 * c) + 0 * (0 * a + 1 * b + 0 * c) + 0 * (0 * a + 0 * b + 1 * c) + (0 * a + 0 * b + Z * c + t)) (X * (1 * a + 0 * b + 0 * c) + Y * (0 * a + 1 * b + 0 * c) + 1 * (0 * a + 0 * b + 1 * c) + (0 * a + 0 * b + Z * c + t))) (max (0 * (1 * a + 0 * b + 0 * c) + 0 * (0 * a + 1 * b + 0 * c) + 0 * (0 * a + 0 * b + 1 * c) + (0 * a + 0 * b + Z * c + t)) (X * (1 * a + 0 * b + 0 * c) + Y * (0 * a + 1 * b + 0 * c) + 1 * (0 * a + 0 * b + 1 * c) + (0 * a + 0 * b + Z * c + t)))∧max (0 * a + 0 * b + 0 * c + t) (X * a + Y * b + Z * c + t) - min (0 * a + 0 * b + 0 * c + t) (X * a + Y * b + Z * c + t) = X)∧
    (b≠0→Ku (min (0 * a + 0 * b + 0 * c + t) (X * a + Y * b + Z * c + t)) (max (0 * a + 0 * b + 0 * c + t) (X * a + Y * b + Z * c + t)) (min (0 * (1 * a + 0 * b + 0 * c) + 0 * (0 * a + 1 * b + 0 * c) + 0 * (0 * a + 0 * b + 1 * c) + (0 * a + 0 * b + Z * c + t)) (X * (1 * a + 0 * b + 0 * c) + Y * (0 * a + 1 * b + 0 * c) + 1 * (0 * a + 0 * b + 1 * c) + (0 * a + 0 * b + Z * c + t))) (max (0 * (1 * a + 0 * b + 0 * c) + 0 * (0 * a + 1 * b + 0 * c) + 0 * (0 * a + 0 * b + 1 * c) + (0 * a + 0 * b + Z * c + t)) (X * (1 * a + 0 * b + 0 * c) + Y * (0 * a + 1 * b + 0 * c) + 1 * (0 * a + 0 * b + 1 * c) + (0 * a + 0 * b + Z * c + t)))∧max (0 * a + 0 * b + 0 * c + t) (X * a + Y * b + Z * c + t) - min (0 * a + 0 * b + 0 * c + t) (X * a + Y * b + Z * c + t) = Y)∧
    (c≠0→Z5 (min (0 * a + 0 * b + 0 * c + t) (X * a + Y * b + Z * c + t)) (max (0 * a + 0 * b + 0 * c + t) (X * a + Y * b + Z * c + t)) (min (0 * (1 * a + 0 * b + 0 * c) + 0 * (0 * a + 1 * b + 0 * c) + 0 * (0 * a + 0 * b + 1 * c) + (0 * a + 0 * b + Z * c + t)) (X * (1 * a + 0 * b + 0 * c) + Y * (0 * a + 1 * b + 0 * c) + 1 * (0 * a + 0 * b + 1 * c) + (0 * a + 0 * b + Z * c + t))) (max (0 * (1 * a + 0 * b + 0 * c) + 0 * (0 * a + 1 * b + 0 * c) + 0 * (0 * a + 0 * b + 1 * c) + (0 * a + 0 * b + Z * c + t)) (X * (1 * a + 0 * b + 0 * c) + Y * (0 * a + 1 * b + 0 * c) + 1 * (0 * a + 0 * b + 1 * c) + (0 * a + 0 * b + Z * c + t)))∧max (0 * a + 0 * b + 0 * c + t) (X * a + Y * b + Z * c + t) - min (0 * a + 0 * b + 0 * c + t) (X * a + Y * b + Z * c + t) = Z):=by
  unfold Ku Z5
  rcases h with ⟨rfl,rfl,rfl⟩ | ⟨rfl,rfl,rfl⟩ | ⟨rfl,rfl,rfl⟩ | ⟨rfl,rfl,rfl⟩ | ⟨rfl,rfl,rfl⟩ | ⟨rfl,rfl,rfl⟩ <;> omega
theorem qna {m : V3} (hm : Up m) {A S : qi} (hp : 1≤S.X∧1≤S.Y∧1≤S.Z) :
    Adj (boxM m A ⟨⟨0,0,0⟩,S⟩) (boxM (Zw m ((⟨1,0,0⟩ : qi),(⟨0,1,0⟩ : qi),(⟨0,0,1⟩ : qi))) (addV (mulV m (⟨0,0,S.Z⟩ : qi)) A) ⟨⟨0,0,0⟩,⟨S.X,S.Y,1⟩⟩) S.X S.Y:=by
  obtain ⟨⟨r1,r2,r3⟩,h⟩:=hm
  have q1:=q5m (t:=A.X) r1 hp
  have q2:=q5m (t:=A.Y) r2 hp
  have q3:=q5m (t:=A.Z) r3 hp
  rcases h with ⟨h1,h2,h3⟩ | ⟨h1,h2,h3⟩ | ⟨h1,h2,h3⟩ | ⟨h1,h2,h3⟩ | ⟨h1,h2,h3⟩ | ⟨h1,h2,h3⟩
  · exact .inr<|.inr ⟨(q3.2.2 h3).1,(q1.1 h1).1,(q2.2.1 h2).1,.inl ⟨(q1.1 h1).2,(q2.2.1 h2).2⟩⟩
  · exact .inr<|.inl ⟨(q2.2.2 h3).1,(q1.1 h1).1,(q3.2.1 h2).1,.inl ⟨(q1.1 h1).2,(q3.2.1 h2).2⟩⟩
  · exact .inr<|.inr ⟨(q3.2.2 h3).1,(q1.2.1 h2).1,(q2.1 h1).1,.inr ⟨(q1.2.1 h2).2,(q2.1 h1).2⟩⟩
  · exact .inl ⟨(q1.2.2 h3).1,(q2.1 h1).1,(q3.2.1 h2).1,.inl ⟨(q2.1 h1).2,(q3.2.1 h2).2⟩⟩
  · exact .inr<|.inl ⟨(q2.2.2 h3).1,(q1.2.1 h2).1,(q3.1 h1).1,.inr ⟨(q1.2.1 h2).2,(q3.1 h1).2⟩⟩
  · exact .inl ⟨(q1.2.2 h3).1,(q2.2.1 h2).1,(q3.1 h1).1,.inr ⟨(q2.2.1 h2).2,(q3.1 h1).2⟩⟩
theorem qf0 {a b c X Y Z t : Int} (h : rowOk a b c) (hp : 1≤X∧1≤Y∧1≤Z) :
    (a≠0→Ku (min (0 * a + 0 * b + 0 * c + t) (X * a + Y * b + Z * c + t)) (max (0 * a + 0 * b + 0 * c + t) (X * a + Y * b + Z * c + t)) (min (0 * (1 * a + 0 * b + 0 * c) + 0 * (0 * a + (-1) * b + 0 * c) + 0 * (0 * a + 0 * b + (-1) * c) + (0 * a + Y * b + 0 * c + t)) (X * (1 * a + 0 * b + 0 * c) + Y * (0 * a + (-1) * b + 0 * c) + 1 * (0 * a + 0 * b + (-1) * c) + (0 * a + Y * b + 0 * c + t))) (max (0 * (1 * a + 0 * b + 0 * c) + 0 * (0 * a + (-1) * b + 0 * c) + 0 * (0 * a + 0 * b + (-1) * c) + (0 * a + Y * b + 0 * c + t)) (X * (1 * a + 0 * b + 0 * c) + Y * (0 * a + (-1) * b + 0 * c) + 1 * (0 * a + 0 * b + (-1) * c) + (0 * a + Y * b + 0 * c + t)))∧max (0 * a + 0 * b + 0 * c + t) (X * a + Y * b + Z * c + t) - min (0 * a + 0 * b + 0 * c + t) (X * a + Y * b + Z * c + t) = X)∧
    (b≠0→Ku (min (0 * a + 0 * b + 0 * c + t) (X * a + Y * b + Z * c + t)) (max (0 * a + 0 * b + 0 * c + t) (X * a + Y * b + Z * c + t)) (min (0 * (1 * a + 0 * b + 0 * c) + 0 * (0 * a + (-1) * b + 0 * c) + 0 * (0 * a + 0 * b + (-1) * c) + (0 * a + Y * b + 0 * c + t)) (X * (1 * a + 0 * b + 0 * c) + Y * (0 * a + (-1) * b + 0 * c) + 1 * (0 * a + 0 * b + (-1) * c) + (0 * a + Y * b + 0 * c + t))) (max (0 * (1 * a + 0 * b + 0 * c) + 0 * (0 * a + (-1) * b + 0 * c) + 0 * (0 * a + 0 * b + (-1) * c) + (0 * a + Y * b + 0 * c + t)) (X * (1 * a + 0 * b + 0 * c) + Y * (0 * a + (-1) * b + 0 * c) + 1 * (0 * a + 0 * b + (-1) * c) + (0 * a + Y * b + 0 * c + t)))∧max (0 * a + 0 * b + 0 * c + t) (X * a + Y * b + Z * c + t) - min (0 * a + 0 * b + 0 * c + t) (X * a + Y * b + Z * c + t) = Y)∧
    (c≠0→Z5 (min (0 * a + 0 * b + 0 * c + t) (X * a + Y * b + Z * c + t)) (max (0 * a + 0 * b + 0 * c + t) (X * a + Y * b + Z * c + t)) (min (0 * (1 * a + 0 * b + 0 * c) + 0 * (0 * a + (-1) * b + 0 * c) + 0 * (0 * a + 0 * b + (-1) * c) + (0 * a + Y * b + 0 * c + t)) (X * (1 * a + 0 * b + 0 * c) + Y * (0 * a + (-1) * b + 0 * c) + 1 * (0 * a + 0 * b + (-1) * c) + (0 * a + Y * b + 0 * c + t))) (max (0 * (1 * a + 0 * b + 0 * c) + 0 * (0 * a + (-1) * b + 0 * c) + 0 * (0 * a + 0 * b + (-1) * c) + (0 * a + Y * b + 0 * c + t)) (X * (1 * a + 0 * b + 0 * c) + Y * (0 * a + (-1) * b + 0 * c) + 1 * (0 * a + 0 * b + (-1) * c) + (0 * a + Y * b + 0 * c + t)))∧max (0 * a + 0 * b + 0 * c + t) (X * a + Y * b + Z * c + t) - min (0 * a + 0 * b + 0 * c + t) (X * a + Y * b + Z * c + t) = Z):=by
  unfold Ku Z5
  rcases h with ⟨rfl,rfl,rfl⟩ | ⟨rfl,rfl,rfl⟩ | ⟨rfl,rfl,rfl⟩ | ⟨rfl,rfl,rfl⟩ | ⟨rfl,rfl,rfl⟩ | ⟨rfl,rfl,rfl⟩ <;> omega
theorem qnb {m : V3} (hm : Up m) {A S : qi} (hp : 1≤S.X∧1≤S.Y∧1≤S.Z) :
    Adj (boxM m A ⟨⟨0,0,0⟩,S⟩) (boxM (Zw m ((⟨1,0,0⟩ : qi),(⟨0,-1,0⟩ : qi),(⟨0,0,-1⟩ : qi))) (addV (mulV m (⟨0,S.Y,0⟩ : qi)) A) ⟨⟨0,0,0⟩,⟨S.X,S.Y,1⟩⟩) S.X S.Y:=by
  obtain ⟨⟨r1,r2,r3⟩,h⟩:=hm
  have q1:=qf0 (t:=A.X) r1 hp
  have q2:=qf0 (t:=A.Y) r2 hp
  have q3:=qf0 (t:=A.Z) r3 hp
  rcases h with ⟨h1,h2,h3⟩ | ⟨h1,h2,h3⟩ | ⟨h1,h2,h3⟩ | ⟨h1,h2,h3⟩ | ⟨h1,h2,h3⟩ | ⟨h1,h2,h3⟩
  · exact .inr<|.inr ⟨(q3.2.2 h3).1,(q1.1 h1).1,(q2.2.1 h2).1,.inl ⟨(q1.1 h1).2,(q2.2.1 h2).2⟩⟩
  · exact .inr<|.inl ⟨(q2.2.2 h3).1,(q1.1 h1).1,(q3.2.1 h2).1,.inl ⟨(q1.1 h1).2,(q3.2.1 h2).2⟩⟩
  · exact .inr<|.inr ⟨(q3.2.2 h3).1,(q1.2.1 h2).1,(q2.1 h1).1,.inr ⟨(q1.2.1 h2).2,(q2.1 h1).2⟩⟩
  · exact .inl ⟨(q1.2.2 h3).1,(q2.1 h1).1,(q3.2.1 h2).1,.inl ⟨(q2.1 h1).2,(q3.2.1 h2).2⟩⟩
  · exact .inr<|.inl ⟨(q2.2.2 h3).1,(q1.2.1 h2).1,(q3.1 h1).1,.inr ⟨(q1.2.1 h2).2,(q3.1 h1).2⟩⟩
  · exact .inl ⟨(q1.2.2 h3).1,(q2.2.1 h2).1,(q3.1 h1).1,.inr ⟨(q2.2.1 h2).2,(q3.1 h1).2⟩⟩
def fD (x y z : Int) : Int:=2 * (x * y + x * z + y * z)
theorem qps (x y z : Int) : fD (x + 1) y z = fD x y z + fD 1 y z - 2 * (y * z):=by unfold fD;simp only [Int.add_mul,Int.one_mul];omega
theorem qpt (x y z : Int) : fD x (y + 1) z = fD x y z + fD x 1 z - 2 * (x * z):=by unfold fD;simp only [Int.add_mul,Int.mul_add,Int.one_mul,Int.mul_one];omega
theorem qpu (x y z : Int) : fD x y (z + 1) = fD x y z + fD x y 1 - 2 * (x * y):=by unfold fD;simp only [Int.mul_add,Int.mul_one];omega
theorem qaf (b : qk) : Ko b = fD (b.Hi.X - b.Lo.X) (b.Hi.Y - b.Lo.Y) (b.Hi.Z - b.Lo.Z):=rfl
def Kb (B C : qk) : qk:=⟨⟨min B.Lo.X C.Lo.X,min B.Lo.Y C.Lo.Y,min B.Lo.Z C.Lo.Z⟩,⟨max B.Hi.X C.Hi.X,max B.Hi.Y C.Hi.Y,max B.Hi.Z C.Hi.Z⟩⟩
theorem qg8 {B C : qk} {p q : Int} (hB : ltB B) (h : Adj B C p q) (x y z : Int) : (inB B x y z∨inB C x y z↔inB (Kb B C) x y z)∧¬ (inB B x y z∧inB C x y z):=by
  unfold Adj Z5 Ku at h
  unfold ltB at hB
  unfold inB Kb
  rcases h with ⟨h1 | h1,h2,h3,_⟩ | ⟨h1 | h1,h2,h3,_⟩ | ⟨h1 | h1,h2,h3,_⟩ <;> simp only <;> constructor <;> omega
theorem qng {B C : qk} {p q : Int} (hB : ltB B) (h : Adj B C p q) : Ko (Kb B C) = Ko B + Ko C - 2 * (p * q):=by
  unfold Adj Z5 Ku at h
  unfold ltB at hB
  rw [qaf,qaf,qaf]
  rcases h with ⟨h1,h2,h3,h4⟩ | ⟨h1,h2,h3,h4⟩ | ⟨h1,h2,h3,h4⟩
  · have e1 : (Kb B C).Hi.X - (Kb B C).Lo.X = (B.Hi.X - B.Lo.X) + 1:=by unfold Kb;simp only;omega
    have e2 : (Kb B C).Hi.Y - (Kb B C).Lo.Y = B.Hi.Y - B.Lo.Y:=by unfold Kb;simp only;omega
    have e3 : (Kb B C).Hi.Z - (Kb B C).Lo.Z = B.Hi.Z - B.Lo.Z:=by unfold Kb;simp only;omega
    have e4 : C.Hi.X - C.Lo.X = 1:=by omega
    have e5 : C.Hi.Y - C.Lo.Y = B.Hi.Y - B.Lo.Y:=by omega
    have e6 : C.Hi.Z - C.Lo.Z = B.Hi.Z - B.Lo.Z:=by omega
    rw [e1,e2,e3,e4,e5,e6,qps]
    rcases h4 with ⟨g1,g2⟩ | ⟨g1,g2⟩
    · rw [g1,g2]
    · rw [g1,g2,Int.mul_comm q p]
  · have e1 : (Kb B C).Hi.X - (Kb B C).Lo.X = B.Hi.X - B.Lo.X:=by unfold Kb;simp only;omega
    have e2 : (Kb B C).Hi.Y - (Kb B C).Lo.Y = (B.Hi.Y - B.Lo.Y) + 1:=by unfold Kb;simp only;omega
    have e3 : (Kb B C).Hi.Z - (Kb B C).Lo.Z = B.Hi.Z - B.Lo.Z:=by unfold Kb;simp only;omega
    have e4 : C.Hi.Y - C.Lo.Y = 1:=by omega
    have e5 : C.Hi.X - C.Lo.X = B.Hi.X - B.Lo.X:=by omega
    have e6 : C.Hi.Z - C.Lo.Z = B.Hi.Z - B.Lo.Z:=by omega
    rw [e1,e2,e3,e4,e5,e6,qpt]
    rcases h4 with ⟨g1,g2⟩ | ⟨g1,g2⟩
    · rw [g1,g2]
    · rw [g1,g2,Int.mul_comm q p]
  · have e1 : (Kb B C).Hi.X - (Kb B C).Lo.X = B.Hi.X - B.Lo.X:=by unfold Kb;simp only;omega
    have e2 : (Kb B C).Hi.Y - (Kb B C).Lo.Y = B.Hi.Y - B.Lo.Y:=by unfold Kb;simp only;omega
    have e3 : (Kb B C).Hi.Z - (Kb B C).Lo.Z = (B.Hi.Z - B.Lo.Z) + 1:=by unfold Kb;simp only;omega
    have e4 : C.Hi.Z - C.Lo.Z = 1:=by omega
    have e5 : C.Hi.X - C.Lo.X = B.Hi.X - B.Lo.X:=by omega
    have e6 : C.Hi.Y - C.Lo.Y = B.Hi.Y - B.Lo.Y:=by omega
    rw [e1,e2,e3,e4,e5,e6,qpu]
    rcases h4 with ⟨g1,g2⟩ | ⟨g1,g2⟩
    · rw [g1,g2]
    · rw [g1,g2,Int.mul_comm q p]
theorem qgo {b : qk} (h : ltB b) : CanB [b]:=by
  obtain ⟨h1,h2,h3⟩:=h
  refine ⟨[⟨b.Lo.Z,b.Hi.Z,[J7 b]⟩],rfl,⟨?_,qf⟩,?_⟩
  · intro g hg
    obtain rfl:=List.mem_singleton.1 hg
    exact ⟨h3,qf⟩
  · intro g hg
    obtain rfl:=List.mem_singleton.1 hg
    refine ⟨[⟨b.Lo.X,b.Hi.X,[{Lo:=b.Lo.Y,Hi:=b.Hi.Y}]⟩],rfl,⟨?_,qf⟩,?_⟩
    · intro g hg
      obtain rfl:=List.mem_singleton.1 hg
      exact ⟨h1,qf⟩
    · intro g hg
      obtain rfl:=List.mem_singleton.1 hg
      exact ⟨fun t ht=>by obtain rfl:=List.mem_singleton.1 ht;exact h2,qf⟩
theorem q73 {b : qk} (h : vB b) : K7 [b] = 0:=Zv.2 ⟨qf,fun c hc=>by obtain rfl:=List.mem_singleton.1 hc;exact h,qgo (by unfold vB at h;unfold ltB;omega)⟩
theorem qfr {b : qk} (h : vB b) : qce [b] = (Ko b,0):=by
  unfold qce
  rw [if_neg (by simp [q73 h])]
  simp [Uv,sumL,Zk]
end Go.Sh
namespace Go.Sh
open Go Go.Am
noncomputable def fS (u : Nat) (s : Q2) (t : Nat) (a z : qi) : Q2:=⟨⟨(Zb t u : Nat),Yd u s.Frame.At a⟩,z⟩
theorem qpx {s : Q2} {u : Nat} (hu : s.Frame.Turn = u) (h24 : u < 24) (hA : Qw s.Frame.At 1000) (hok : SOk s) (hS : (1≤s.Size.X∧1≤s.Size.Y∧1≤s.Size.Z)∧s.Size.X≤1000∧s.Size.Y≤1000∧s.Size.Z≤1000) :
    q2j s = some ((fS u s 10 ⟨s.Size.X,0,0⟩ ⟨s.Size.Y,s.Size.Z,0⟩,fS u s 11 ⟨0,0,s.Size.Z⟩ ⟨s.Size.Y,s.Size.Z,0⟩,fS u s 3 ⟨0,s.Size.Y,s.Size.Z⟩ ⟨s.Size.X,s.Size.Z,0⟩,fS u s 2 ⟨0,0,0⟩ ⟨s.Size.X,s.Size.Z,0⟩,fS u s 0 ⟨0,0,s.Size.Z⟩ ⟨s.Size.X,s.Size.Y,0⟩,fS u s 1 ⟨0,s.Size.Y,0⟩ ⟨s.Size.X,s.Size.Y,0⟩),0):=by
  have st : ∀ (k t : Nat) (a z : qi) (out : List Q2),k < 6→t < 24→Qw a 1000→InV z 0→J6 s.Size (k : Int) = some ((t : Int),a,z)→out.length = 6→
      U5 ((k : Int),out,s.Frame.Turn,s.Frame.At.X,s.Frame.At.Y,s.Frame.At.Z,s.Size.X,s.Size.Y,s.Size.Z) = some (.inl (((k + 1 : Nat) : Int),out.set k (fS u s t a z),s.Frame.Turn,s.Frame.At.X,s.Frame.At.Y,s.Frame.At.Z,s.Size.X,s.Size.Y,s.Size.Z)):=by
    intro k t a z out hk ht ha hz hf ho
    have ha' : InV a (-1000000):=by unfold Qw at ha;unfold InV;omega
    have hi:=qcp hu hok ht ha' hz
    have hb:=qat h24 hA ha
    have hfk : FOk ⟨(Zb t u : Nat),Yd u s.Frame.At a⟩:=by
      have:=(qa6 t ht u h24).1
      refine ⟨by simp only;omega,?_⟩
      unfold Qw at hb;unfold InV;simp only;omega
    rw [if_pos hfk] at hi
    have:=qku (s:=s) (d:=(k : Int)) q7 hf hi (idx6 ho hk)
    have hw : w64 ((k : Int) + 1) = ((k + 1 : Nat) : Int):=by rw [Q0 q7];omega
    rw [hw] at this
    exact this
  unfold q2j
  rw [qeq q7,if_pos hok]
  have h0 : ((0 : Int) != 0) = false:=rfl
  simp only [Option.bind_some,h0,cond_false]
  have e : loop U5 (((0 : Nat) : Int),[Kf,Kf,Kf,Kf,Kf,Kf],s.Frame.Turn,s.Frame.At.X,s.Frame.At.Y,s.Frame.At.Z,s.Size.X,s.Size.Y,s.Size.Z) = some (.inl [fS u s 10 ⟨s.Size.X,0,0⟩ ⟨s.Size.Y,s.Size.Z,0⟩,fS u s 11 ⟨0,0,s.Size.Z⟩ ⟨s.Size.Y,s.Size.Z,0⟩,fS u s 3 ⟨0,s.Size.Y,s.Size.Z⟩ ⟨s.Size.X,s.Size.Z,0⟩,fS u s 2 ⟨0,0,0⟩ ⟨s.Size.X,s.Size.Z,0⟩,fS u s 0 ⟨0,0,s.Size.Z⟩ ⟨s.Size.X,s.Size.Y,0⟩,fS u s 1 ⟨0,s.Size.Y,0⟩ ⟨s.Size.X,s.Size.Y,0⟩]):=by
    rw [Qv (st 0 10 _ _ _ q7 q7 (by unfold Qw;simp only;omega) (by unfold InV;simp only;omega) (qhu s) rfl)]
    rw [Qv (st 1 11 _ _ _ q7 q7 (by unfold Qw;simp only;omega) (by unfold InV;simp only;omega) (qhv s) rfl)]
    rw [Qv (st 2 3 _ _ _ q7 q7 (by unfold Qw;simp only;omega) (by unfold InV;simp only;omega) (qhw s) rfl)]
    rw [Qv (st 3 2 _ _ _ q7 q7 (by unfold Qw;simp only;omega) (by unfold InV;simp only;omega) (qhx s) rfl)]
    rw [Qv (st 4 0 _ _ _ q7 q7 (by unfold Qw;simp only;omega) (by unfold InV;simp only;omega) (qhy s) rfl)]
    rw [Qv (st 5 1 _ _ _ q7 q7 (by unfold Qw;simp only;omega) (by unfold InV;simp only;omega) (qhz s) rfl)]
    exact K8 rfl
  have e : loop U5 (0,[Kf,Kf,Kf,Kf,Kf,Kf],s.Frame.Turn,s.Frame.At.X,s.Frame.At.Y,s.Frame.At.Z,s.Size.X,s.Size.Y,s.Size.Z) = _:=e
  unfold Kf at e
  rw [e]
  rfl
theorem qto {s : Q2} {u : Nat} (h24 : u < 24) (hA : Qw s.Frame.At 1000) {t : Nat} (ht : t < 24) {a : qi} (ha : Qw a 1000) {zx zy : Int} (hz : 1≤zx∧zx≤1000∧1≤zy∧zy≤1000) :
    q55 (fS u s t a ⟨zx,zy,0⟩) 1 = some (fS u s t a ⟨zx,zy,1⟩,0)∧q20 (fS u s t a ⟨zx,zy,1⟩) = some (boxM (Zw (axT u) (axT t)) (addV (mulV (axT u) a) s.Frame.At) ⟨⟨0,0,0⟩,⟨zx,zy,1⟩⟩,0):=by
  have hb:=qat h24 hA ha
  obtain ⟨hc,hx⟩:=qa6 t ht u h24
  have hfk : FOk ⟨(Zb t u : Nat),Yd u s.Frame.At a⟩:=by
    refine ⟨by simp only;omega,?_⟩
    unfold Qw at hb;unfold InV;simp only;omega
  have hok0 : SOk (fS u s t a ⟨zx,zy,0⟩):=⟨hfk,by unfold InV fS;simp only;omega⟩
  have hok1 : SOk (fS u s t a ⟨zx,zy,1⟩):=⟨hfk,by unfold InV fS;simp only;omega⟩
  constructor
  · unfold q55
    rw [qeq (by unfold fS;simp only;omega),if_pos hok0]
    rfl
  · have:=qgn (s:=fS u s t a ⟨zx,zy,1⟩) (u:=Zb t u) rfl hc (q2c hb q7) (by unfold Qw fS;simp only;omega) hok1 (by unfold fS;simp only;omega)
    rw [this,hx]
    rfl
end Go.Sh
namespace Go.Sh
open Go Go.Am
theorem qae (x y z : Int) : fD x y z = fD y x z:=by unfold fD;rw [Int.mul_comm x y];omega
theorem q7f (x y z : Int) : fD x y z = fD x z y:=by unfold fD;rw [Int.mul_comm y z];omega
theorem qdi {x y z : Int} (hx : 0≤x∧x≤4000) (hy : 0≤y∧y≤4000) (hz : 0≤z∧z≤4000) : 0≤fD x y z∧fD x y z≤96000000:=by
  have a:=Int.mul_le_mul hx.2 hy.2 hy.1 q7
  have b:=Int.mul_le_mul hx.2 hz.2 hz.1 q7
  have c:=Int.mul_le_mul hy.2 hz.2 hz.1 q7
  have a':=Int.mul_nonneg hx.1 hy.1
  have b':=Int.mul_nonneg hx.1 hz.1
  have c':=Int.mul_nonneg hy.1 hz.1
  unfold fD;omega
theorem qdj {m : V3} (hm : Up m) {A S : qi} (hp : 1≤S.X∧1≤S.Y∧1≤S.Z) : Ko (boxM m A ⟨⟨0,0,0⟩,S⟩) = fD S.X S.Y S.Z:=by
  obtain ⟨⟨r1,r2,r3⟩,h⟩:=hm
  have q1:=q5m (t:=A.X) r1 hp
  have q2:=q5m (t:=A.Y) r2 hp
  have q3:=q5m (t:=A.Z) r3 hp
  have key : ∀ {x y z : Int},(boxM m A ⟨⟨0,0,0⟩,S⟩).Hi.X - (boxM m A ⟨⟨0,0,0⟩,S⟩).Lo.X = x→(boxM m A ⟨⟨0,0,0⟩,S⟩).Hi.Y - (boxM m A ⟨⟨0,0,0⟩,S⟩).Lo.Y = y→(boxM m A ⟨⟨0,0,0⟩,S⟩).Hi.Z - (boxM m A ⟨⟨0,0,0⟩,S⟩).Lo.Z = z→Ko (boxM m A ⟨⟨0,0,0⟩,S⟩) = fD x y z:=by
    intro x y z h1 h2 h3;rw [qaf,h1,h2,h3]
  rcases h with ⟨h1,h2,h3⟩ | ⟨h1,h2,h3⟩ | ⟨h1,h2,h3⟩ | ⟨h1,h2,h3⟩ | ⟨h1,h2,h3⟩ | ⟨h1,h2,h3⟩
  · exact key (q1.1 h1).2 (q2.2.1 h2).2 (q3.2.2 h3).2
  · rw [key (q1.1 h1).2 (q2.2.2 h3).2 (q3.2.1 h2).2,q7f]
  · rw [key (q1.2.1 h2).2 (q2.1 h1).2 (q3.2.2 h3).2,qae]
  · rw [key (q1.2.2 h3).2 (q2.1 h1).2 (q3.2.1 h2).2,qae,q7f]
  · rw [key (q1.2.1 h2).2 (q2.2.2 h3).2 (q3.1 h1).2,q7f,qae]
  · rw [key (q1.2.2 h3).2 (q2.2.1 h2).2 (q3.1 h1).2,q7f,qae,q7f]
theorem qd0 {u : Nat} (h24 : u < 24) {A S : qi} (hA : Qw A 4000) (hS : Qw S 4000) (hp : 1≤S.X∧1≤S.Y∧1≤S.Z) : vB (boxM (axT u) A ⟨⟨0,0,0⟩,S⟩):=by
  obtain ⟨⟨r1,r2,r3⟩,_⟩:=q6x _ (q4c u h24)
  obtain ⟨a1,a2,a3,a4,a5,a6⟩:=hA
  obtain ⟨v1,v2,v3,v4,v5,v6⟩:=hS
  have g : ∀ {a b c t : Int},rowOk a b c→(-4000≤t∧t≤4000)→(min (0 * a + 0 * b + 0 * c + t) (S.X * a + S.Y * b + S.Z * c + t) < max (0 * a + 0 * b + 0 * c + t) (S.X * a + S.Y * b + S.Z * c + t)∧-1000000≤min (0 * a + 0 * b + 0 * c + t) (S.X * a + S.Y * b + S.Z * c + t)∧max (0 * a + 0 * b + 0 * c + t) (S.X * a + S.Y * b + S.Z * c + t)≤1000000):=by
    intro a b c t h ht
    rcases h with ⟨rfl,rfl,rfl⟩ | ⟨rfl,rfl,rfl⟩ | ⟨rfl,rfl,rfl⟩ | ⟨rfl,rfl,rfl⟩ | ⟨rfl,rfl,rfl⟩ | ⟨rfl,rfl,rfl⟩ <;> omega
  have g1:=g r1 ⟨a1,a2⟩
  have g2:=g r2 ⟨a3,a4⟩
  have g3:=g r3 ⟨a5,a6⟩
  unfold vB boxM qc3 addV mulV
  simp only
  omega
theorem qvq {B C : qk} {p q : Int} (hB : vB B) (hC : vB C) (h : Adj B C p q) :
    jB 1 [B] [C] = ([],0)∧jB 2 [B] [C] = ([Kb B C],0)∧vB (Kb B C):=by
  have lB : ltB B:=by unfold vB at hB;unfold ltB;omega
  have vU : vB (Kb B C):=by unfold vB at hB hC ⊢;unfold Kb;simp only;omega
  have lU : ltB (Kb B C):=by unfold vB at vU;unfold ltB;omega
  have one : ∀ (b : qk) (x y z : Int),hasB [b] x y z↔inB b x y z:=fun b x y z=>by rw [qiw];exact ⟨fun h=>h.elim id fun h=>absurd h (q7n x y z),.inl⟩
  refine ⟨qj4 (q73 hB) (q73 hC) .nil qf fun x y z=>?_,qj4 (q73 hB) (q73 hC) (qgo lU) qf fun x y z=>?_,vU⟩
  · rw [qqk,one,one]
    exact ⟨fun hh=>absurd hh (qg8 lB h x y z).2,fun hh=>absurd hh (q7n x y z)⟩
  · rw [qar,one,one,one]
    exact (qg8 lB h x y z).1
theorem qvr {s : Q2} {u : Nat} (h24 : u < 24) (hA : Qw s.Frame.At 1000) (hS : (1≤s.Size.X∧1≤s.Size.Y∧1≤s.Size.Z)∧s.Size.X≤1000∧s.Size.Y≤1000∧s.Size.Z≤1000)
    {t : Nat} (ht : t < 24) {a : qi} (ha : Qw a 1000) {zx zy : Int} (hz : 1≤zx∧zx≤1000∧1≤zy∧zy≤1000)
    (hadj : Adj (boxM (axT u) s.Frame.At ⟨⟨0,0,0⟩,s.Size⟩) (boxM (Zw (axT u) (axT t)) (addV (mulV (axT u) a) s.Frame.At) ⟨⟨0,0,0⟩,⟨zx,zy,1⟩⟩) zx zy) :
    ∃ C U : qk,q55 (fS u s t a ⟨zx,zy,0⟩) 1 = some (fS u s t a ⟨zx,zy,1⟩,0)∧q20 (fS u s t a ⟨zx,zy,1⟩) = some (C,0)∧
      q6k [boxM (axT u) s.Frame.At ⟨⟨0,0,0⟩,s.Size⟩] [C] = some ([],0)∧q6l [boxM (axT u) s.Frame.At ⟨⟨0,0,0⟩,s.Size⟩] [C] = some ([U],0)∧
      Us [C] = some (Ko C,0)∧Us [U] = some (w64 (w64 (Ko (boxM (axT u) s.Frame.At ⟨⟨0,0,0⟩,s.Size⟩) + Ko C) - w64 (2 * w64 (zx * zy))),0):=by
  obtain ⟨e1,e2⟩:=qto h24 hA ht ha hz
  obtain ⟨hc,hx⟩:=qa6 t ht u h24
  have hb:=qat h24 hA ha
  have vB1 : vB (boxM (axT u) s.Frame.At ⟨⟨0,0,0⟩,s.Size⟩):=qd0 h24 (q2c hA q7) (by unfold Qw;omega) hS.1
  have vC : vB (boxM (Zw (axT u) (axT t)) (addV (mulV (axT u) a) s.Frame.At) ⟨⟨0,0,0⟩,⟨zx,zy,1⟩⟩):=by
    rw [← hx];exact qd0 hc (q2c hb q7) (by unfold Qw;simp only;omega) (by simp only;omega)
  obtain ⟨j1,j2,vU⟩:=qvq vB1 vC hadj
  have lB : ltB (boxM (axT u) s.Frame.At ⟨⟨0,0,0⟩,s.Size⟩):=by unfold vB at vB1;unfold ltB;omega
  have hf:=qng lB hadj
  have f1:=qdj (q6x _ (q4c u h24)) (A:=s.Frame.At) hS.1
  have f2 : Ko (boxM (Zw (axT u) (axT t)) (addV (mulV (axT u) a) s.Frame.At) ⟨⟨0,0,0⟩,⟨zx,zy,1⟩⟩) = fD zx zy 1:=by
    rw [← hx];exact qdj (q6x _ (q4c _ hc)) (S:=⟨zx,zy,1⟩) (by simp only;omega)
  have b1:=qdi (x:=s.Size.X) (y:=s.Size.Y) (z:=s.Size.Z) q7 q7 q7
  have b2:=qdi (x:=zx) (y:=zy) (z:=1) q7 q7 q7
  have b3 : 0≤zx * zy∧zx * zy≤1000000:=by
    have h1:=Int.mul_nonneg (show 0≤zx by omega) (show 0≤zy by omega)
    have h2:=Int.mul_le_mul hz.2.1 hz.2.2.2 q7 q7
    omega
  refine ⟨_,Kb _ _,e1,e2,by rw [qyu,j1],by rw [qyw,j2],by rw [qfe,qfr vC],?_⟩
  rw [qfe,qfr vU,hf,f1,f2,Q0 (x:=zx * zy) q7,Q0 (x:=2 * (zx * zy)) q7,Q0 (x:=fD _ _ _ + _) q7,Q0 q7]
theorem q11d (s : Q2) (d : Int) (ht : 0≤s.Frame.Turn) : qau s d = some true:=by
  unfold qau
  rw [qnh]
  simp only [Option.bind_some,qn5]
  by_cases hok : ¬ SOk s
  · rw [if_neg hok];rfl
  replace hok:=Classical.not_not.1 hok
  rw [if_pos hok]
  by_cases c1 : min (min s.Size.X s.Size.Y) s.Size.Z < 1
  · rw [decide_eq_true c1];rfl
  rw [decide_eq_false c1]
  by_cases c2 : max (max s.Size.X s.Size.Y) s.Size.Z > 1000
  · rw [decide_eq_true c2];rfl
  rw [decide_eq_false c2]
  by_cases c3 : max (max s.Frame.At.X s.Frame.At.Y) s.Frame.At.Z > 1000
  · rw [decide_eq_true c3];rfl
  rw [decide_eq_false c3]
  by_cases c4 : min (min s.Frame.At.X s.Frame.At.Y) s.Frame.At.Z < -1000
  · rw [decide_eq_true c4];rfl
  rw [decide_eq_false c4]
  by_cases c5 : d < 0
  · rw [decide_eq_true c5];rfl
  rw [decide_eq_false c5]
  by_cases c6 : d > 5
  · rw [decide_eq_true c6];rfl
  rw [decide_eq_false c6]
  obtain ⟨u,hu⟩ : ∃ u : Nat,s.Frame.Turn = u:=⟨s.Frame.Turn.toNat,q7⟩
  have h24 : u < 24:=by have:=hok.1.1;omega
  have hA : Qw s.Frame.At 1000:=by unfold Qw;omega
  have hS : (1≤s.Size.X∧1≤s.Size.Y∧1≤s.Size.Z)∧s.Size.X≤1000∧s.Size.Y≤1000∧s.Size.Z≤1000:=by omega
  have h00 : ((0 : Int) != 0) = false:=rfl
  have hbox:=qgn hu h24 (q2c hA q7) (by unfold Qw;omega) hok q7
  have vB1 : vB (boxM (axT u) s.Frame.At ⟨⟨0,0,0⟩,s.Size⟩):=qd0 h24 (q2c hA q7) (by unfold Qw;omega) hS.1
  have hm:=q6x _ (q4c u h24)
  have f1:=qdj hm (A:=s.Frame.At) hS.1
  have b1:=qdi (x:=s.Size.X) (y:=s.Size.Y) (z:=s.Size.Z) q7 q7 q7
  have hsf : Us [boxM (axT u) s.Frame.At ⟨⟨0,0,0⟩,s.Size⟩] = some (Ko (boxM (axT u) s.Frame.At ⟨⟨0,0,0⟩,s.Size⟩),0):=by rw [qfe,qfr vB1]
  have hloop : loop (q3f ((fS u s 10 ⟨s.Size.X,0,0⟩ ⟨s.Size.Y,s.Size.Z,0⟩,fS u s 11 ⟨0,0,s.Size.Z⟩ ⟨s.Size.Y,s.Size.Z,0⟩,fS u s 3 ⟨0,s.Size.Y,s.Size.Z⟩ ⟨s.Size.X,s.Size.Z,0⟩,fS u s 2 ⟨0,0,0⟩ ⟨s.Size.X,s.Size.Z,0⟩,fS u s 0 ⟨0,0,s.Size.Z⟩ ⟨s.Size.X,s.Size.Y,0⟩,fS u s 1 ⟨0,s.Size.Y,0⟩ ⟨s.Size.X,s.Size.Y,0⟩),0)) (0,((0 : Nat) : Int)) = some (Ko (boxM (axT u) s.Frame.At ⟨⟨0,0,0⟩,s.Size⟩)):=by
    have st : ∀ (k : Nat) (v : Q2) (n : Int),k < 6→idxA 6 [fS u s 10 ⟨s.Size.X,0,0⟩ ⟨s.Size.Y,s.Size.Z,0⟩,fS u s 11 ⟨0,0,s.Size.Z⟩ ⟨s.Size.Y,s.Size.Z,0⟩,fS u s 3 ⟨0,s.Size.Y,s.Size.Z⟩ ⟨s.Size.X,s.Size.Z,0⟩,fS u s 2 ⟨0,0,0⟩ ⟨s.Size.X,s.Size.Z,0⟩,fS u s 0 ⟨0,0,s.Size.Z⟩ ⟨s.Size.X,s.Size.Y,0⟩,fS u s 1 ⟨0,s.Size.Y,0⟩ ⟨s.Size.X,s.Size.Y,0⟩] (k : Int) = some v→
        q3f ((fS u s 10 ⟨s.Size.X,0,0⟩ ⟨s.Size.Y,s.Size.Z,0⟩,fS u s 11 ⟨0,0,s.Size.Z⟩ ⟨s.Size.Y,s.Size.Z,0⟩,fS u s 3 ⟨0,s.Size.Y,s.Size.Z⟩ ⟨s.Size.X,s.Size.Z,0⟩,fS u s 2 ⟨0,0,0⟩ ⟨s.Size.X,s.Size.Z,0⟩,fS u s 0 ⟨0,0,s.Size.Z⟩ ⟨s.Size.X,s.Size.Y,0⟩,fS u s 1 ⟨0,s.Size.Y,0⟩ ⟨s.Size.X,s.Size.Y,0⟩),0) (n,(k : Int)) = some (.inl (w64 (n + v.Size.X * v.Size.Y),((k + 1 : Nat) : Int))):=by
      intro k v n hk hv
      have hd : decide ((k : Int) < 6) = true:=decide_eq_true q7
      have hw : w64 ((k : Int) + 1) = ((k + 1 : Nat) : Int):=by rw [Q0 q7];omega
      simp only [q3f,hd,cond_true,hv,Option.bind_some,hw,q10p]
    rw [Qv (st 0 _ _ q7 rfl),Qv (st 1 _ _ q7 rfl),Qv (st 2 _ _ q7 rfl),Qv (st 3 _ _ q7 rfl),Qv (st 4 _ _ q7 rfl),Qv (st 5 _ _ q7 rfl)]
    simp only [qft]
    refine (K8 (b:=w64 (0 + s.Size.Y * s.Size.Z + s.Size.Y * s.Size.Z + s.Size.X * s.Size.Z + s.Size.X * s.Size.Z + s.Size.X * s.Size.Y + s.Size.X * s.Size.Y)) rfl).trans ?_
    rw [f1]
    unfold fD at b1 ⊢
    rw [Q0 q7]
    congr 1;omega
  have hloop : loop (q3f ((fS u s 10 ⟨s.Size.X,0,0⟩ ⟨s.Size.Y,s.Size.Z,0⟩,fS u s 11 ⟨0,0,s.Size.Z⟩ ⟨s.Size.Y,s.Size.Z,0⟩,fS u s 3 ⟨0,s.Size.Y,s.Size.Z⟩ ⟨s.Size.X,s.Size.Z,0⟩,fS u s 2 ⟨0,0,0⟩ ⟨s.Size.X,s.Size.Z,0⟩,fS u s 0 ⟨0,0,s.Size.Z⟩ ⟨s.Size.X,s.Size.Y,0⟩,fS u s 1 ⟨0,s.Size.Y,0⟩ ⟨s.Size.X,s.Size.Y,0⟩),0)) (0,0) = _:=hloop
  simp only [h00,cond_false,Option.bind_some,Bool.not_true,qpx hu h24 hA hok hS,hbox,hloop,hsf,bne_self_eq_false]
  have hd : d = 0∨d = 1∨d = 2∨d = 3∨d = 4∨d = 5:=by omega
  obtain ⟨t,a,zx,zy,ht,ha,hz,hadj,hv⟩ : ∃ (t : Nat) (a : qi) (zx zy : Int),t < 24∧Qw a 1000∧(1≤zx∧zx≤1000∧1≤zy∧zy≤1000)∧
      Adj (boxM (axT u) s.Frame.At ⟨⟨0,0,0⟩,s.Size⟩) (boxM (Zw (axT u) (axT t)) (addV (mulV (axT u) a) s.Frame.At) ⟨⟨0,0,0⟩,⟨zx,zy,1⟩⟩) zx zy∧
      idxA 6 [fS u s 10 ⟨s.Size.X,0,0⟩ ⟨s.Size.Y,s.Size.Z,0⟩,fS u s 11 ⟨0,0,s.Size.Z⟩ ⟨s.Size.Y,s.Size.Z,0⟩,fS u s 3 ⟨0,s.Size.Y,s.Size.Z⟩ ⟨s.Size.X,s.Size.Z,0⟩,fS u s 2 ⟨0,0,0⟩ ⟨s.Size.X,s.Size.Z,0⟩,fS u s 0 ⟨0,0,s.Size.Z⟩ ⟨s.Size.X,s.Size.Y,0⟩,fS u s 1 ⟨0,s.Size.Y,0⟩ ⟨s.Size.X,s.Size.Y,0⟩] d = some (fS u s t a ⟨zx,zy,0⟩):=by
    rcases hd with rfl | rfl | rfl | rfl | rfl | rfl
    · exact ⟨10,⟨s.Size.X,0,0⟩,s.Size.Y,s.Size.Z,q7,by unfold Qw;simp only;omega,q7,(by rw [show axT 10 = _ from (by decide +kernel : axT 10 = (⟨0,1,0⟩,⟨0,0,1⟩,⟨1,0,0⟩))];exact qnc hm hS.1),rfl⟩
    · exact ⟨11,⟨0,0,s.Size.Z⟩,s.Size.Y,s.Size.Z,q7,by unfold Qw;simp only;omega,q7,(by rw [show axT 11 = _ from (by decide +kernel : axT 11 = (⟨0,1,0⟩,⟨0,0,-1⟩,⟨-1,0,0⟩))];exact qnd hm hS.1),rfl⟩
    · exact ⟨3,⟨0,s.Size.Y,s.Size.Z⟩,s.Size.X,s.Size.Z,q7,by unfold Qw;simp only;omega,q7,(by rw [show axT 3 = _ from (by decide +kernel : axT 3 = (⟨1,0,0⟩,⟨0,0,-1⟩,⟨0,1,0⟩))];exact qnf hm hS.1),rfl⟩
    · exact ⟨2,⟨0,0,0⟩,s.Size.X,s.Size.Z,q7,by unfold Qw;simp only;omega,q7,(by rw [show axT 2 = _ from (by decide +kernel : axT 2 = (⟨1,0,0⟩,⟨0,0,1⟩,⟨0,-1,0⟩))];exact qne hm hS.1),rfl⟩
    · exact ⟨0,⟨0,0,s.Size.Z⟩,s.Size.X,s.Size.Y,q7,by unfold Qw;simp only;omega,q7,(by rw [qgj];exact qna hm hS.1),rfl⟩
    · exact ⟨1,⟨0,s.Size.Y,0⟩,s.Size.X,s.Size.Y,q7,by unfold Qw;simp only;omega,q7,(by rw [show axT 1 = _ from (by decide +kernel : axT 1 = (⟨1,0,0⟩,⟨0,-1,0⟩,⟨0,0,-1⟩))];exact qnb hm hS.1),rfl⟩
  obtain ⟨C,U,g1,g2,g3,g4,g5,g6⟩:=qvr h24 hA hS ht ha hz hadj
  simp only [hv,g1,g2,g3,g4,g5,g6,Option.bind_some,h00,cond_false,beq_self_eq_true,cond_true,List.length_nil]
  simp [fS]
end Go.Sh
