/- Sw6 -/
import Derived.Test.YtbknppciefodiaaGreatK12
namespace Go.Sh
open Go Go.Am
theorem qm0 {l : Qv} {b : List qg} (h : (barS l b).2 = 0) (hn : b.length≤400) : (∀ x∈b,vB (swp l.From l.To x))∧(barS l b).1 = mrgB 2 (b.map (swp l.From l.To)) []∧Kg (barS l b).1 = 0∧∀ x y z,hasB (barS l b).1 x y z↔hasB (b.map (swp l.From l.To)) x y z:=by
  unfold barS at h ⊢
  by_cases hP : ∀ x∈b,vB (swp l.From l.To x)
  · rw [if_pos hP] at h ⊢
    have hv : ∀ y∈b.map (swp l.From l.To),vB y:=by intro y hy;obtain ⟨x,hx,rfl⟩:=List.mem_map.1 hy;exact hP x hx
    unfold mkB at h ⊢
    rw [if_neg (by simp;omega),if_pos hv] at h ⊢
    by_cases h4 : 400 < (mrgB 2 (b.map (swp l.From l.To)) []).length
    · rw [if_pos h4] at h;simp at h
    · rw [if_neg h4]
      have hc:=q7l 2 (p:=b.map (swp l.From l.To)) (q:=[]) (by simp;omega)
      exact ⟨hP,rfl,q2k.2 ⟨by simpa using h4,hc.vB (InB.mrg (by simp;omega) (qyw hv) .nil),hc⟩,fun x y z=>q7d (by simp;omega) x y z⟩
  · rw [if_neg hP] at h;simp at h
theorem qm7 {t : K1} {bs : List (List qg)} (h : Ue t bs) {l : Qv} (hl : l∈t.Lines) : Kg (q2h bs l) = 0:=h.brush _ (qcg h hl).2
theorem qfo {t : K1} {bs : List (List qg)} (h : (Z6 t bs).2 = 0) : Ue t bs∧(∀ l∈t.Lines,(barB bs l).2 = 0)∧(Z6 t bs).1 = t.Lines.map fun l=>(barB bs l).1:=by
  unfold Z6 at h ⊢
  by_cases hc : chkS t bs = 0
  · rw [if_neg (not_not_intro hc)] at h ⊢
    by_cases hz : fstE (barB bs) t.Lines = 0
    · rw [if_pos hz]
      exact ⟨qcp.1 hc,qhd.1 hz,rfl⟩
    · rw [if_neg hz] at h;exact absurd h hz
  · rw [if_pos hc] at h;exact absurd h hc
theorem qm2 {t : K1} {bs : List (List qg)} : ∀ b∈(Z6 t bs).1,Kg b = 0:=by
  by_cases h : (Z6 t bs).2 = 0
  · obtain ⟨h1,h2,h3⟩:=qfo h
    rw [h3]
    intro b hb
    obtain ⟨l,hl,rfl⟩:=List.mem_map.1 hb
    exact (qm0 (h2 l hl) (q2k.1 (qm7 h1 hl)).1).2.2.1
  · have : (Z6 t bs).1 = []:=by
      unfold Z6 at h ⊢
      by_cases hc : chkS t bs = 0
      · rw [if_neg (not_not_intro hc)] at h ⊢
        by_cases hz : fstE (barB bs) t.Lines = 0
        · rw [if_pos hz] at h;exact absurd rfl h
        · rw [if_neg hz]
      · rw [if_pos hc]
    rw [this];intro b hb;cases hb
theorem qt3 (p : List (List qg)) (hl : p.length≤1000000) (hb : ∀ b∈p,b.length≤1000000) : q82 p p = some true:=by
  unfold q82
  rw [show ((p.length : Int) != (p.length : Int)) = false by simp,cond_false]
  rcases Yy p (fun _=>false) (fun k _=>false) () (q53 p p) (fun k hk=>by
    simp only [q53,dlt hk,cond_true,Qj hk,Option.bind_some,w64s hk hl,sameBox _ _ (hb _ (List.getElem_mem hk)),decide_true,Bool.not_true,cond_false]
    rfl) (by simp only [q53,dnl,cond_false]) with ⟨a1,a2⟩ | ⟨k,hk,hc,_,a2⟩
  · rw [a2];rfl
  · cases hc
def Uw (l : Qv) : Prop:=(InV l.From (-2000000)∧InV l.To (-2000000))∧(max (max (max (max (max (l.From.X - l.To.X) (l.To.X - l.From.X)) (l.From.Y - l.To.Y)) (l.To.Y - l.From.Y)) (l.From.Z - l.To.Z)) (l.To.Z - l.From.Z))≤30
instance (l : Qv) : Decidable (Uw l):=by unfold Uw;infer_instance
theorem qom (t : K1) (bs : List (List qg)) : q4z t bs = some true∨(q4z t bs = some false∧Small t bs):=by
  unfold q4z
  by_cases h1 : 12 < t.Lines.length
  · rw [decide_eq_true (by omega : (t.Lines.length : Int) > 12)];exact .inl rfl
  by_cases h2 : 50 < t.Marks.length
  · rw [decide_eq_false (by omega : ¬ (t.Lines.length : Int) > 12),decide_eq_true (by omega : (t.Marks.length : Int) > 50)];exact .inl rfl
  by_cases h3 : 25 < bs.length
  · rw [decide_eq_false (by omega : ¬ (t.Lines.length : Int) > 12),decide_eq_false (by omega : ¬ (t.Marks.length : Int) > 50),decide_eq_true (by omega : (bs.length : Int) > 25)];exact .inl rfl
  rw [decide_eq_false (by omega : ¬ (t.Lines.length : Int) > 12),decide_eq_false (by omega : ¬ (t.Marks.length : Int) > 50),decide_eq_false (by omega : ¬ (bs.length : Int) > 25)]
  simp only [cond_false,Option.bind_some]
  rcases Yy t.Lines (fun l=>!decide (Uw l)) (fun k _=>true) () (q50 t) (fun k hk=>by
    simp only [q50,dlt hk,cond_true,Qj hk,Option.bind_some,w64s hk (show t.Lines.length≤1000000 by omega),qc2]
    generalize t.Lines[k] = l
    by_cases i1 : InV l.From (-2000000)
    · by_cases i2 : InV l.To (-2000000)
      · have g1:=i1;have g2:=i2
        unfold InV at g1 g2
        rw [Q6 q6,Q6 q6,Q6 q6,Q6 q6,Q6 q6,Q6 q6]
        have e : decide (max (max (max (max (max (l.From.X - l.To.X) (l.To.X - l.From.X)) (l.From.Y - l.To.Y)) (l.To.Y - l.From.Y)) (l.From.Z - l.To.Z)) (l.To.Z - l.From.Z) > 30) = !decide (Uw l):=by
          rw [Bool.eq_iff_iff];simp only [decide_eq_true_eq,Bool.not_eq_true',decide_eq_false_iff_not,Uw,i1,i2,true_and,and_true];omega
        rw [e,decide_eq_true i1,decide_eq_true i2]
        cases decide (Uw l) <;> rfl
      · have e : decide (Uw l) = false:=decide_eq_false fun h=>i2 h.1.2
        rw [e,decide_eq_true i1,decide_eq_false i2];rfl
    · have e : decide (Uw l) = false:=decide_eq_false fun h=>i1 h.1.1
      rw [e,decide_eq_false i1];rfl) (by simp only [q50,dnl,cond_false]) with ⟨a1,a2⟩ | ⟨k,hk,hc,_,a2⟩
  rotate_left
  · rw [a2];exact .inl rfl
  rw [a2]
  simp only [Option.bind_some]
  rcases Yy bs (fun b=>decide (5 < b.length)) (fun k _=>true) () (q51 bs) (fun k hk=>by
    simp only [q51,dlt hk,cond_true,Qj hk,Option.bind_some,w64s hk (show bs.length≤1000000 by omega)]
    by_cases h : 5 < bs[k].length
    · rw [decide_eq_true (by omega : (bs[k].length : Int) > 5)];simp [h]
    · rw [decide_eq_false (by omega : ¬ (bs[k].length : Int) > 5)];simp [h]) (by simp only [q51,dnl,cond_false]) with ⟨b1,b2⟩ | ⟨k,hk,hc,_,b2⟩
  rotate_left
  · rw [b2];exact .inl rfl
  rw [b2]
  refine .inr ⟨rfl,q6,q6,q6,fun l hl=>?_,fun b hb=>by simpa using b1 b hb⟩
  have hn : Uw l:=by simpa using a1 l hl
  refine ⟨hn.1,?_⟩
  have:=q7n l.From l.To
  have:=hn.2
  omega
def oneT (l : Qv) : K1:=({Lines:=[l],Marks:=[],End:=({Frame:=({Turn:=0,At:=({X:=0,Y:=0,Z:=0} : qv)} : Ys),Drawn:=0} : q42)} : K1)
noncomputable def barT (l : Qv) (b : List qg) : List qg × Int:=if ¬ TOk (oneT l) then ([],8) else if Kg b≠0 then ([],Kg b) else barS l b
theorem qt2 (l : Qv) (b : List qg) : q9j l b = some (barT l b):=by
  obtain ⟨n,hn⟩:=ql9 (oneT l) (by simp [oneT]) (by simp [oneT])
  unfold q9j barT
  rw [show q3y ({Lines:=[l],Marks:=[],End:=({Frame:=({Turn:=0,At:=({X:=0,Y:=0,Z:=0} : qv)} : Ys),Drawn:=0} : q42)} : K1) = _ from hn]
  simp only [Option.bind_some]
  by_cases g1 : TOk (oneT l)
  · rw [if_pos g1,if_neg (not_not_intro g1),show ((0 : Int) != 0) = false from rfl,cond_false]
    rw [qkm,Option.bind_some]
    by_cases g2 : Kg b = 0
    · have hl : LOk l:=g1.2.1 l (by simp [oneT])
      obtain ⟨hb,hv,_⟩:=q2k.1 g2
      rw [g2,if_neg qy,show ((0 : Int) != 0) = false from rfl,cond_false,ql1 hl hb hv];rfl
    · rw [if_pos g2,show (Kg b != 0) = true by simpa using g2];rfl
  · rw [if_neg g1,if_pos g1];rfl
theorem qsc (l : Qv) (b : List qg) (hn : nL l.From l.To≤1000) (h5 : b.length≤5) : q7y l b = some (barT l b):=by
  unfold q7y barT
  have e : q80 l = some (oneT l):=rfl
  rw [e]
  simp only [Option.bind_some,qje (oneT l) (by simp [oneT]) (by simp [oneT])]
  by_cases g1 : TOk (oneT l)
  · rw [if_pos g1,if_neg (not_not_intro g1),show ((0 : Int) != 0) = false from rfl,cond_false]
    rw [qjf,Option.bind_some]
    by_cases g2 : Kg b = 0
    · have hl : LOk l:=g1.2.1 l (by simp [oneT])
      obtain ⟨hb,hv,_⟩:=q2k.1 g2
      rw [g2,if_neg qy,show ((0 : Int) != 0) = false from rfl,cond_false,qjk hl hn h5 hv];rfl
    · rw [if_pos g2,show (Kg b != 0) = true by simpa using g2];rfl
  · rw [if_neg g1,if_pos g1];rfl
theorem qm1 (l : Qv) (b : List qg) : (barT l b).1.length≤400:=by
  unfold barT
  split
  · simp
  split
  · simp
  · unfold barS
    split
    · exact qpo _
    · simp
theorem qzm (t : K1) (bs : List (List qg)) : qak t bs = some true:=by
  unfold qak
  rcases qom t bs with h | ⟨h,hs⟩
  · rw [h];rfl
  rw [h]
  have h1:=hs.lines
  have h2:=hs.marks
  have h3:=hs.many
  simp only [Option.bind_some,cond_false,qm3 t bs q6 q6 q6,qsb hs]
  have hlen : (Z6 t bs).1.length≤1000000:=by
    by_cases he : (Z6 t bs).2 = 0
    · rw [(qfo he).2.2];simp;omega
    · have : (Z6 t bs).1 = []:=by
        unfold Z6 at he ⊢
        split
        · rfl
        · rename_i hc
          rw [if_neg hc] at he
          split at he
          · exact absurd rfl he
          · rename_i hz;rw [if_neg hz]
      rw [this];simp
  rw [qt3 _ hlen (fun b hb=>by have:=(q2k.1 (qm2 b hb)).1;omega)]
  simp only [Option.bind_some,Bool.not_true,cond_false,bne_self_eq_false]
  by_cases g1 : t.Lines.length = 0
  · rw [g1];rfl
  by_cases g2 : bs.length = 0
  · rw [show ((t.Lines.length : Int) == 0) = false by simpa using g1,g2];rfl
  have i1 : idx t.Lines 0 = some (t.Lines[0]'(q6)):=Qj (k:=0) q6
  have i2 : idx bs 0 = some (bs[0]'(q6)):=Qj (k:=0) q6
  rw [show ((t.Lines.length : Int) == 0) = false by simpa using g1,show ((bs.length : Int) == 0) = false by simpa using g2,i1,i2]
  have hn:=(hs.near _ (List.getElem_mem (l:=t.Lines) (n:=0) q6)).2
  have h5:=hs.few _ (List.getElem_mem (l:=bs) (n:=0) q6)
  simp only [cond_false,Option.bind_some,qt2,qsc _ _ (show nL (t.Lines[0]'(q6)).From (t.Lines[0]'(q6)).To≤1000 by omega) h5]
  rw [sameBox _ _ (by have:=qm1 (t.Lines[0]'(q6)) (bs[0]'(q6));omega)]
  simp
end Go.Sh
