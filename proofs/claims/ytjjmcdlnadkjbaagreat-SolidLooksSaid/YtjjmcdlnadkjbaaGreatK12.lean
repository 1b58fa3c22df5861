/- Qa1 Qa2 Qa3 Rs1 Rs2 Rs3 Qb1 Rs4 Qb2 -/
import Derived.Test.YtjjmcdlnadkjbaaGreatK11
namespace Go.Sh
open Go Go.Am
structure Grp (σ : Type) where
  lo : Int
  hi : Int
  sec : List σ
section
variable {σ β : Type}
def CanG (gs : List (Grp σ)) : Prop:=(∀ g∈gs,g.lo < g.hi∧g.sec≠[])∧gs.Pairwise (fun g h=>g.hi≤h.lo∧(g.hi = h.lo→g.sec≠h.sec))
def secG : List (Grp σ)→Int→List σ
  | [],_=>[]
  | g::r,x=>if g.lo≤x∧x < g.hi then g.sec else secG r x
def Kk (put : Int→Int→σ→β) (gs : List (Grp σ)) : List β:=gs.flatMap fun g=>g.sec.map (put g.lo g.hi)
theorem qn5 (put : Int→Int→σ→β) (a b : List (Grp σ)) : Kk put (a ++ b) = Kk put a ++ Kk put b:=by simp [Kk]
theorem q1t {y x : Int} : ∀ {r : List (Grp σ)},(∀ h∈r,y≤h.lo)→x < y→secG r x = []
  | [],_,_=>rfl
  | g::r,h,hx=>by
    have:=h g (by simp)
    rw [secG,if_neg (by omega)]
    exact q1t (fun k hk=>h k (by simp [hk])) hx
theorem q54 {y x : Int} : ∀ {r : List (Grp σ)},(∀ h∈r,h.hi≤y)→y≤x→secG r x = []
  | [],_,_=>rfl
  | g::r,h,hx=>by
    have:=h g (by simp)
    rw [secG,if_neg (by omega)]
    exact q54 (fun k hk=>h k (by simp [hk])) hx
theorem q7l {x : Int} : ∀ {a b : List (Grp σ)},secG a x = []→(∀ g∈a,g.sec≠[])→secG (a ++ b) x = secG b x
  | [],_,_,_=>rfl
  | g::a,b,h,hne=>by
    rw [secG] at h
    split at h
    · exact absurd h (hne g (by simp))
    · rename_i hx
      rw [List.cons_append,secG,if_neg hx]
      exact q7l h fun k hk=>hne k (by simp [hk])
theorem qdt {y x : Int} {a b : List (Grp σ)} (hb : ∀ h∈b,y≤h.lo) (hx : x < y) : secG (a ++ b) x = secG a x:=by
  induction a with
  | nil=>exact q1t hb hx
  | cons g a ih=>simp only [List.cons_append,secG,ih]
theorem CanG.tail {g : Grp σ} {r : List (Grp σ)} (h : CanG (g::r)) : CanG r:=⟨fun k hk=>h.1 k (by simp [hk]),(List.pairwise_cons.1 h.2).2⟩
theorem CanG.nxt {g : Grp σ} {r : List (Grp σ)} (h : CanG (g::r)) : ∀ k∈r,g.hi≤k.lo∧(g.hi = k.lo→g.sec≠k.sec):=(List.pairwise_cons.1 h.2).1
theorem q1s {g : Grp σ} {r : List (Grp σ)} {x : Int} (h1 : g.lo≤x) (h2 : x < g.hi) : secG (g::r) x = g.sec:=by rw [secG,if_pos ⟨h1,h2⟩]
theorem qtf {g : Grp σ} {r : List (Grp σ)} (h : CanG (g::r)) : secG (g::r) g.hi≠g.sec:=by
  rw [secG,if_neg (by omega)]
  cases r with
  | nil=>exact fun e=>(h.1 g (by simp)).2 e.symm
  | cons k r=>
    have hk:=h.nxt k (by simp)
    have hk2:=h.tail.1 k (by simp)
    by_cases he : g.hi = k.lo
    · rw [q1s (by omega) (by omega)];exact fun e=>hk.2 he e.symm
    · rw [secG,if_neg (by omega),q1t (y:=k.hi) (fun m hm=>(h.tail.nxt m hm).1) (by omega)]
      exact fun e=>(h.1 g (by simp)).2 e.symm
theorem qbr : ∀ {a b : List (Grp σ)},CanG a→CanG b→(∀ x,secG a x = secG b x)→a = b
  | [],[],_,_,_=>rfl
  | [],g::r,_,hb,h=>by
    have:=h g.lo
    rw [q1s (Int.le_refl _) (hb.1 g (by simp)).1] at this
    exact absurd this.symm (hb.1 g (by simp)).2
  | g::r,[],ha,_,h=>by
    have:=h g.lo
    rw [q1s (Int.le_refl _) (ha.1 g (by simp)).1] at this
    exact absurd this (ha.1 g (by simp)).2
  | g::r,k::s,ha,hb,h=>by
    have hg:=ha.1 g (by simp)
    have hk:=hb.1 k (by simp)
    have low : ∀ {g k : Grp σ} {r s : List (Grp σ)},CanG (g::r)→CanG (k::s)→(∀ x,secG (g::r) x = secG (k::s) x)→k.lo≤g.lo:=by
      intro g k r s ha hb h
      refine Int.not_lt.1 fun hlt=>?_
      have h1:=h g.lo
      rw [q1s (Int.le_refl _) (ha.1 g (by simp)).1,q1t (y:=k.lo) (fun m hm=>?_) hlt] at h1
      · exact (ha.1 g (by simp)).2 h1
      · rcases List.mem_cons.1 hm with rfl | hm
        · exact Int.le_refl _
        · have:=(hb.nxt m hm).1;have:=(hb.1 k (by simp)).1;omega
    have e1 : g.lo = k.lo:=Int.le_antisymm (low hb ha fun x=>(h x).symm) (low ha hb h)
    have e2 : g.sec = k.sec:=by
      have h1:=h g.lo
      rwa [q1s (Int.le_refl _) hg.1,q1s (by omega) (by omega)] at h1
    have hi : ∀ {g k : Grp σ} {r s : List (Grp σ)},CanG (g::r)→CanG (k::s)→(∀ x,secG (g::r) x = secG (k::s) x)→g.lo = k.lo→g.sec = k.sec→k.hi≤g.hi:=by
      intro g k r s ha hb h e1 e2
      refine Int.not_lt.1 fun hlt=>?_
      have h1:=h g.hi
      have:=(ha.1 g (by simp)).1
      rw [q1s (g:=k) (by omega) hlt,← e2] at h1
      exact qtf ha h1
    have e3 : g.hi = k.hi:=Int.le_antisymm (hi hb ha (fun x=>(h x).symm) e1.symm e2.symm) (hi ha hb h e1 e2)
    have e : g = k:=by cases g;cases k;simp at e1 e2 e3;simp [e1,e2,e3]
    subst e
    have : r = s:=qbr ha.tail hb.tail fun x=>by
      by_cases hx : x < g.hi
      · rw [q1t (y:=g.hi) (fun m hm=>(ha.nxt m hm).1) hx,q1t (y:=g.hi) (fun m hm=>(hb.nxt m hm).1) hx]
      · have h1:=h x
        rwa [secG,secG,if_neg (by omega),if_neg (by omega)] at h1
    rw [this]
def curG (s : Mg σ β) : List (Grp σ):=if s.sec = [] then [] else [⟨s.lo,s.hi,s.sec⟩]
def secC (sec : Int→List σ) : List Int→Int→List σ
  | a::b::r,x=>if a≤x∧x < b then sec a else secC sec (b::r) x
  | _,_=>[]
theorem qg8 (put : Int→Int→σ→β) (s : Mg σ β) (gs : List (Grp σ)) (h : s.done = Kk put gs) : s.flat put = Kk put (gs ++ curG s):=by
  rw [qn5,Mg.flat,h]
  unfold curG
  split
  · rename_i h1;simp [h1,Kk]
  · simp [Kk]
theorem qa0 {s : Mg σ β} {g : Grp σ} (h : g∈curG s) : s.sec≠[]∧g = ⟨s.lo,s.hi,s.sec⟩:=by
  unfold curG at h;split at h
  · cases h
  · rename_i hn;exact ⟨hn,by simpa using h⟩
theorem qai (sec : Int→List σ) {x : Int} : ∀ {cuts : List Int},cuts.Pairwise (· < ·)→
    (∀ a∈cuts,a≤x→(∀ c∈cuts,c≤a∨x < c)→sec a = sec x)→((∀ c∈cuts,x < c)→sec x = [])→((∀ c∈cuts,c≤x)→sec x = [])→secC sec cuts x = sec x
  | [],_,_,h2,_=>(h2 (by simp)).symm
  | [a],_,_,h2,h3=>by
    rw [secC]
    · by_cases hx : x < a
      · exact (h2 (by simpa using hx)).symm
      · exact (h3 (by simpa using hx)).symm
    · intro a b r h;simp at h
  | a::b::r,hp,h1,h2,h3=>by
    have hab : a < b:=(List.pairwise_cons.1 hp).1 b (by simp)
    have hbr:=(List.pairwise_cons.1 (List.pairwise_cons.1 hp).2).1
    rw [secC]
    split
    · rename_i hx
      refine h1 a (by simp) hx.1 fun c hc=>?_
      rcases List.mem_cons.1 hc with rfl | hc
      · exact .inl (Int.le_refl _)
      · rcases List.mem_cons.1 hc with rfl | hc
        · exact .inr hx.2
        · have:=hbr c hc;exact .inr (by omega)
    · rename_i hx
      by_cases hxa : x < a
      · have e : sec x = []:=h2 fun c hc=>by
          rcases List.mem_cons.1 hc with rfl | hc
          · exact hxa
          · have:=(List.pairwise_cons.1 hp).1 c hc;omega
        have:=qai sec (x:=x) (List.pairwise_cons.1 hp).2 (fun a' ha' hle _=>by
          exfalso;have:=(List.pairwise_cons.1 hp).1 a' ha';omega) (fun _=>e) (fun _=>e)
        exact this
      · have hbx : b≤x:=by omega
        exact qai sec (List.pairwise_cons.1 hp).2 (fun a' ha' hle hall=>h1 a' (by simp [ha']) hle fun c hc=>by
          rcases List.mem_cons.1 hc with rfl | hc
          · have:=(List.pairwise_cons.1 hp).1 a' ha';exact .inl (by omega)
          · exact hall c hc) (fun hall=>by have:=hall b (by simp);omega) (fun hall=>h3 fun c hc=>by
          rcases List.mem_cons.1 hc with rfl | hc
          · omega
          · exact hall c hc)
variable [DecidableEq σ] (put : Int→Int→σ→β)
structure InvG (s : Mg σ β) (gs : List (Grp σ)) (c : Int) : Prop where
  done : s.done = Kk put gs
  can : CanG (gs ++ curG s)
  le : ∀ g∈gs ++ curG s,g.hi≤c
  gap : s.sec = []→∀ g∈gs,g.hi = c→False
theorem qo5 {s : Mg σ β} {gs : List (Grp σ)} {a b : Int} {c : List σ} (hab : a < b) (hi : InvG put s gs a) :
    ∃ gs',InvG put (addM put s a b c) gs' b∧∀ x,secG (gs' ++ curG (addM put s a b c)) x = if a≤x∧x < b then c else secG (gs ++ curG s) x:=by
  rcases U7 put s a b c with ⟨h1,h2,h3,h4⟩ | ⟨h1,h4⟩
  · rw [h4]
    have hs : s.sec≠[]:=h2 ▸ h1
    have c1 : curG s = [⟨s.lo,s.hi,s.sec⟩]:=by unfold curG;rw [if_neg hs]
    have c2 : curG (⟨s.done,s.sec,s.lo,b⟩ : Mg σ β) = [⟨s.lo,b,s.sec⟩]:=by unfold curG;rw [if_neg hs]
    have hcan:=hi.can
    rw [c1] at hcan
    have hlo : s.lo < s.hi:=(hcan.1 ⟨s.lo,s.hi,s.sec⟩ (by simp)).1
    refine ⟨gs,⟨hi.done,?_,?_,fun h=>absurd h hs⟩,?_⟩
    · rw [c2]
      refine ⟨fun g hg=>?_,?_⟩
      · rcases List.mem_append.1 hg with hg | hg
        · exact hcan.1 g (by simp [hg])
        · obtain rfl:=List.mem_singleton.1 hg;exact ⟨by simp only;omega,hs⟩
      · have:=List.pairwise_append.1 hcan.2
        refine List.pairwise_append.2 ⟨this.1,by simp,fun g hg k hk=>?_⟩
        obtain rfl:=List.mem_singleton.1 hk
        exact this.2.2 g hg ⟨s.lo,s.hi,s.sec⟩ (by simp)
    · rw [c2]
      intro g hg
      rcases List.mem_append.1 hg with hg | hg
      · have:=hi.le g (by simp [hg]);omega
      · obtain rfl:=List.mem_singleton.1 hg;exact Int.le_refl _
    · intro x
      rw [c1,c2]
      have hg0 : ∀ g∈gs,g.hi≤s.lo:=fun g hg=>((List.pairwise_append.1 hcan.2).2.2 g hg ⟨s.lo,s.hi,s.sec⟩ (by simp)).1
      have hgn : ∀ g∈gs,g.sec≠[]:=fun g hg=>(hcan.1 g (by simp [hg])).2
      by_cases hx : x < s.lo
      · rw [if_neg (by omega),qdt (y:=s.lo) (by simp) hx,qdt (y:=s.lo) (by simp) hx]
      · have e : secG gs x = []:=q54 hg0 (by omega)
        rw [q7l e hgn,q7l e hgn]
        simp only [secG]
        by_cases hx2 : x < s.hi
        · rw [if_pos ⟨by omega,by omega⟩,if_neg (by omega),if_pos ⟨by omega,hx2⟩]
        · by_cases hx3 : x < b
          · rw [if_pos ⟨by omega,hx3⟩,if_pos ⟨by omega,hx3⟩,h2]
          · rw [if_neg (by omega),if_neg (by omega),if_neg (by omega)]
  · rw [h4]
    have hd : s.flat put = Kk put (gs ++ curG s):=qg8 put s gs hi.done
    refine ⟨gs ++ curG s,⟨hd,?_,?_,?_⟩,?_⟩
    · by_cases hc : c = []
      · have : curG (⟨s.flat put,c,a,b⟩ : Mg σ β) = []:=by unfold curG;rw [if_pos hc]
        rw [this,List.append_nil];exact hi.can
      · have : curG (⟨s.flat put,c,a,b⟩ : Mg σ β) = [⟨a,b,c⟩]:=by unfold curG;rw [if_neg hc]
        rw [this]
        refine ⟨fun g hg=>?_,List.pairwise_append.2 ⟨hi.can.2,by simp,fun g hg k hk=>?_⟩⟩
        · rcases List.mem_append.1 hg with hg | hg
          · exact hi.can.1 g hg
          · obtain rfl:=List.mem_singleton.1 hg;exact ⟨hab,hc⟩
        · obtain rfl:=List.mem_singleton.1 hk
          refine ⟨hi.le g hg,fun he hsec=>?_⟩
          rcases List.mem_append.1 hg with hg' | hg'
          · by_cases hs : s.sec = []
            · exact hi.gap hs g hg' he
            · have h5 : (⟨s.lo,s.hi,s.sec⟩ : Grp σ)∈curG s:=by unfold curG;rw [if_neg hs];simp
              have h6:=((List.pairwise_append.1 hi.can.2).2.2 g hg' _ h5).1
              have h7:=(hi.can.1 _ (List.mem_append.2 (.inr h5))).1
              have h8:=hi.le _ (List.mem_append.2 (.inr h5))
              simp only at he h6 h7 h8
              omega
          · obtain ⟨hs,rfl⟩:=qa0 hg'
            exact h1 ⟨hc,hsec.symm,he⟩
    · intro g hg
      rcases List.mem_append.1 hg with hg | hg
      · have:=hi.le g hg;omega
      · obtain ⟨_,rfl⟩:=qa0 hg;exact Int.le_refl _
    · intro hc g hg he
      have:=hi.le g hg;omega
    · intro x
      by_cases hx : a≤x∧x < b
      · rw [if_pos hx,q7l (q54 hi.le hx.1) fun g hg=>(hi.can.1 g hg).2]
        unfold curG
        split
        · rename_i hc;simp only at hc;rw [hc];rfl
        · simp only [secG];rw [if_pos hx]
      · rw [if_neg hx]
        by_cases hxa : x < a
        · exact qdt (y:=a) (fun g hg=>by obtain ⟨_,rfl⟩:=qa0 hg;exact Int.le_refl _) hxa
        · have e:=q54 (x:=x) hi.le (by omega)
          rw [q7l e fun g hg=>(hi.can.1 g hg).2,e]
          exact q54 (y:=b) (fun g hg=>by obtain ⟨_,rfl⟩:=qa0 hg;exact Int.le_refl _) (by omega)
theorem qj3 (sec : Int→List σ) : ∀ (cuts : List Int) (c : Int) (s : Mg σ β) (gs : List (Grp σ)),(c::cuts).Pairwise (· < ·)→InvG put s gs c→
    ∃ gs',(runM put sec s (c::cuts)).flat put = Kk put gs'∧CanG gs'∧∀ x,secG gs' x = if x < c then secG (gs ++ curG s) x else secC sec (c::cuts) x
  | [],c,s,gs,_,hi=>by
    refine ⟨gs ++ curG s,qg8 put s gs hi.done,hi.can,fun x=>?_⟩
    by_cases hx : x < c
    · rw [if_pos hx]
    · rw [if_neg hx];exact q54 hi.le (by omega)
  | b::cuts,a,s,gs,hp,hi=>by
    have hab : a < b:=(List.pairwise_cons.1 hp).1 b (by simp)
    obtain ⟨gs',hi',hs'⟩:=qo5 (b:=b) (c:=sec a) put hab hi
    obtain ⟨gs2,e1,e2,e3⟩:=qj3 sec cuts b _ gs' (List.pairwise_cons.1 hp).2 hi'
    refine ⟨gs2,e1,e2,fun x=>?_⟩
    rw [e3 x]
    by_cases hx : x < a
    · rw [if_pos (by omega),if_pos hx,hs',if_neg (by omega)]
    · rw [if_neg hx]
      simp only [secC]
      by_cases hxb : x < b
      · rw [if_pos hxb,hs',if_pos ⟨by omega,hxb⟩,if_pos ⟨by omega,hxb⟩]
      · rw [if_neg hxb,if_neg (by omega)]
theorem qhm (sec : Int→List σ) {cuts : List Int} (hc : cuts.Pairwise (· < ·)) :
    ∃ gs,(Qn put Qm (Y5 cuts sec)).flat put = Kk put gs∧CanG gs∧∀ x,secG gs x = secC sec cuts x:=by
  rw [qgb]
  cases cuts with
  | nil=>exact ⟨[],rfl,⟨by simp,by simp⟩,fun x=>rfl⟩
  | cons c cuts=>
    obtain ⟨gs,e1,e2,e3⟩:=qj3 put sec cuts c (Qm : Mg σ β) [] hc ⟨rfl,⟨by simp [curG,Qm],by simp [curG,Qm]⟩,by simp [curG,Qm],by simp⟩
    refine ⟨gs,e1,e2,fun x=>?_⟩
    rw [e3 x]
    split
    · rename_i hx
      have : ∀ (cuts : List Int) (c : Int),(c::cuts).Pairwise (· < ·)→x < c→secC sec (c::cuts) x = []:=by
        intro cuts
        induction cuts with
        | nil=>intros;rfl
        | cons b r ih=>
          intro c hp hx
          rw [secC,if_neg (by omega)]
          exact ih b (List.pairwise_cons.1 hp).2 (by have:=(List.pairwise_cons.1 hp).1 b (by simp);omega)
      rw [this cuts c hc hx];rfl
    · rfl
end
end Go.Sh
namespace Go.Sh
open Go Go.Am
section
variable {σ : Type}
theorem qdv {x : Int} : ∀ (gs : List (Grp σ)),secG gs x = []∨∃ g∈gs,g.lo≤x∧x < g.hi∧secG gs x = g.sec
  | []=>.inl rfl
  | g::r=>by
    by_cases hx : g.lo≤x∧x < g.hi
    · exact .inr ⟨g,by simp,hx.1,hx.2,by rw [secG,if_pos hx]⟩
    · rw [secG,if_neg hx]
      rcases qdv r with h | ⟨k,hk,h⟩
      · exact .inl h
      · exact .inr ⟨k,by simp [hk],h⟩
theorem qdu : ∀ {gs : List (Grp σ)},CanG gs→∀ g∈gs,∀ x,g.lo≤x→x < g.hi→secG gs x = g.sec
  | k::r,h,g,hg,x,h1,h2=>by
    rcases List.mem_cons.1 hg with rfl | hg
    · exact q1s h1 h2
    · have:=(h.nxt g hg).1
      rw [secG,if_neg (by omega)]
      exact qdu h.tail g hg x h1 h2
end
theorem qh4 (kind : Int) : q2j kind [] [] = []:=by
  have hj:=(q6s kind [] [] (by simp) (by simp)).2
  refine q6c hj.can ⟨by simp,by simp⟩ fun x=>?_
  rw [hj.pts]
  have:=Uk x
  unfold Kr;simp [this]
theorem qmk (a b : List qh) (x : Int) : covS (a ++ b) x = covS a x ++ covS b x:=by simp [covS]
theorem qmm (s : List qi) (lo hi x : Int) : covS (s.map (putR lo hi)) x = if lo≤x∧x < hi then s else []:=by
  induction s with
  | nil=>simp [covS]
  | cons t s ih=>
    have e : covS (List.map (putR lo hi) (t::s)) x = (if covR x (putR lo hi t) = true then [t] else []) ++ covS (s.map (putR lo hi)) x:=rfl
    rw [e,ih]
    have : covR x (putR lo hi t) = (decide (lo≤x) && decide (x < hi)):=rfl
    rw [this]
    by_cases h1 : lo≤x <;> by_cases h2 : x < hi <;> simp [h1,h2]
theorem q6g : ∀ {gs : List (Grp qi)},CanG gs→∀ x,covS (Kk putR gs) x = secG gs x
  | [],_,x=>rfl
  | g::r,h,x=>by
    have e : Kk putR (g::r) = g.sec.map (putR g.lo g.hi) ++ Kk putR r:=rfl
    rw [e,qmk,qmm,q6g h.tail x]
    by_cases hx : g.lo≤x∧x < g.hi
    · rw [if_pos hx,secG,if_pos hx,q1t (y:=g.hi) (fun m hm=>(h.nxt m hm).1) hx.2,List.append_nil]
    · rw [if_neg hx,secG,if_neg hx,List.nil_append]
theorem qfm {l : List qh} {a x : Int} (h : ∀ r∈l,covR a r = covR x r) : covS l a = covS l x:=by
  induction l with
  | nil=>rfl
  | cons r l ih=>
    have e : ∀ y,covS (r::l) y = (if covR y r = true then [ysp r] else []) ++ covS l y:=fun _=>rfl
    rw [e,e,h r (by simp),ih fun k hk=>h k (by simp [hk])]
theorem q9m {l : List qh} {x : Int} (h : ∀ r∈l,covR x r = false) : covS l x = []:=by
  induction l with
  | nil=>rfl
  | cons r l ih=>
    have e : covS (r::l) x = (if covR x r = true then [ysp r] else []) ++ covS l x:=rfl
    rw [e,h r (by simp),ih fun k hk=>h k (by simp [hk])];rfl
theorem q43 {x : Int} {r : qh} : covR x r = true↔r.X0≤x∧x < r.X1:=by simp [covR]
theorem qhk {p q : List qh} {r : qh} (h : r∈p∨r∈q) : r.X0∈xsOf p ++ xsOf q∧r.X1∈xsOf p ++ xsOf q:=by
  unfold xsOf
  simp only [List.mem_append,List.mem_flatMap]
  rcases h with h | h
  · exact ⟨.inl ⟨r,h,by simp⟩,.inl ⟨r,h,by simp⟩⟩
  · exact ⟨.inr ⟨r,h,by simp⟩,.inr ⟨r,h,by simp⟩⟩
theorem qhp (kind : Int) {p q : List qh} (h : p.length + q.length≤100000) :
    ∃ gs,mrgR kind p q = Kk putR gs∧CanG gs∧∀ x,secG gs x = secJ kind p q x:=by
  have l1:=q10 p
  have l2:=q10 q
  have hs:=(Jj (l:=xsOf p ++ xsOf q) (by simp;omega)).2.1
  obtain ⟨gs,e1,e2,e3⟩:=qhm putR (secJ kind p q) hs.1
  refine ⟨gs,e1,e2,fun x=>?_⟩
  rw [e3]
  have hm : ∀ r,(r∈p∨r∈q)→r.X0∈Qh (xsOf p ++ xsOf q)∧r.X1∈Qh (xsOf p ++ xsOf q):=fun r hr=>
    ⟨(hs.2 _).2 (qhk hr).1,(hs.2 _).2 (qhk hr).2⟩
  refine qai _ hs.1 (fun a _ hax hall=>?_) (fun hall=>?_) (fun hall=>?_)
  · have hc : ∀ r,(r∈p∨r∈q)→covR a r = covR x r:=fun r hr=>by
      have h1:=hall _ (hm r hr).1
      have h2:=hall _ (hm r hr).2
      rw [Bool.eq_iff_iff,q43,q43];omega
    unfold secJ
    rw [qfm fun r hr=>hc r (.inl hr),qfm fun r hr=>hc r (.inr hr)]
  · have hc : ∀ r,(r∈p∨r∈q)→covR x r = false:=fun r hr=>by
      have h1:=hall _ (hm r hr).1
      rw [← Bool.not_eq_true,q43];omega
    unfold secJ
    rw [q9m fun r hr=>hc r (.inl hr),q9m fun r hr=>hc r (.inr hr),qh4]
  · have hc : ∀ r,(r∈p∨r∈q)→covR x r = false:=fun r hr=>by
      have h1:=hall _ (hm r hr).2
      rw [← Bool.not_eq_true,q43];omega
    unfold secJ
    rw [q9m fun r hr=>hc r (.inl hr),q9m fun r hr=>hc r (.inr hr),qh4]
def CanR (l : List qh) : Prop:=∃ gs : List (Grp qi),l = Kk putR gs∧CanG gs∧∀ g∈gs,Can g.sec
theorem qlf : Can []:=⟨by simp,by simp⟩
theorem CanR.nil : CanR []:=⟨[],rfl,⟨by simp,by simp⟩,by simp⟩
theorem CanR.cov {l : List qh} (h : CanR l) (x : Int) : Can (covS l x):=by
  obtain ⟨gs,rfl,h1,h2⟩:=h
  rw [q6g h1]
  rcases qdv (x:=x) gs with e | ⟨g,hg,_,_,e⟩
  · rw [e];exact qlf
  · rw [e];exact h2 g hg
theorem qbs {a b : List qh} (ha : CanR a) (hb : CanR b) (h : ∀ x y,hasR a x y↔hasR b x y) : a = b:=by
  have hc : ∀ x,covS a x = covS b x:=fun x=>q6c (ha.cov x) (hb.cov x) fun y=>by rw [Jv,Jv];exact h x y
  obtain ⟨ga,rfl,h1,_⟩:=ha
  obtain ⟨gb,rfl,h2,_⟩:=hb
  rw [qbr h1 h2 fun x=>by rw [← q6g h1,← q6g h2];exact hc x]
theorem qja (kind : Int) {p q : List qh} (h : p.length + q.length≤100000) (x : Int) : qbf kind (covS p x) (covS q x) (secJ kind p q x):=by
  have h1:=q13 p x
  have h2:=q13 q x
  exact (q6s kind (covS p x) (covS q x) (by omega) (by omega)).2
theorem qcw (kind : Int) {p q : List qh} (h : p.length + q.length≤100000) : CanR (mrgR kind p q):=by
  obtain ⟨gs,e1,e2,e3⟩:=qhp kind h
  refine ⟨gs,e1,e2,fun g hg=>?_⟩
  have:=e3 g.lo
  rw [qdu e2 g hg _ (Int.le_refl _) (e2.1 g hg).1] at this
  rw [this];exact (qja kind h _).can
theorem qml (kind : Int) {p q : List qh} (h : p.length + q.length≤100000) (x : Int) : covS (mrgR kind p q) x = secJ kind p q x:=by
  obtain ⟨gs,e1,e2,e3⟩:=qhp kind h
  rw [e1,q6g e2,e3]
theorem q9u (kind : Int) {p q : List qh} (h : p.length + q.length≤100000) (x y : Int) : hasR (mrgR kind p q) x y↔Kr kind (hasR p x y) (hasR q x y):=by
  rw [← Jv,qml kind h,(qja kind h x).pts,Jv,Jv]
theorem qcd (x y : Int) : ¬ hasR [] x y:=by rintro ⟨r,h,_⟩;cases h
theorem qgy {a b : Prop} : Kr 2 a b↔a∨b:=by unfold Kr;simp
theorem qnr {l : List qh} (h : l.length≤100000) (x y : Int) : hasR (mrgR 2 l []) x y↔hasR l x y:=by
  rw [q9u 2 (by simpa using h),qgy];simp [qcd]
theorem qow {l : List qh} (hl : l.length≤100000) (h : CanR l) : mrgR 2 l [] = l:=
  qbs (qcw 2 (by simpa using hl)) h fun x y=>qnr hl x y
theorem qhi {σ β : Type} {put : Int→Int→σ→β} {gs : List (Grp σ)} {r : β} : r∈Kk put gs↔∃ g∈gs,∃ t∈g.sec,r = put g.lo g.hi t:=by
  unfold Kk
  simp only [List.mem_flatMap,List.mem_map]
  exact ⟨fun ⟨g,hg,t,ht,e⟩=>⟨g,hg,t,ht,e.symm⟩,fun ⟨g,hg,t,ht,e⟩=>⟨g,hg,t,ht,e.symm⟩⟩
theorem CanR.lt {l : List qh} (h : CanR l) : ∀ r∈l,r.X0 < r.X1∧r.Y0 < r.Y1:=by
  obtain ⟨gs,rfl,h1,h2⟩:=h
  intro r hr
  obtain ⟨g,hg,t,ht,rfl⟩:=qhi.1 hr
  exact ⟨(h1.1 g hg).1,(h2 g hg).1 t ht⟩
def InR (l : List qh) : Prop:=∀ x y,hasR l x y→(-1000000≤x∧x < 1000000)∧(-1000000≤y∧y < 1000000)
theorem CanR.vR {l : List qh} (h : CanR l) (hi : InR l) : ∀ r∈l,vR r:=by
  intro r hr
  have h1:=h.lt r hr
  have h2:=hi r.X0 r.Y0 ⟨r,hr,by omega⟩
  have h3:=hi (r.X1 - 1) (r.Y1 - 1) ⟨r,hr,by omega⟩
  unfold Go.Sh.vR;omega
theorem InR.mrg {kind : Int} {p q : List qh} (h : p.length + q.length≤100000) (hp : InR p) (hq : InR q) : InR (mrgR kind p q):=fun x y hh=>by
  rcases qcg ((q9u kind h x y).1 hh) with h1 | h1
  · exact hp x y h1
  · exact hq x y h1
theorem InR.nil : InR []:=fun x y h=>absurd h (qcd x y)
end Go.Sh
namespace Go.Sh
open Go Go.Am
def hasB (l : List qd) (x y z : Int) : Prop:=∃ b∈l,(b.Lo.X≤x∧x < b.Hi.X)∧(b.Lo.Y≤y∧y < b.Hi.Y)∧(b.Lo.Z≤z∧z < b.Hi.Z)
theorem q12 {z : Int} {b : qd} : covB z b = true↔b.Lo.Z≤z∧z < b.Hi.Z:=by simp [covB]
theorem qcs {l : List qd} {z : Int} {r : qh} : r∈atB l z↔∃ b∈l,(b.Lo.Z≤z∧z < b.Hi.Z)∧r = U0 b:=by
  unfold atB
  rw [List.mem_flatMap]
  constructor
  · rintro ⟨b,hb,h⟩
    split at h
    · rename_i hc;exact ⟨b,hb,q12.1 hc,by simpa using h⟩
    · cases h
  · rintro ⟨b,hb,hc,rfl⟩
    exact ⟨b,hb,by rw [if_pos (q12.2 hc)];simp⟩
theorem q2h {l : List qd} {x y z : Int} : hasR (atB l z) x y↔hasB l x y z:=by
  constructor
  · rintro ⟨r,hr,h1,h2,h3,h4⟩
    obtain ⟨b,hb,hz,rfl⟩:=qcs.1 hr
    exact ⟨b,hb,⟨h1,h2⟩,⟨h3,h4⟩,hz⟩
  · rintro ⟨b,hb,⟨h1,h2⟩,⟨h3,h4⟩,hz⟩
    exact ⟨U0 b,qcs.2 ⟨b,hb,hz,rfl⟩,h1,h2,h3,h4⟩
theorem qcc (x y z : Int) : ¬ hasB [] x y z:=by rintro ⟨r,h,_⟩;cases h
theorem ql2 (a b : List qd) (z : Int) : atB (a ++ b) z = atB a z ++ atB b z:=by simp [atB]
theorem ql3 (s : List qh) (lo hi z : Int) : atB (s.map (putB lo hi)) z = if lo≤z∧z < hi then s else []:=by
  induction s with
  | nil=>simp [atB]
  | cons t s ih=>
    have e : atB (List.map (putB lo hi) (t::s)) z = (if covB z (putB lo hi t) = true then [t] else []) ++ atB (s.map (putB lo hi)) z:=rfl
    rw [e,ih]
    have : covB z (putB lo hi t) = (decide (lo≤z) && decide (z < hi)):=rfl
    rw [this]
    by_cases h1 : lo≤z <;> by_cases h2 : z < hi <;> simp [h1,h2]
theorem q6a : ∀ {gs : List (Grp qh)},CanG gs→∀ z,atB (Kk putB gs) z = secG gs z
  | [],_,z=>rfl
  | g::r,h,z=>by
    have e : Kk putB (g::r) = g.sec.map (putB g.lo g.hi) ++ Kk putB r:=rfl
    rw [e,ql2,ql3,q6a h.tail z]
    by_cases hx : g.lo≤z∧z < g.hi
    · rw [if_pos hx,secG,if_pos hx,q1t (y:=g.hi) (fun m hm=>(h.nxt m hm).1) hx.2,List.append_nil]
    · rw [if_neg hx,secG,if_neg hx,List.nil_append]
theorem qeu {l : List qd} {a x : Int} (h : ∀ r∈l,covB a r = covB x r) : atB l a = atB l x:=by
  induction l with
  | nil=>rfl
  | cons r l ih=>
    have e : ∀ y,atB (r::l) y = (if covB y r = true then [U0 r] else []) ++ atB l y:=fun _=>rfl
    rw [e,e,h r (by simp),ih fun k hk=>h k (by simp [hk])]
theorem q9h {l : List qd} {x : Int} (h : ∀ r∈l,covB x r = false) : atB l x = []:=by
  induction l with
  | nil=>rfl
  | cons r l ih=>
    have e : atB (r::l) x = (if covB x r = true then [U0 r] else []) ++ atB l x:=rfl
    rw [e,h r (by simp),ih fun k hk=>h k (by simp [hk])];rfl
theorem qhl {p q : List qd} {r : qd} (h : r∈p∨r∈q) : r.Lo.Z∈zsOf p ++ zsOf q∧r.Hi.Z∈zsOf p ++ zsOf q:=by
  unfold zsOf
  simp only [List.mem_append,List.mem_flatMap]
  rcases h with h | h
  · exact ⟨.inl ⟨r,h,by simp⟩,.inl ⟨r,h,by simp⟩⟩
  · exact ⟨.inr ⟨r,h,by simp⟩,.inr ⟨r,h,by simp⟩⟩
theorem qcx (kind : Int) : mrgR kind [] [] = []:=by
  refine qbs (qcw kind (by simp)) .nil fun x y=>?_
  rw [q9u kind (by simp)]
  have:=qcd x y
  unfold Kr;simp [this]
theorem qho (kind : Int) {p q : List qd} (h : p.length + q.length≤100000) :
    ∃ gs,mrgB kind p q = Kk putB gs∧CanG gs∧∀ z,secG gs z = secB kind p q z:=by
  have l1:=Zn p
  have l2:=Zn q
  have hs:=(Jj (l:=zsOf p ++ zsOf q) (by simp;omega)).2.1
  obtain ⟨gs,e1,e2,e3⟩:=qhm putB (secB kind p q) hs.1
  refine ⟨gs,e1,e2,fun x=>?_⟩
  rw [e3]
  have hm : ∀ r,(r∈p∨r∈q)→r.Lo.Z∈Qh (zsOf p ++ zsOf q)∧r.Hi.Z∈Qh (zsOf p ++ zsOf q):=fun r hr=>
    ⟨(hs.2 _).2 (qhl hr).1,(hs.2 _).2 (qhl hr).2⟩
  refine qai _ hs.1 (fun a _ hax hall=>?_) (fun hall=>?_) (fun hall=>?_)
  · have hc : ∀ r,(r∈p∨r∈q)→covB a r = covB x r:=fun r hr=>by
      have h1:=hall _ (hm r hr).1
      have h2:=hall _ (hm r hr).2
      rw [Bool.eq_iff_iff,q12,q12];omega
    unfold secB
    rw [qeu fun r hr=>hc r (.inl hr),qeu fun r hr=>hc r (.inr hr)]
  · have hc : ∀ r,(r∈p∨r∈q)→covB x r = false:=fun r hr=>by
      have h1:=hall _ (hm r hr).1
      rw [← Bool.not_eq_true,q12];omega
    unfold secB
    rw [q9h fun r hr=>hc r (.inl hr),q9h fun r hr=>hc r (.inr hr),qcx]
  · have hc : ∀ r,(r∈p∨r∈q)→covB x r = false:=fun r hr=>by
      have h1:=hall _ (hm r hr).2
      rw [← Bool.not_eq_true,q12];omega
    unfold secB
    rw [q9h fun r hr=>hc r (.inl hr),q9h fun r hr=>hc r (.inr hr),qcx]
def CanB (l : List qd) : Prop:=∃ gs : List (Grp qh),l = Kk putB gs∧CanG gs∧∀ g∈gs,CanR g.sec
theorem CanB.nil : CanB []:=⟨[],rfl,⟨by simp,by simp⟩,by simp⟩
theorem CanB.at {l : List qd} (h : CanB l) (z : Int) : CanR (atB l z):=by
  obtain ⟨gs,rfl,h1,h2⟩:=h
  rw [q6a h1]
  rcases qdv (x:=z) gs with e | ⟨g,hg,_,_,e⟩
  · rw [e];exact .nil
  · rw [e];exact h2 g hg
theorem qle {a b : List qd} (ha : CanB a) (hb : CanB b) (h : ∀ x y z,hasB a x y z↔hasB b x y z) : a = b:=by
  have hc : ∀ z,atB a z = atB b z:=fun z=>qbs (ha.at z) (hb.at z) fun x y=>by rw [q2h,q2h];exact h x y z
  obtain ⟨ga,rfl,h1,_⟩:=ha
  obtain ⟨gb,rfl,h2,_⟩:=hb
  rw [qbr h1 h2 fun x=>by rw [← q6a h1,← q6a h2];exact hc x]
theorem qew {p q : List qd} (h : p.length + q.length≤100000) (z : Int) : (atB p z).length + (atB q z).length≤100000:=by
  have:=Zu p z;have:=Zu q z;omega
theorem qhn (kind : Int) {p q : List qd} (h : p.length + q.length≤100000) : CanB (mrgB kind p q):=by
  obtain ⟨gs,e1,e2,e3⟩:=qho kind h
  refine ⟨gs,e1,e2,fun g hg=>?_⟩
  have:=e3 g.lo
  rw [qdu e2 g hg _ (Int.le_refl _) (e2.1 g hg).1] at this
  rw [this];exact qcw kind (qew h _)
theorem qev (kind : Int) {p q : List qd} (h : p.length + q.length≤100000) (z : Int) : atB (mrgB kind p q) z = secB kind p q z:=by
  obtain ⟨gs,e1,e2,e3⟩:=qho kind h
  rw [e1,q6a e2,e3]
theorem qgv (kind : Int) {p q : List qd} (h : p.length + q.length≤100000) (x y z : Int) : hasB (mrgB kind p q) x y z↔Kr kind (hasB p x y z) (hasB q x y z):=by
  rw [← q2h,qev kind h,secB,q9u kind (qew h z),q2h,q2h]
theorem qnp {l : List qd} (h : l.length≤100000) (x y z : Int) : hasB (mrgB 2 l []) x y z↔hasB l x y z:=by
  rw [qgv 2 (by simpa using h),qgy];simp [qcc]
theorem qov {l : List qd} (hl : l.length≤100000) (h : CanB l) : mrgB 2 l [] = l:=
  qle (qhn 2 (by simpa using hl)) h fun x y z=>qnp hl x y z
theorem CanB.lt {l : List qd} (h : CanB l) : ∀ b∈l,b.Lo.X < b.Hi.X∧b.Lo.Y < b.Hi.Y∧b.Lo.Z < b.Hi.Z:=by
  obtain ⟨gs,rfl,h1,h2⟩:=h
  intro r hr
  obtain ⟨g,hg,t,ht,rfl⟩:=qhi.1 hr
  have:=(h2 g hg).lt t ht
  exact ⟨this.1,this.2,(h1.1 g hg).1⟩
def vB (b : qd) : Prop:=(b.Lo.X < b.Hi.X∧b.Lo.Y < b.Hi.Y∧b.Lo.Z < b.Hi.Z)∧(-1000000≤b.Lo.X∧-1000000≤b.Lo.Y∧-1000000≤b.Lo.Z)∧b.Hi.X≤1000000∧b.Hi.Y≤1000000∧b.Hi.Z≤1000000
instance (b : qd) : Decidable (vB b):=by unfold vB;infer_instance
def InB (l : List qd) : Prop:=∀ x y z,hasB l x y z→(-1000000≤x∧x < 1000000)∧(-1000000≤y∧y < 1000000)∧(-1000000≤z∧z < 1000000)
theorem CanB.vB {l : List qd} (h : CanB l) (hi : InB l) : ∀ r∈l,vB r:=by
  intro r hr
  have h1:=h.lt r hr
  have h2:=hi r.Lo.X r.Lo.Y r.Lo.Z ⟨r,hr,by omega⟩
  have h3:=hi (r.Hi.X - 1) (r.Hi.Y - 1) (r.Hi.Z - 1) ⟨r,hr,by omega⟩
  unfold Go.Sh.vB;omega
theorem InB.mrg {kind : Int} {p q : List qd} (h : p.length + q.length≤100000) (hp : InB p) (hq : InB q) : InB (mrgB kind p q):=fun x y z hh=>by
  rcases qcg ((qgv kind h x y z).1 hh) with h1 | h1
  · exact hp x y z h1
  · exact hq x y z h1
theorem InB.nil : InB []:=fun x y z h=>absurd h (qcc x y z)
theorem qy5 {l : List qd} (h : ∀ b∈l,vB b) (z : Int) : ∀ r∈atB l z,vR r:=by
  intro r hr
  obtain ⟨b,hb,_,rfl⟩:=qcs.1 hr
  have:=h b hb
  unfold vB at this;unfold vR U0;simp only;omega
theorem InB.at {l : List qd} (h : InB l) (z : Int) : InR (atB l z):=fun x y hh=>by
  have:=h x y z (q2h.1 hh);exact ⟨this.1,this.2.1⟩
noncomputable def K2 (l : List qd) : Int:=if 400 < l.length then 4 else if ∀ b∈l,vB b then (if mrgB 2 l [] = l then 0 else 8) else 8
theorem Jh {l : List qd} : K2 l = 0↔l.length≤400∧(∀ b∈l,vB b)∧CanB l:=by
  unfold K2
  constructor
  · intro h
    split at h
    · exact absurd h (by decide)
    · rename_i h1
      split at h
      · rename_i h2
        split at h
        · rename_i h3
          exact ⟨by omega,h2,h3 ▸ qhn 2 (by simp;omega)⟩
        · exact absurd h (by decide)
      · exact absurd h (by decide)
  · rintro ⟨h1,h2,h3⟩
    rw [if_neg (by omega),if_pos h2,if_pos (qov (by omega) h3)]
theorem qj9 (kind : Int) {p q : List qd} (h : p.length + q.length≤100000) (z : Int) : (secB kind p q z).length≤(mrgB kind p q).length:=by
  rw [← qev kind h];exact Zu _ _
noncomputable def mkB (l : List qd) : List qd × Int:=if 400 < l.length then ([],4) else if ∀ b∈l,vB b then (if 400 < (mrgB 2 l []).length then ([],4) else (mrgB 2 l [],0)) else ([],8)
noncomputable def mkR (l : List qh) : List qh × Int:=if 400 < l.length then ([],4) else if ∀ b∈l,vR b then (if 400 < (mrgR 2 l []).length then ([],4) else (mrgR 2 l [],0)) else ([],8)
end Go.Sh
namespace Go.Sh
open Go Go.Am
theorem qcm {α β : Type} {f : α→Option (α ⊕ β)} (st : Nat→α) (n : Nat) (ok : Nat→Prop) (b e : β)
    (step : ∀ k,k < n→(∀ j,j≤k→ok j)→f (st k) = some (.inl (st (k + 1))))
    (bad : ∀ k,k < n→(∀ j,j < k→ok j)→¬ ok k→f (st k) = some (.inr e))
    (done : (∀ j,j < n→ok j)→f (st n) = some (.inr b)) :
    ((∀ j,j < n→ok j)∧loop f (st 0) = some b)∨(∃ j,j < n∧¬ ok j∧loop f (st 0) = some e):=by
  by_cases h : ∀ j,j < n→ok j
  · exact .inl ⟨h,Yu st n b (fun k hk=>step k hk fun j hj=>h j (by omega)) (done h) (Nat.zero_le _)⟩
  · refine .inr ?_
    have h2 : ∃ k,(k < n∧¬ ok k)∧∀ j,j < k→ok j:=by
      have : ∃ k,k < n∧¬ ok k:=by
        refine Classical.byContradiction fun hn=>h fun k hk=>?_
        exact Classical.byContradiction fun h=>hn ⟨k,hk,h⟩
      obtain ⟨k,hk⟩:=this
      induction k using Nat.strongRecOn with
      | _ k ih=>
        by_cases hj : ∃ j,j < k∧(j < n∧¬ ok j)
        · obtain ⟨j,h1,h2⟩:=hj;exact ih j h1 h2
        · exact ⟨k,hk,fun j h1=>Classical.byContradiction fun h=>hj ⟨j,h1,by omega,h⟩⟩
    obtain ⟨K,⟨hK,hb⟩,hmin⟩:=h2
    exact ⟨K,hK,hb,Yu st K e (fun k hk=>step k (by omega) fun j hj=>hmin j (by omega)) (bad K hK hmin hb) (Nat.zero_le _)⟩
theorem qx2 (xs : List Int) (h : xs.length≤1000000) :
    ((U2 xs).bind fun e127=>(Qj e127.length xs.length).bind fun u129=>(q1v e127).bind fun e132=>(Qj e132.2.length e127.length).bind fun u134=>(q24 e132.2.length e132.1).bind fun u137=>some ((e132.2.drop e132.1.1).take e132.1.2)) = some (Qh xs):=by
  obtain ⟨ys,s1,s2,s3⟩:=qjw xs h
  have hys : ys.length = xs.length:=s2.length_eq
  obtain ⟨w,a,c1,c2,c3,c4⟩:=qfi s3 (by omega)
  obtain ⟨_,d2,_⟩:=Jj h
  have huniq : a.take w = Qh xs:=by
    refine qjx (l:=xs) ⟨c4.1,fun x=>?_⟩ d2
    rw [c4.2 x];exact s2.mem_iff
  simp only [Option.bind_some,s1,Qj,hys,if_true,c1,c2,q24]
  rw [if_pos (by omega)]
  simp only [Option.bind_some,List.drop_zero,huniq]
theorem qrt (l : List qh) (hl : l.length≤1000000) : q7p l (fun x0=>q1o x0) = some (decide (¬ ∀ r∈l,vR r)):=by
  have hs : ∀ (k : Nat) (h : k < l.length),q39 l (fun x0=>q1o x0) (k : Int) = some (if (fun r=>!decide (vR r)) l[k] = true then .inr (.inr (k : Int)) else .inl ((k + 1 : Nat) : Int)):=by
    intro k h
    simp only [q39,dlt h,cond_true,Qf h,Option.bind_some,w64s h hl,q1o,qy6]
    by_cases hv : vR l[k] <;> simp [hv]
  have hd : q39 l (fun x0=>q1o x0) (l.length : Int) = some (.inr (.inl ())):=by simp only [q39,dnl,cond_false]
  unfold q7p qan
  rcases q45 l (fun r=>!decide (vR r)) (fun k _=>(k : Int)) () _ hs hd with ⟨h1,h2⟩ | ⟨k,hk,hc,_,h2⟩
  · rw [h2]
    have : ∀ r∈l,vR r:=fun r hr=>by simpa using h1 r hr
    simp []
    omega
  · rw [h2]
    have : ¬ ∀ r∈l,vR r:=fun h=>by simp [h _ (List.getElem_mem hk)] at hc
    simp only [Option.bind_some]
    rw [decide_eq_true this,decide_eq_true (by omega)]
theorem qrq (l : List qh) : q4y l = some (mkR l):=by
  unfold q4y mkR
  by_cases h4 : 400 < l.length
  · rw [decide_eq_true (by omega : (l.length : Int) > 400),cond_true,if_pos h4]
  rw [decide_eq_false (by omega : ¬ (l.length : Int) > 400),cond_false,if_neg h4,qrt l (by omega),Option.bind_some]
  by_cases hv : ∀ r∈l,vR r
  · rw [decide_eq_false (fun h=>h hv),cond_false,qoo l (by omega) hv,if_pos hv];rfl
  · rw [decide_eq_true hv,cond_true,if_neg hv]
end Go.Sh
namespace Go.Sh
open Go Go.Am
theorem qx0 (v : ql) : q63 v = some (decide ((-1000000≤v.X∧-1000000≤v.Y∧-1000000≤v.Z)∧v.X≤1000000∧v.Y≤1000000∧v.Z≤1000000)):=by
  unfold q63
  by_cases h1 : min (min v.X v.Y) v.Z ≥ -1000000
  · by_cases h2 : max (max v.X v.Y) v.Z≤1000000
    · rw [decide_eq_true h1,decide_eq_true h2,cond_true,Option.bind_some];congr 1;exact (decide_eq_true (by omega)).symm
    · rw [decide_eq_true h1,decide_eq_false h2,cond_true,Option.bind_some];congr 1;exact (decide_eq_false (by omega)).symm
  · rw [decide_eq_false h1,cond_false,Option.bind_some];congr 1;exact (decide_eq_false (by omega)).symm
theorem qjs (b : qd) : q64 b = some (decide (vB b)):=by
  unfold q64 vB
  simp only [qx0,Option.bind_some]
  by_cases h1 : b.Lo.X < b.Hi.X
  · by_cases h2 : b.Lo.Y < b.Hi.Y
    · by_cases h3 : b.Lo.Z < b.Hi.Z
      · simp only [h1,h2,h3,decide_true,cond_true,Option.bind_some,true_and]
        by_cases h4 : (-1000000≤b.Lo.X∧-1000000≤b.Lo.Y∧-1000000≤b.Lo.Z)∧b.Lo.X≤1000000∧b.Lo.Y≤1000000∧b.Lo.Z≤1000000
        · rw [decide_eq_true h4]
          simp only [cond_true,Option.bind_some]
          congr 1
          exact decide_eq_decide.2 (by omega)
        · rw [decide_eq_false h4]
          simp only [cond_false,Option.bind_some]
          congr 1
          exact (decide_eq_false (by omega)).symm
      · simp [h1,h2,h3]
    · simp [h1,h2]
  · simp [h1]
theorem qr3 (v : ql) (n : Int) : Uo v n = some (decide ((n≤v.X∧n≤v.Y∧n≤v.Z)∧v.X≤1000000∧v.Y≤1000000∧v.Z≤1000000)):=by
  unfold Uo
  by_cases h1 : v.X ≥ n <;> by_cases h2 : v.Y ≥ n <;> by_cases h3 : v.Z ≥ n <;> by_cases h4 : v.X≤1000000 <;> by_cases h5 : v.Y≤1000000 <;> by_cases h6 : v.Z≤1000000 <;>
    simp [h1,h2,h3,h4,h5,h6] <;> omega
theorem qaf (b : qd) : q34 b = some (decide (vB b)):=by
  unfold q34 vB
  simp only [qr3,Option.bind_some]
  by_cases h4 : (-1000000≤b.Lo.X∧-1000000≤b.Lo.Y∧-1000000≤b.Lo.Z)∧b.Lo.X≤1000000∧b.Lo.Y≤1000000∧b.Lo.Z≤1000000
  · rw [decide_eq_true h4]
    simp only [cond_true,Option.bind_some]
    by_cases h5 : (-1000000≤b.Hi.X∧-1000000≤b.Hi.Y∧-1000000≤b.Hi.Z)∧b.Hi.X≤1000000∧b.Hi.Y≤1000000∧b.Hi.Z≤1000000
    · rw [decide_eq_true h5]
      by_cases h1 : b.Lo.X < b.Hi.X <;> by_cases h2 : b.Lo.Y < b.Hi.Y <;> by_cases h3 : b.Lo.Z < b.Hi.Z <;> simp [h1,h2,h3] <;> omega
    · rw [decide_eq_false h5]
      simp only [cond_false,Option.bind_some]
      congr 1
      exact (decide_eq_false (by omega)).symm
  · rw [decide_eq_false h4]
    simp only [cond_false,Option.bind_some]
    congr 1
    exact (decide_eq_false (by omega)).symm
theorem qwz (l : List qd) (hl : l.length≤1000000) : q7o l (fun x0=>q21 x0) = some (decide (¬ ∀ r∈l,vB r)):=by
  have hs : ∀ (k : Nat) (h : k < l.length),q38 l (fun x0=>q21 x0) (k : Int) = some (if (fun r=>!decide (vB r)) l[k] = true then .inr (.inr (k : Int)) else .inl ((k + 1 : Nat) : Int)):=by
    intro k h
    simp only [q38,dlt h,cond_true,Qf h,Option.bind_some,w64s h hl,q21,qjs]
    by_cases hv : vB l[k] <;> simp [hv]
  have hd : q38 l (fun x0=>q21 x0) (l.length : Int) = some (.inr (.inl ())):=by simp only [q38,dnl,cond_false]
  unfold q7o qam
  rcases q45 l (fun r=>!decide (vB r)) (fun k _=>(k : Int)) () _ hs hd with ⟨h1,h2⟩ | ⟨k,hk,hc,_,h2⟩
  · rw [h2]
    have : ∀ r∈l,vB r:=fun r hr=>by simpa using h1 r hr
    simp []
    omega
  · rw [h2]
    have : ¬ ∀ r∈l,vB r:=fun h=>by simp [h _ (List.getElem_mem hk)] at hc
    simp only [Option.bind_some]
    rw [decide_eq_true this,decide_eq_true (by omega)]
theorem qwy (l : List qd) (hl : l.length≤1000000) : q7q l (fun x0=>q20 x0) = some (decide (¬ ∀ r∈l,vB r)):=by
  have hs : ∀ (k : Nat) (h : k < l.length),q3a l (fun x0=>q20 x0) (k : Int) = some (if (fun r=>!decide (vB r)) l[k] = true then .inr (.inr (k : Int)) else .inl ((k + 1 : Nat) : Int)):=by
    intro k h
    simp only [q3a,dlt h,cond_true,Qf h,Option.bind_some,w64s h hl,q20,qjs]
    by_cases hv : vB l[k] <;> simp [hv]
  have hd : q3a l (fun x0=>q20 x0) (l.length : Int) = some (.inr (.inl ())):=by simp only [q3a,dnl,cond_false]
  unfold q7q qao
  rcases q45 l (fun r=>!decide (vB r)) (fun k _=>(k : Int)) () _ hs hd with ⟨h1,h2⟩ | ⟨k,hk,hc,_,h2⟩
  · rw [h2]
    have : ∀ r∈l,vB r:=fun r hr=>by simpa using h1 r hr
    simp []
    omega
  · rw [h2]
    have : ¬ ∀ r∈l,vB r:=fun h=>by simp [h _ (List.getElem_mem hk)] at hc
    simp only [Option.bind_some]
    rw [decide_eq_true this,decide_eq_true (by omega)]
theorem qwu (s : Mg qh qd) (a b : Int) (c : List qh) (hl : (s.flat putB).length + c.length≤1000000) :
    q8r (s.flat putB) s.sec (s.done.length : Int) s.hi a b c = some ((addM putB s a b c).sec,((addM putB s a b c).done.length : Int),(addM putB s a b c).hi,(addM putB s a b c).flat putB):=by
  have hfl : (s.flat putB).length = s.done.length + s.sec.length:=by simp [Mg.flat]
  have hsec : s.sec.length≤1000000:=by omega
  unfold q8r
  rcases U7 putB s a b c with ⟨h1,h2,h3,h4⟩ | ⟨h1,h4⟩
  · have hb : decide ((c.length : Int) > 0) = true:=decide_eq_true (by have:=List.length_pos_iff.2 h1;omega)
    have he : (s.hi == a) = true:=by simpa using h3
    rw [h2] at hb
    rw [h4,h2]
    simp only [hb,cond_true,he,Option.bind_some,qfw _ _ hsec,decide_true]
    have:=q9q (fun v : qd=>({Lo:=v.Lo,Hi:=({X:=v.Hi.X,Y:=v.Hi.Y,Z:=b} : ql)} : qd)) s.done (s.sec.map (putB s.lo s.hi)) (by simp;omega) (q61 b) (fun k o hk ho=>by
      have h5 : (s.done ++ s.sec.map (putB s.lo s.hi)).length = (s.flat putB).length:=rfl
      simp only [q61,dlt hk,cond_true,Qf hk,Option.bind_some,w64s hk (by omega),Int.toNat_natCast]) (fun o=>by simp only [q61,dnl,cond_false])
    rw [show s.flat putB = s.done ++ s.sec.map (putB s.lo s.hi) from rfl,this]
    simp only [Option.bind_some,Mg.flat,List.map_map]
    rfl
  · rw [h4]
    have hc : ((cond (decide ((c.length : Int) > 0)) (some (s.hi == a)) (some false)).bind fun c101=>(cond c101 ((q7s s.sec c).bind fun r121=>some r121) (some false))) = some false:=by
      by_cases h5 : c = []
      · subst h5;simp
      · have hb : decide ((c.length : Int) > 0) = true:=decide_eq_true (by have:=List.length_pos_iff.2 h5;omega)
        simp only [hb,cond_true,Option.bind_some,qfw _ _ hsec]
        by_cases h6 : s.hi = a
        · have h7 : s.sec≠c:=fun h=>h1 ⟨h5,h.symm,h6⟩
          simp [h6,h7]
        · have : (s.hi == a) = false:=by simpa using h6
          simp [this]
    have hap:=q6t c (putB a b) (s.flat putB) (fun o=>(c,((s.flat putB).length : Int),b,o)) (q62 c a b (s.flat putB)) (fun k hk o ho=>by
      simp only [q62,dlt hk,cond_true,Qf hk,Option.bind_some,w64s hk (by omega)]
      rw [Ke (by simp;omega)]
      rfl) (fun o=>by simp only [q62,dnl,cond_false])
    rw [← Option.bind_assoc,hc]
    simp only [Option.bind_some,cond_false,hap]
    simp [Mg.flat]
theorem qyo (l : List qd) (o : List Int) (hl : l.length≤400) (ho : o.length≤10000) : loop (q3n l) (0,o) = some (o ++ zsOf l):=
  J4 l (by omega) (fun r=>[r.Lo.Z,r.Hi.Z]) o (fun o=>o) (q3n l) (fun k hk o' ho'=>by
    have h8 : o'.length = o.length + 2 * k:=by
      rw [ho',List.length_append];have:=Zn (l.take k);rw [List.length_take,Nat.min_eq_left (by omega)] at this
      unfold zsOf at this;omega
    simp only [q3n,dlt hk,cond_true,Qf hk,Option.bind_some,w64s hk (by omega)]
    rw [Ke (by simp;omega)]
    rfl) (fun o=>by simp only [q3n,dnl,cond_false])
theorem qbm (l : List qd) (hl : l.length≤400) (x : Int) : loop (q22 l x) (0,[]) = some (atB l x):=by
  have:=J4 l (by omega) (fun r=>if covB x r = true then [U0 r] else []) [] (fun o=>o) (q22 l x) (fun k hk o ho=>by
    have h8 : o.length≤k:=by rw [ho,List.nil_append];have:=Zu (l.take k) x;rw [List.length_take,Nat.min_eq_left (by omega)] at this;exact this
    simp only [q22,dlt hk,cond_true,Qf hk,Option.bind_some,w64s hk (by omega)]
    by_cases h1 : l[k].Lo.Z≤x
    · by_cases h2 : x < l[k].Hi.Z
      · simp only [h1,h2,decide_true,cond_true,Option.bind_some,covB,Bool.and_self,if_true]
        rw [Ke (by simp;omega)]
        rfl
      · simp only [h1,h2,decide_true,decide_false,cond_true,cond_false,Option.bind_some,covB,Bool.and_false,if_false,Bool.false_eq_true,List.append_nil]
    · simp only [h1,decide_false,cond_false,Option.bind_some,covB,Bool.false_and,if_false,Bool.false_eq_true,List.append_nil]) (fun o=>by simp only [q22,dnl,cond_false])
  rw [List.nil_append] at this
  exact this
theorem qti {kind : Int} {p q : List qd} {xs : List Int} (hxs : Qh (zsOf p ++ zsOf q) = xs) (h : p.length + q.length≤800) (F : Int × List qh × Int × Int × List qd→Option ((Int × List qh × Int × Int × List qd) ⊕ ((List qh × Int × Int × List qd) ⊕ (List qd × Int))))
    (hgo : ∀ (a b : Int) (k : Nat) (s : Mg qh qd),(s.flat putB).length + 400≤1000000→(h1 : k + 1 < xs.length)→a = xs[k]'(by omega)→b = xs[k + 1]'h1→(secB kind p q a).length≤400→
      F (((k + 1 : Nat) : Int),s.sec,(s.done.length : Int),s.hi,s.flat putB) = some (.inl (((k + 1 + 1 : Nat) : Int),(addM putB s a b (secB kind p q a)).sec,((addM putB s a b (secB kind p q a)).done.length : Int),(addM putB s a b (secB kind p q a)).hi,(addM putB s a b (secB kind p q a)).flat putB)))
    (hbad : ∀ (a : Int) (k : Nat) (s : Mg qh qd),(h1 : k + 1 < xs.length)→a = xs[k]'(by omega)→400 < (secB kind p q a).length→
      F (((k + 1 : Nat) : Int),s.sec,(s.done.length : Int),s.hi,s.flat putB) = some (.inr (.inr ([],4))))
    (hend : ∀ (k : Nat) (s : Mg qh qd),xs.length≤k + 1→F (((k + 1 : Nat) : Int),s.sec,(s.done.length : Int),s.hi,s.flat putB) = some (.inr (.inl (s.sec,(s.done.length : Int),s.hi,s.flat putB)))) :
    (∃ a b c,loop F (1,[],0,0,[]) = some (.inl (a,b,c,mrgB kind p q)))∨(400 < (mrgB kind p q).length∧loop F (1,[],0,0,[]) = some (.inr ([],4))):=by
  have hx1:=Zn p
  have hx2:=Zn q
  obtain ⟨_,hso,hlen⟩:=Jj (l:=zsOf p ++ zsOf q) (by simp;omega)
  have hlen : (Qh (zsOf p ++ zsOf q)).length≤1600:=by simp at hlen;omega
  have hle : ∀ x,(secB kind p q x).length≤(mrgB kind p q).length:=fun x=>qj9 kind (by omega) x
  have hmr : mrgB kind p q = (Qn putB Qm (Y5 (Qh (zsOf p ++ zsOf q)) (secB kind p q))).flat putB:=rfl
  rw [hmr] at hle ⊢
  rw [hxs] at hso hlen hle ⊢
  generalize hst : Y5 xs (secB kind p q) = steps at hle ⊢
  have hsl : steps.length = xs.length - 1:=by rw [← hst];exact q90 _ _
  have hgk : ∀ k (hk : k < steps.length),steps[k] = (xs[k]'(by omega),xs[k + 1]'(by omega),secB kind p q (xs[k]'(by omega))):=fun k hk=>by subst hst;exact q8z hk (by omega)
  have hml : ∀ k,k≤steps.length→(∀ j,j < k→∀ t,steps[j]? = some t→t.2.2.length≤400)→((Qn putB Qm (steps.take k)).flat putB).length≤1600 * 400:=fun k hk hj=>by
    have h1:=qc6 putB (s0:=Qm) (M:=400) (steps:=steps.take k) (fun t ht=>by
      obtain ⟨i,hi,rfl⟩:=List.getElem_of_mem ht
      rw [List.length_take] at hi
      rw [List.getElem_take]
      exact hj i (by omega) _ (List.getElem?_eq_getElem (by omega)))
    have h2 : (steps.take k).length≤1600:=by rw [List.length_take];omega
    have h3 : (Qm.flat putB : List qd).length = 0:=rfl
    have h4 : (steps.take k).length * 400≤1600 * 400:=Nat.mul_le_mul_right _ h2
    omega
  have main:=qcm (f:=F) (fun k=>(((k + 1 : Nat) : Int),(Qn putB Qm (steps.take k)).sec,((Qn putB Qm (steps.take k)).done.length : Int),(Qn putB Qm (steps.take k)).hi,(Qn putB Qm (steps.take k)).flat putB))
    steps.length (fun j=>∀ t,steps[j]? = some t→t.2.2.length≤400) (.inl ((Qn putB Qm steps).sec,((Qn putB Qm steps).done.length : Int),(Qn putB Qm steps).hi,(Qn putB Qm steps).flat putB)) (.inr ([],4))
    (fun k hk hj=>by
      have hk1 : k + 1 < xs.length:=by omega
      have hc:=hj k (Nat.le_refl _) _ (List.getElem?_eq_getElem hk)
      have hm:=hml k (by omega) fun j hjk=>hj j (by omega)
      rw [q46 putB hk,hgk k hk] at *
      simp only at hc
      exact hgo _ _ k (Qn putB Qm (steps.take k)) (by omega) hk1 rfl rfl hc)
    (fun k hk hj hb=>by
      have hk1 : k + 1 < xs.length:=by omega
      have hk0 : k < xs.length:=by omega
      refine hbad _ k (Qn putB Qm (steps.take k)) hk1 rfl ?_
      refine Nat.lt_of_not_le fun h=>hb fun t ht=>?_
      rw [List.getElem?_eq_getElem hk,hgk k hk] at ht
      cases ht;exact h)
    (fun _=>by
      rw [List.take_length]
      exact hend steps.length _ (by omega))
  have h00 : ((((0 + 1 : Nat) : Int),(Qn putB Qm (steps.take 0)).sec,((Qn putB Qm (steps.take 0)).done.length : Int),(Qn putB Qm (steps.take 0)).hi,(Qn putB Qm (steps.take 0)).flat putB) : Int × List qh × Int × Int × List qd) = (1,[],0,0,[]):=rfl
  rw [h00] at main
  rcases main with ⟨_,h2⟩ | ⟨j,hj,hb,h2⟩
  · exact .inl ⟨_,_,_,h2⟩
  · refine .inr ⟨?_,h2⟩
    have hj0 : j < xs.length:=by omega
    have h5 : 400 < (secB kind p q xs[j]).length:=by
      refine Nat.lt_of_not_le fun h=>hb fun t ht=>?_
      rw [List.getElem?_eq_getElem hj,hgk j hj] at ht
      cases ht;exact h
    exact Nat.lt_of_lt_of_le h5 (hle xs[j])
theorem qj2 (l : List qd) (hl : l.length≤400) (hv : ∀ b∈l,vB b) : q65 l = some (if 400 < (mrgB 2 l []).length then ([],4) else (mrgB 2 l [],0)):=by
  unfold q65
  have hx1:=Zn l
  simp only [show idx [l] 0 = some l from rfl,Option.bind_some,qyo l [] hl (by simp),List.nil_append]
  rw [qx2 _ (by omega)]
  simp only [Option.bind_some]
  have hz : zsOf l = zsOf l ++ zsOf []:=by simp [zsOf]
  obtain ⟨_,hso,hlen⟩:=Jj (l:=zsOf l ++ zsOf []) (by rw [← hz];omega)
  have hlen : (Qh (zsOf l ++ zsOf [])).length≤800:=by rw [← hz] at hlen ⊢;omega
  have hmk : ∀ z,q4y (atB l z) = some (if 400 < (secB 2 l [] z).length then ([],4) else (secB 2 l [] z,0)):=fun z=>by
    have:=Zu l z
    rw [qrq,mkR,if_neg (by omega),if_pos (qy5 hv z)];rfl
  rw [hz]
  have:=qti (kind:=2) (p:=l) (q:=[]) rfl (by simp;omega) (q3o (Qh (zsOf l ++ zsOf [])) l)
    (fun a b k s hs h1 ha hb hc=>by
      have h0 : k < (Qh (zsOf l ++ zsOf [])).length:=by omega
      have i1 : idx (Qh (zsOf l ++ zsOf [])) (w64 (((k + 1 : Nat) : Int) - 1)) = some a:=by rw [qu (by omega),ha];exact Ul (by omega) (by omega)
      have i2 : idx (Qh (zsOf l ++ zsOf [])) ((k + 1 : Nat) : Int) = some b:=by rw [hb];exact Qf h1
      have hm:=hmk a
      rw [if_neg (by omega)] at hm
      simp only [q3o,dlt h1,cond_true,i1,i2,Option.bind_some,show idx [l] 0 = some l from rfl,qbm l hl,hm,show ((0 : Int) != 0) = false from rfl,cond_false,qwu s a b (secB 2 l [] a) (by omega)]
      rw [w64s h1 (by omega)])
    (fun a k s h1 ha hc=>by
      have i1 : idx (Qh (zsOf l ++ zsOf [])) (w64 (((k + 1 : Nat) : Int) - 1)) = some a:=by rw [qu (by omega),ha];exact Ul (by omega) (by omega)
      have hm:=hmk a
      rw [if_pos hc] at hm
      simp only [q3o,dlt h1,cond_true,i1,Qf h1,Option.bind_some,show idx [l] 0 = some l from rfl,qbm l hl,hm,show ((4 : Int) != 0) = true from rfl])
    (fun k s h1=>by
      have : decide (((k + 1 : Nat) : Int) < ((Qh (zsOf l ++ zsOf [])).length : Int)) = false:=decide_eq_false (by omega)
      simp only [q3o,this,cond_false])
  rcases this with ⟨a,b,c,h2⟩ | ⟨h4,h2⟩
  · rw [h2]
    simp only [Option.bind_some]
    by_cases h4 : 400 < (mrgB 2 l []).length
    · rw [decide_eq_true (by omega : ((mrgB 2 l []).length : Int) > 400),if_pos h4];rfl
    · rw [decide_eq_false (by omega : ¬ ((mrgB 2 l []).length : Int) > 400),if_neg h4];rfl
  · rw [h2,if_pos h4];rfl
theorem qwm (l : List qd) : q8n l = some (mkB l):=by
  unfold q8n mkB
  by_cases h4 : 400 < l.length
  · rw [decide_eq_true (by omega : (l.length : Int) > 400),cond_true,if_pos h4]
  rw [decide_eq_false (by omega : ¬ (l.length : Int) > 400),cond_false,if_neg h4,qwz l (by omega),Option.bind_some]
  by_cases hv : ∀ r∈l,vB r
  · rw [decide_eq_false (fun h=>h hv),cond_false,qj2 l (by omega) hv,if_pos hv];rfl
  · rw [decide_eq_true hv,cond_true,if_neg hv]
theorem qmu (p q : List qd) (hl : p.length≤1000000) : qak p q = some (decide (p = q)):=sameBox p q hl
theorem qar (l : List qd) : q1z l = some (K2 l):=by
  unfold q1z K2
  by_cases h4 : 400 < l.length
  · rw [decide_eq_true (by omega : (l.length : Int) > 400),cond_true,if_pos h4]
  rw [decide_eq_false (by omega : ¬ (l.length : Int) > 400),cond_false,if_neg h4,qwy l (by omega),Option.bind_some]
  by_cases hv : ∀ r∈l,vB r
  · rw [decide_eq_false (fun h=>h hv),cond_false,qj2 l (by omega) hv,if_pos hv,Option.bind_some]
    by_cases hm : 400 < (mrgB 2 l []).length
    · have hne : mrgB 2 l []≠l:=fun h=>by rw [h] at hm;exact h4 hm
      rw [if_pos hm,if_neg hne];rfl
    · rw [if_neg hm]
      simp only [qmu (mrgB 2 l []) l (by omega)]
      by_cases he : mrgB 2 l [] = l <;> simp [he]
  · rw [decide_eq_true hv,cond_true,if_neg hv]
end Go.Sh
namespace Go.Sh
open Go Go.Am
def q3x (kind : Int) (p q : List qd) (z : Int) : Prop:=400 < (secB kind p q z).length∨400 < (secB 2 p [] z).length∨400 < (secB 2 q [] z).length
theorem qo8 (kind : Int) {p q : List qd} (h : p.length + q.length≤400) {xs : List Int} (hx : xs.length≤1000000) {i : Nat} (hi : i + 1 < xs.length) (hb : q3x kind p q (xs[i]'(by omega))) (a : Int) (c : List qh) (o : List qd) :
    Up xs p q kind (c,a,(i : Int),o) = some (.inr (.inr ([],false))):=by
  have hi0 : i < xs.length:=by omega
  have hw : w64 ((i : Int) + 1) = ((i + 1 : Nat) : Int):=w64s hi0 hx
  have n1:=Zu p xs[i]
  have n2:=Zu q xs[i]
  have ap : Zi p xs[i] = some (atB p xs[i]):=q76 p (by omega) _
  have aq : Zi q xs[i] = some (atB q xs[i]):=q76 q (by omega) _
  have jj : Z7 kind (atB p xs[i]) (atB q xs[i]) = some (secB kind p q xs[i]):=q2r kind (by omega)
  have jp : Z7 2 (atB p xs[i]) [] = some (secB 2 p [] xs[i]):=q2r 2 (by simp;omega)
  have jq : Z7 2 (atB q xs[i]) [] = some (secB 2 q [] xs[i]):=q2r 2 (by simp;omega)
  unfold Up
  simp only [hw,dlt hi,cond_true,Qf hi0,ap,aq,jj,jp,jq,Option.bind_some]
  by_cases h1 : 400 < (secB kind p q xs[i]).length
  · have d1 : decide (((secB kind p q xs[i]).length : Int) > 400) = true:=decide_eq_true (by omega)
    simp only [d1,cond_true,Option.bind_some]
  have d1 : decide (((secB kind p q xs[i]).length : Int) > 400) = false:=decide_eq_false (by omega)
  by_cases h2 : 400 < (secB 2 p [] xs[i]).length
  · have d2 : decide (((secB 2 p [] xs[i]).length : Int) > 400) = true:=decide_eq_true (by omega)
    simp only [d1,d2,cond_true,cond_false,Option.bind_some]
  have d2 : decide (((secB 2 p [] xs[i]).length : Int) > 400) = false:=decide_eq_false (by omega)
  have h3 : 400 < (secB 2 q [] xs[i]).length:=by rcases hb with h | h | h <;> first | exact absurd h h1 | exact absurd h h2 | exact h
  have d3 : decide (((secB 2 q [] xs[i]).length : Int) > 400) = true:=decide_eq_true (by omega)
  simp only [d1,d2,d3,cond_true,cond_false,Option.bind_some]
theorem qrd (kind : Int) {p q : List qd} (h : p.length + q.length≤400) :
    q1m kind p q = some (mrgB kind p q,decide (((mrgB kind p q).length : Int)≤400))∨(q1m kind p q = some ([],false)∧∃ z,q3x kind p q z):=by
  unfold q1m
  rw [qr7 (by omega)]
  simp only [Option.bind_some]
  have hx1:=Zn p
  have hx2:=Zn q
  obtain ⟨_,hso,hlen⟩:=Jj (l:=zsOf p ++ zsOf q) (by simp;omega)
  have hcl : (Qh (zsOf p ++ zsOf q)).length≤800:=by simp at hlen;omega
  unfold mrgB
  generalize Qh (zsOf p ++ zsOf q) = xs at hcl ⊢
  generalize hst : Y5 xs (secB kind p q) = steps
  have hsl : steps.length = xs.length - 1:=by rw [← hst];exact q90 _ _
  have hgk : ∀ k (hk : k < steps.length),steps[k] = (xs[k]'(by omega),xs[k + 1]'(by omega),secB kind p q (xs[k]'(by omega))):=fun k hk=>by subst hst;exact q8z hk (by omega)
  have hml : ∀ k,k≤steps.length→(∀ j,j < k→∀ t,steps[j]? = some t→¬ q3x kind p q t.1)→((Qn putB Qm (steps.take k)).flat putB).length≤800 * 400:=fun k hk hj=>by
    have h1:=qc6 putB (s0:=Qm) (M:=400) (steps:=steps.take k) (fun t ht=>by
      obtain ⟨i,hi,rfl⟩:=List.getElem_of_mem ht
      rw [List.length_take] at hi
      rw [List.getElem_take]
      have:=hj i (by omega) _ (List.getElem?_eq_getElem (by omega))
      rw [hgk i (by omega)] at this ⊢
      exact Nat.le_of_not_lt fun h=>this (.inl h))
    have h2 : (steps.take k).length≤800:=by rw [List.length_take];omega
    have h3 : (Qm.flat putB : List qd).length = 0:=rfl
    have h4 : (steps.take k).length * 400≤800 * 400:=Nat.mul_le_mul_right _ h2
    omega
  have main:=qcm (f:=Up xs p q kind) (fun k=>((Qn putB Qm (steps.take k)).sec,((Qn putB Qm (steps.take k)).done.length : Int),(k : Int),(Qn putB Qm (steps.take k)).flat putB))
    steps.length (fun j=>∀ t,steps[j]? = some t→¬ q3x kind p q t.1) (.inl ((Qn putB Qm steps).flat putB)) (.inr ([],false)) (fun k hk hj=>by
      have hk1 : k + 1 < xs.length:=by omega
      have hc:=hj k (Nat.le_refl _) _ (List.getElem?_eq_getElem hk)
      have hm:=hml k (by omega) fun j hjk=>hj j (by omega)
      rw [hgk k hk] at hc
      have hsec : qei kind p q xs[k]:=by
        have n1:=Zu p xs[k]
        have n2:=Zu q xs[k]
        refine ⟨by omega,?_,?_,?_⟩
        · exact Nat.le_of_not_lt fun h=>hc (.inl h)
        · exact Nat.le_of_not_lt fun h=>hc (.inr (.inl h))
        · exact Nat.le_of_not_lt fun h=>hc (.inr (.inr h))
      have:=qo9 kind (by omega) (xs:=xs) (by omega) hk1 hsec (Qn putB Qm (steps.take k)) (by omega) (fun h0=>by subst h0;rfl) (fun hpos=>by
        obtain ⟨m,rfl⟩ : ∃ m,k = m + 1:=⟨k - 1,by omega⟩
        rw [q46 putB (by omega),qej,hgk m (by omega)])
      rw [this,q46 putB hk,hgk k hk])
    (fun k hk _ hb=>by
      have hk1 : k + 1 < xs.length:=by omega
      have hk0 : k < xs.length:=by omega
      refine qo8 kind h (by omega) hk1 ?_ _ _ _
      refine Classical.byContradiction fun hn=>hb fun t ht=>?_
      rw [List.getElem?_eq_getElem hk,hgk k hk] at ht
      cases ht;exact hn)
    (fun _=>by
      rw [List.take_length]
      have hb : decide (w64 ((steps.length : Int) + 1) < (xs.length : Int)) = false:=by
        rw [qu (by omega)];exact decide_eq_false (by omega)
      unfold Up
      simp only [hb,cond_false])
  have h00 : (((Qn putB Qm (steps.take 0)).sec,((Qn putB Qm (steps.take 0)).done.length : Int),((0 : Nat) : Int),(Qn putB Qm (steps.take 0)).flat putB) : List qh × Int × Int × List qd) = ([],0,0,[]):=rfl
  rw [h00] at main
  rcases main with ⟨h1,h2⟩ | ⟨j,hj,hb,h2⟩
  · exact .inl (by rw [h2];rfl)
  · refine .inr ⟨by rw [h2];rfl,?_⟩
    have hj0 : j < xs.length:=by omega
    refine ⟨xs[j],?_⟩
    refine Classical.byContradiction fun hn=>hb fun t ht=>?_
    rw [List.getElem?_eq_getElem hj,hgk j hj] at ht
    cases ht;exact hn
theorem qte (kind : Int) (z : Int) : secB kind [] [] z = []:=qcx kind
theorem qio (kind : Int) {p q : List qd} (h : p.length + q.length≤400) (hs : ∀ z,q3x kind p q z→400 < (mrgB kind p q).length) :
    ∃ o,q1m kind p q = some (o,decide ((mrgB kind p q).length≤400))∧((mrgB kind p q).length≤400→o = mrgB kind p q):=by
  rcases qrd kind h with h1 | ⟨h1,z,hz⟩
  · refine ⟨_,?_,fun _=>rfl⟩
    rw [h1]
    have : decide (((mrgB kind p q).length : Int)≤400) = decide ((mrgB kind p q).length≤400):=decide_eq_decide.2 (by omega)
    rw [this]
  · have:=hs z hz
    refine ⟨[],?_,fun h=>absurd h (by omega)⟩
    rw [h1,decide_eq_false (by omega)]
theorem qjf {l : List qd} (h : l.length≤100000) : ∀ z,q3x 2 l [] z→400 < (mrgB 2 l []).length:=by
  intro z hz
  have h1:=qj9 2 (p:=l) (q:=[]) (by simpa using h) z
  rcases hz with hz | hz | hz
  · omega
  · omega
  · rw [qte] at hz;simp at hz
theorem qit (l : List qd) (hl : l.length≤1000000) {γ : Type} (f : Int→Option (Int ⊕ (Unit ⊕ γ))) (e : γ) (hf : ∀ k (h : k < l.length),f (k : Int) = some (if (fun r=>!decide (vB r)) l[k] = true then .inr (.inr e) else .inl ((k + 1 : Nat) : Int))) (hd : f (l.length : Int) = some (.inr (.inl ()))) :
    loop f 0 = some (if ∀ b∈l,vB b then .inl () else .inr e):=by
  rcases q45 l (fun r=>!decide (vB r)) (fun k _=>e) () f hf hd with ⟨h1,h2⟩ | ⟨k,hk,hc,_,h2⟩
  · have : ∀ r∈l,vB r:=fun r hr=>by simpa using h1 r hr
    rw [if_pos this];exact h2
  · have : ¬ ∀ r∈l,vB r:=fun h=>by simp [h _ (List.getElem_mem hk)] at hc
    rw [if_neg this];exact h2
theorem qre (l : List qd) : q7b l = some (mkB l):=by
  unfold q7b mkB
  by_cases h4 : 400 < l.length
  · rw [decide_eq_true (by omega : (l.length : Int) > 400),cond_true,if_pos h4]
  rw [decide_eq_false (by omega : ¬ (l.length : Int) > 400),cond_false,if_neg h4]
  rw [qit l (by omega) (q4w l) ([],8) (fun k hk=>by
    simp only [q4w,dlt hk,cond_true,Qf hk,Option.bind_some,qaf,w64s hk (by omega)]
    by_cases hv : vB l[k] <;> simp [hv]) (by simp only [q4w,dnl,cond_false])]
  by_cases hv : ∀ r∈l,vB r
  · rw [if_pos hv,if_pos hv]
    obtain ⟨o,h1,h2⟩:=qio 2 (p:=l) (q:=[]) (by simp;omega) (qjf (by omega))
    simp only [Option.bind_some,h1]
    by_cases h5 : 400 < (mrgB 2 l []).length
    · rw [decide_eq_false (by omega),if_pos h5];rfl
    · rw [decide_eq_true (by omega),if_neg h5,h2 (by omega)];rfl
  · rw [if_neg hv,if_neg hv];rfl
theorem qad (l : List qd) : J0 l = some (K2 l):=by
  unfold J0 K2
  by_cases h4 : 400 < l.length
  · rw [decide_eq_true (by omega : (l.length : Int) > 400),cond_true,if_pos h4]
  rw [decide_eq_false (by omega : ¬ (l.length : Int) > 400),cond_false,if_neg h4]
  rw [qit l (by omega) (q4t l) 8 (fun k hk=>by
    simp only [q4t,dlt hk,cond_true,Qf hk,Option.bind_some,qaf,w64s hk (by omega)]
    by_cases hv : vB l[k] <;> simp [hv]) (by simp only [q4t,dnl,cond_false])]
  by_cases hv : ∀ r∈l,vB r
  · rw [if_pos hv,if_pos hv]
    obtain ⟨o,h1,h2⟩:=qio 2 (p:=l) (q:=[]) (by simp;omega) (qjf (by omega))
    simp only [Option.bind_some,h1]
    by_cases h5 : 400 < (mrgB 2 l []).length
    · have hne : mrgB 2 l []≠l:=fun h=>by rw [h] at h5;exact h4 h5
      rw [decide_eq_false (by omega),if_neg hne];rfl
    · rw [decide_eq_true (by omega),h2 (by omega),sameBox _ l (by omega)]
      by_cases he : mrgB 2 l [] = l <;> simp [he]
  · rw [if_neg hv,if_neg hv];rfl
end Go.Sh
namespace Go.Sh
open Go Go.Am
def sumN : Nat→(Int→Int)→Int
  | 0,_=>0
  | n + 1,f=>sumN n f + f n
theorem qk5 {f g : Int→Int} : ∀ {n : Nat},sumN n (fun x=>f x + g x) = sumN n f + sumN n g
  | 0=>rfl
  | n + 1=>by rw [sumN,sumN,sumN,qk5 (n:=n)];omega
theorem qk9 {f g : Int→Int} : ∀ {n : Nat},sumN n (fun x=>f x - g x) = sumN n f - sumN n g
  | 0=>rfl
  | n + 1=>by rw [sumN,sumN,sumN,qk9 (n:=n)];omega
theorem qk8 {c : Int} {f : Int→Int} : ∀ {n : Nat},sumN n (fun x=>c * f x) = c * sumN n f
  | 0=>by simp [sumN]
  | n + 1=>by rw [sumN,sumN,qk8 (n:=n),Int.mul_add]
theorem qka : ∀ {n : Nat},sumN n (fun _=>0) = 0
  | 0=>rfl
  | n + 1=>by rw [sumN,qka (n:=n)];rfl
theorem qk7 {f g : Int→Int} : ∀ {n : Nat},(∀ k : Nat,k < n→f k≤g k)→sumN n f≤sumN n g
  | 0,_=>Int.le_refl _
  | n + 1,h=>by have:=qk7 (n:=n) fun k hk=>h k (by omega);have:=h n (by omega);rw [sumN,sumN];omega
noncomputable def ind (p : Prop) : Int:=by classical exact if p then 1 else 0
theorem q4c {p : Prop} (h : p) : ind p = 1:=by unfold ind;simp [h]
theorem Zw {p : Prop} (h : ¬ p) : ind p = 0:=by unfold ind;simp [h]
theorem q1e {p q : Prop} (h : p↔q) : ind p = ind q:=by rw [propext h]
theorem q4a {p q : Prop} : ind (p∧q) = ind p * ind q:=by
  by_cases hp : p <;> by_cases hq : q
  · rw [q4c ⟨hp,hq⟩,q4c hp,q4c hq];rfl
  · rw [Zw (fun h=>hq h.2),Zw hq];simp
  · rw [Zw (fun h=>hp h.1),Zw hp];simp
  · rw [Zw (fun h=>hp h.1),Zw hp];simp
theorem qo0 {p q : Prop} : ind (p∨q) = ind p + ind q - ind (p∧q):=by
  by_cases hp : p <;> by_cases hq : q <;> simp [ind,hp,hq]
theorem qnz {p : Prop} : ind (¬ p) = 1 - ind p:=by by_cases hp : p <;> simp [ind,hp]
theorem q4b {p : Prop} : 0≤ind p∧ind p≤1:=by by_cases hp : p <;> simp [ind,hp]
theorem qk6 (a b : Int) : ∀ {n : Nat},sumN n (fun x=>ind (a≤x∧x < b)) = max 0 (min b n - max a 0)
  | 0=>by rw [sumN];omega
  | n + 1=>by
    rw [sumN,qk6 a b (n:=n)]
    by_cases h : a≤(n : Int)∧(n : Int) < b
    · rw [q4c h];omega
    · rw [Zw h];omega
def sumZ (N : Nat) (f : Int→Int) : Int:=sumN (2 * N) fun k=>f (k - N)
theorem qxq {N : Nat} {f g : Int→Int} : sumZ N (fun x=>f x + g x) = sumZ N f + sumZ N g:=qk5
theorem qxr {N : Nat} {f g : Int→Int} : sumZ N (fun x=>f x - g x) = sumZ N f - sumZ N g:=qk9
theorem Uy {N : Nat} {c : Int} {f : Int→Int} : sumZ N (fun x=>c * f x) = c * sumZ N f:=qk8
theorem qe8 {N : Nat} : sumZ N (fun _=>0) = 0:=qka
theorem qb3 {N : Nat} {f g : Int→Int} (h : ∀ x : Int,-(N : Int)≤x→x < N→f x≤g x) : sumZ N f≤sumZ N g:=
  qk7 fun k hk=>h _ (by omega) (by omega)
theorem qb2 {N : Nat} {a b : Int} (h1 : -N≤a) (h2 : a≤b) (h3 : b≤N) : sumZ N (fun x=>ind (a≤x∧x < b)) = b - a:=by
  unfold sumZ
  have : (fun k : Int=>ind (a≤k - N∧k - N < b)) = fun k=>ind (a + N≤k∧k < b + N):=by
    funext k;exact q1e ⟨fun h=>by omega,fun h=>by omega⟩
  simp only [this]
  rw [qk6];omega
theorem qe6 {N : Nat} {f : Int→Int} (h : ∀ x : Int,-(N : Int)≤x→x < N→0≤f x) : 0≤sumZ N f:=by
  rw [← qe8 (N:=N)];exact qb3 h
theorem qe5 {N : Nat} {c : Int} : sumZ N (fun _=>c) = 2 * N * c:=by
  have : ∀ n : Nat,sumN n (fun _=>c) = n * c:=by
    intro n
    induction n with
    | zero=>simp [sumN]
    | succ n ih=>rw [sumN,ih,Int.natCast_succ,Int.add_mul,Int.one_mul]
  unfold sumZ;rw [this];simp
noncomputable def cnt3 (N : Nat) (P : Int→Int→Int→Prop) : Int:=sumZ N fun x=>sumZ N fun y=>sumZ N fun z=>ind (P x y z)
def sumL {α : Type} (f : α→Int) : List α→Int
  | []=>0
  | a::r=>f a + sumL f r
theorem q68 {α : Type} (f : α→Int) (a b : List α) : sumL f (a ++ b) = sumL f a + sumL f b:=by
  induction a with
  | nil=>simp [sumL]
  | cons x a ih=>rw [List.cons_append,sumL,sumL,ih];omega
theorem Zm {α : Type} {f g : α→Int} {l : List α} (h : ∀ a∈l,f a = g a) : sumL f l = sumL g l:=by
  induction l with
  | nil=>rfl
  | cons a l ih=>rw [sumL,sumL,h a (by simp),ih fun b hb=>h b (by simp [hb])]
theorem q93 {α : Type} (c : Int) (f : α→Int) (l : List α) : sumL (fun a=>c * f a) l = c * sumL f l:=by
  induction l with
  | nil=>simp [sumL]
  | cons a l ih=>rw [sumL,sumL,ih,Int.mul_add]
theorem qaz {α : Type} (f g : α→Int) (l : List α) : sumL (fun a=>f a + g a) l = sumL f l + sumL g l:=by
  induction l with
  | nil=>rfl
  | cons a l ih=>rw [sumL,sumL,sumL,ih];omega
theorem qb0 {α : Type} (f g : α→Int) (l : List α) : sumL (fun a=>f a - g a) l = sumL f l - sumL g l:=by
  induction l with
  | nil=>rfl
  | cons a l ih=>rw [sumL,sumL,sumL,ih];omega
theorem qe4 {α : Type} (l : List α) : sumL (fun _ : α=>0) l = 0:=by
  induction l with
  | nil=>rfl
  | cons a l ih=>rw [sumL,ih];rfl
theorem qb1 {α : Type} {N : Nat} (f : α→Int→Int) (l : List α) : sumL (fun a=>sumZ N (f a)) l = sumZ N fun x=>sumL (fun a=>f a x) l:=by
  induction l with
  | nil=>exact qe8.symm
  | cons a l ih=>
    have : (fun x=>sumL (fun a=>f a x) (a::l)) = fun x=>f a x + (fun x=>sumL (fun a=>f a x) l) x:=rfl
    rw [sumL,ih,this,qxq]
def inB (b : qd) (x y z : Int) : Prop:=(b.Lo.X≤x∧x < b.Hi.X)∧(b.Lo.Y≤y∧y < b.Hi.Y)∧(b.Lo.Z≤z∧z < b.Hi.Z)
def inR (r : qh) (x y : Int) : Prop:=(r.X0≤x∧x < r.X1)∧(r.Y0≤y∧y < r.Y1)
def inS (t : qi) (x : Int) : Prop:=t.Lo≤x∧x < t.Hi
def volB (b : qd) : Int:=(b.Hi.X - b.Lo.X) * (b.Hi.Y - b.Lo.Y) * (b.Hi.Z - b.Lo.Z)
theorem qy7 {N : Nat} {b : qd} (h : (b.Lo.X≤b.Hi.X∧b.Lo.Y≤b.Hi.Y∧b.Lo.Z≤b.Hi.Z)∧(-(N : Int)≤b.Lo.X∧-(N : Int)≤b.Lo.Y∧-(N : Int)≤b.Lo.Z)∧b.Hi.X≤N∧b.Hi.Y≤N∧b.Hi.Z≤N) :
    volB b = cnt3 N (inB b):=by
  obtain ⟨⟨h1,h2,h3⟩,⟨h4,h5,h6⟩,h7,h8,h9⟩:=h
  unfold cnt3
  have e : ∀ x y,(sumZ N fun z=>ind (inB b x y z)) = ind (b.Lo.X≤x∧x < b.Hi.X) * (ind (b.Lo.Y≤y∧y < b.Hi.Y) * (b.Hi.Z - b.Lo.Z)):=fun x y=>by
    have : (fun z=>ind (inB b x y z)) = fun z=>ind (b.Lo.X≤x∧x < b.Hi.X) * (ind (b.Lo.Y≤y∧y < b.Hi.Y) * ind (b.Lo.Z≤z∧z < b.Hi.Z)):=by
      funext z;unfold inB;rw [q4a (p:=_∧_) (q:=(_∧_)∧_),q4a (p:=_∧_) (q:=_∧_)]
    rw [this,Uy,Uy,qb2 h6 h3 h9]
  have e2 : ∀ x,(sumZ N fun y=>sumZ N fun z=>ind (inB b x y z)) = ind (b.Lo.X≤x∧x < b.Hi.X) * ((b.Hi.Y - b.Lo.Y) * (b.Hi.Z - b.Lo.Z)):=fun x=>by
    have : (fun y=>sumZ N fun z=>ind (inB b x y z)) = fun y=>ind (b.Lo.X≤x∧x < b.Hi.X) * ((b.Hi.Z - b.Lo.Z) * ind (b.Lo.Y≤y∧y < b.Hi.Y)):=by
      funext y;rw [e,Int.mul_comm (b.Hi.Z - b.Lo.Z)]
    rw [this,Uy,Uy,qb2 h5 h2 h8,Int.mul_comm (b.Hi.Z - b.Lo.Z)]
  have : (fun x=>sumZ N fun y=>sumZ N fun z=>ind (inB b x y z)) = fun x=>((b.Hi.Y - b.Lo.Y) * (b.Hi.Z - b.Lo.Z)) * ind (b.Lo.X≤x∧x < b.Hi.X):=by
    funext x;rw [e2,Int.mul_comm]
  rw [this,Uy,qb2 h4 h1 h7,volB]
  simp only [Int.mul_assoc,Int.mul_left_comm,Int.mul_comm]
noncomputable def cntS (s : List qi) (y : Int) : Int:=sumL (fun t=>ind (inS t y)) s
noncomputable def cntR (l : List qh) (x y : Int) : Int:=sumL (fun t=>ind (inR t x y)) l
noncomputable def cntB (l : List qd) (x y z : Int) : Int:=sumL (fun t=>ind (inB t x y z)) l
theorem qf8 : ∀ {s : List qi},Can s→∀ y,cntS s y = ind (has s y)
  | [],_,y=>by rw [Zw (Uk y)];rfl
  | a::s,h,y=>by
    have ih:=qf8 h.tail y
    unfold cntS at ih ⊢
    rw [sumL,ih,q1e (Yt (a:=a) (s:=s) (x:=y)),qo0]
    have : ¬ ((a.Lo≤y∧y < a.Hi)∧has s y):=fun ⟨h1,h2⟩=>by have:=h.tail_gt h2;omega
    rw [Zw this];unfold inS;omega
theorem qm7 (l : List qh) (x y : Int) : cntR l x y = cntS (covS l x) y:=by
  unfold cntR cntS
  induction l with
  | nil=>rfl
  | cons r l ih=>
    have e : covS (r::l) x = (if covR x r = true then [ysp r] else []) ++ covS l x:=rfl
    rw [sumL,ih,e,q68]
    congr 1
    by_cases hc : covR x r = true
    · rw [if_pos hc]
      have:=q43.1 hc
      simp only [sumL,Int.add_zero]
      exact q1e ⟨fun h=>h.2,fun h=>⟨this,h⟩⟩
    · rw [if_neg hc]
      rw [q43] at hc
      exact Zw fun h=>hc h.1
theorem qm6 (l : List qd) (x y z : Int) : cntB l x y z = cntR (atB l z) x y:=by
  unfold cntB cntR
  induction l with
  | nil=>rfl
  | cons r l ih=>
    have e : atB (r::l) z = (if covB z r = true then [U0 r] else []) ++ atB l z:=rfl
    rw [sumL,ih,e,q68]
    congr 1
    by_cases hc : covB z r = true
    · rw [if_pos hc]
      have:=q12.1 hc
      simp only [sumL,Int.add_zero]
      exact q1e ⟨fun h=>⟨h.1,h.2.1⟩,fun h=>⟨h.1,h.2,this⟩⟩
    · rw [if_neg hc]
      rw [q12] at hc
      exact Zw fun h=>hc h.2.2
theorem CanR.cnt {l : List qh} (h : CanR l) (x y : Int) : cntR l x y = ind (hasR l x y):=by
  rw [qm7,qf8 (h.cov x),q1e Jv]
theorem CanB.cnt {l : List qd} (h : CanB l) (x y z : Int) : cntB l x y z = ind (hasB l x y z):=by
  rw [qm6,(h.at z).cnt,q1e q2h]
def volL (l : List qd) : Int:=sumL volB l
theorem qy8 {N : Nat} {l : List qd} (hc : ∀ x y z,cntB l x y z = ind (hasB l x y z)) (h : ∀ b∈l,(b.Lo.X≤b.Hi.X∧b.Lo.Y≤b.Hi.Y∧b.Lo.Z≤b.Hi.Z)∧(-(N : Int)≤b.Lo.X∧-(N : Int)≤b.Lo.Y∧-(N : Int)≤b.Lo.Z)∧b.Hi.X≤N∧b.Hi.Y≤N∧b.Hi.Z≤N) :
    volL l = cnt3 N (hasB l):=by
  unfold volL
  rw [Zm fun b hb=>qy7 (h b hb)]
  unfold cnt3
  rw [qb1]
  congr 1;funext x
  rw [qb1]
  congr 1;funext y
  rw [qb1]
  congr 1;funext z
  exact hc x y z
end Go.Sh
namespace Go.Sh
open Go Go.Am
theorem qga {α β γ : Type} (l : List α) (hl : l.length≤1000000) (g : γ→α→γ) (fin : γ→β) (f : γ × Int→Option ((γ × Int) ⊕ β))
    (hs : ∀ k (h : k < l.length) (s : γ),f (s,(k : Int)) = some (.inl (g s l[k],((k + 1 : Nat) : Int)))) (hd : ∀ s,f (s,(l.length : Int)) = some (.inr (fin s))) (s : γ) :
    loop f (s,0) = some (fin (l.foldl g s)):=by
  have key:=Yu (f:=f) (fun k=>((l.take k).foldl g s,(k : Int))) l.length (fin (l.foldl g s)) (fun k hk=>by
    rw [hs k hk,List.take_succ_eq_append_getElem hk,List.foldl_append];rfl) (by rw [List.take_length,hd]) (Nat.zero_le _)
  exact key
theorem qe9 (x : Int) : w64 x = if 9223372036854775808≤x % 18446744073709551616 then x % 18446744073709551616 - 18446744073709551616 else x % 18446744073709551616:=by
  unfold w64 IntKind.wrap
  simp [IntKind.bits,IntKind.signed]
theorem qea (x y : Int) (h : x % 18446744073709551616 = y % 18446744073709551616) : w64 x = w64 y:=by rw [qe9,qe9,h]
theorem qeb (x : Int) : w64 x % 18446744073709551616 = x % 18446744073709551616:=by rw [qe9];split <;> omega
theorem qb8 (a b : Int) : w64 (w64 a + b) = w64 (a + b):=qea _ _ (by have:=qeb a;omega)
theorem qy9 (a b : Int) : w64 (a + w64 b) = w64 (a + b):=qea _ _ (by have:=qeb b;omega)
theorem qyb (a b : Int) : w64 (a - w64 b) = w64 (a - b):=qea _ _ (by have:=qeb b;omega)
theorem qdd {x y z : Int} (hx : 0≤x∧x≤2000000) (hy : 0≤y∧y≤2000000) (hz : 0≤z∧z≤2000000) : (0≤x * y∧x * y≤4000000000000)∧0≤x * y * z∧x * y * z≤8000000000000000000:=by
  have h1 : 0≤x * y:=Int.mul_nonneg hx.1 hy.1
  have h2 : x * y≤2000000 * 2000000:=Int.mul_le_mul hx.2 hy.2 hy.1 (by omega)
  have h3 : 0≤x * y * z:=Int.mul_nonneg h1 hz.1
  have h4 : x * y * z≤4000000000000 * 2000000:=Int.mul_le_mul (by omega) hz.2 hz.1 (by omega)
  omega
theorem qc7 {α : Type} (f : α→Int) : ∀ (l : List α) (n m : Int),n = w64 m→l.foldl (fun n b=>w64 (n + f b)) n = w64 (m + sumL f l)
  | [],n,m,h=>by simp [sumL,h]
  | b::l,n,m,h=>by
    rw [List.foldl_cons,qc7 f l _ (m + f b) (by rw [h,qb8]),sumL,Int.add_assoc]
theorem qm5 (N : Nat) (P : Int→Int→Int→Prop) : 0≤cnt3 N P∧cnt3 N P≤2 * N * (2 * N * (2 * N * 1)):=by
  constructor
  · exact qe6 fun x _ _=>qe6 fun y _ _=>qe6 fun z _ _=>q4b.1
  · rw [← qe5 (N:=N) (c:=1),← qe5,← qe5]
    exact qb3 fun x _ _=>qb3 fun y _ _=>qb3 fun z _ _=>q4b.2
theorem qnq {b : qd} {l : List qd} {x y z : Int} : hasB (b::l) x y z↔inB b x y z∨hasB l x y z:=by
  constructor
  · rintro ⟨c,hc,h⟩
    rcases List.mem_cons.1 hc with rfl | hc
    · exact .inl h
    · exact .inr ⟨c,hc,h⟩
  · rintro (h | ⟨c,hc,h⟩)
    · exact ⟨b,by simp,h⟩
    · exact ⟨c,by simp [hc],h⟩
instance (b : qd) (x y z : Int) : Decidable (inB b x y z):=by unfold inB;infer_instance
instance qmp : (l : List qd)→(x y z : Int)→Decidable (hasB l x y z)
  | [],x,y,z=>isFalse (qcc x y z)
  | b::l,x,y,z=>by
    have:=qmp l x y z
    exact decidable_of_iff _ qnq.symm
theorem qr9 (l : List qd) : q79 l = some (decide ((30 < l.length∧l.length≤400)∨420 < l.length)):=by
  unfold q79
  by_cases h1 : 30 < l.length
  · rw [decide_eq_true (by omega : (l.length : Int) > 30),cond_true]
    by_cases h2 : l.length≤400
    · rw [decide_eq_true (by omega : (l.length : Int)≤400)]
      simp only [Option.bind_some,cond_true]
      congr 1
      exact (decide_eq_true (.inl ⟨h1,h2⟩)).symm
    · rw [decide_eq_false (by omega : ¬ (l.length : Int)≤400)]
      simp only [Option.bind_some,cond_false]
      congr 1
      exact decide_eq_decide.2 (by omega)
  · rw [decide_eq_false (by omega : ¬ (l.length : Int) > 30),cond_false]
    simp only [Option.bind_some,cond_false]
    congr 1
    exact decide_eq_decide.2 (by omega)
theorem qot (l : List qd) : (mkB l).1.length≤400:=by
  unfold mkB
  repeat' split
  all_goals simp
  omega
end Go.Sh
namespace Go.Sh
open Go Go.Am
def Z6 {α : Type} (f : α→α→Int) (l : List α) : Nat→Int
  | 0=>0
  | n + 1=>Z6 f l n + (match l[n]? with
    | some b=>sumL (fun c=>f b c) (l.take n)
    | none=>0)
theorem qdc {α : Type} (f : α→α→Int) (hs : ∀ a b,f a b = f b a) (l : List α) : ∀ n,n≤l.length→
    sumL (fun b=>sumL (fun c=>f b c) (l.take n)) (l.take n) = sumL (fun b=>f b b) (l.take n) + 2 * Z6 f l n
  | 0,_=>by simp [sumL,Z6]
  | n + 1,h=>by
    have ih:=qdc f hs l n (by omega)
    rw [List.take_succ_eq_append_getElem (by omega)]
    simp only [q68,sumL,Int.add_zero,Z6,List.getElem?_eq_getElem (show n < l.length by omega),qaz]
    have : sumL (fun b=>f b l[n]) (l.take n) = sumL (fun c=>f l[n] c) (l.take n):=Zm fun b _=>hs b _
    rw [this]
    omega
theorem qe3 {α : Type} (f g : α→α→Int) {l : List α} (hp : l.Pairwise fun a b=>f a b = g a b∧f b a = g b a) : ∀ n,n≤l.length→
    sumL (fun b=>sumL (fun c=>f b c - g b c) (l.take n)) (l.take n) = sumL (fun b=>f b b - g b b) (l.take n)
  | 0,_=>by simp [sumL]
  | n + 1,h=>by
    have ih:=qe3 f g hp n (by omega)
    have hq:=List.pairwise_iff_getElem.1 hp
    rw [List.take_succ_eq_append_getElem (by omega)]
    simp only [q68,sumL,Int.add_zero,qaz,ih]
    have hm : ∀ b∈l.take n,f b l[n] = g b l[n]∧f l[n] b = g l[n] b:=fun b hb=>by
      obtain ⟨i,hi,rfl⟩:=List.getElem_of_mem hb
      rw [List.length_take] at hi
      rw [List.getElem_take]
      exact hq i n (by omega) (by omega) (by omega)
    have s1 : sumL (fun b=>f b l[n] - g b l[n]) (l.take n) = 0:=(Zm (g:=fun _=>0) fun b hb=>by have:=hm b hb;omega).trans (qe4 _)
    have s2 : sumL (fun c=>f l[n] c - g l[n] c) (l.take n) = 0:=(Zm (g:=fun _=>0) fun b hb=>by have:=hm b hb;omega).trans (qe4 _)
    omega
theorem qh2 {a b c : Prop} : ind (a∧b∧c) = ind a * (ind b * ind c):=by rw [q4a,q4a]
def ov (a0 a1 b0 b1 : Int) : Int:=max 0 (min a1 b1 - max a0 b0)
theorem qe7 {N : Nat} {a0 a1 b0 b1 : Int} (h1 : -N≤a0) (h2 : a1≤N) : sumZ N (fun x=>ind (a0≤x∧x < a1) * ind (b0≤x∧x < b1)) = ov a0 a1 b0 b1:=by
  have : (fun x : Int=>ind (a0≤x∧x < a1) * ind (b0≤x∧x < b1)) = fun x=>ind (max a0 b0≤x∧x < min a1 b1):=by
    funext x
    rw [← q4a]
    exact q1e ⟨fun h=>by omega,fun h=>by omega⟩
  rw [this]
  unfold ov
  by_cases h : max a0 b0≤min a1 b1
  · by_cases hb : b0≤a1∧a0≤b1
    · rw [qb2 (by omega) h (by omega)];omega
    · omega
  · have : (fun x : Int=>ind (max a0 b0≤x∧x < min a1 b1)) = fun _=>0:=by
      funext x;exact Zw (by omega)
    rw [this,qe8];omega
theorem qm8 {N : Nat} {b : qd} {cx0 cx1 cy0 cy1 cz0 cz1 : Int} (h : (-(N : Int)≤b.Lo.X∧-(N : Int)≤b.Lo.Y∧-(N : Int)≤b.Lo.Z)∧b.Hi.X≤N∧b.Hi.Y≤N∧b.Hi.Z≤N) :
    (sumZ N fun x=>sumZ N fun y=>sumZ N fun z=>ind (inB b x y z) * ind ((cx0≤x∧x < cx1)∧(cy0≤y∧y < cy1)∧(cz0≤z∧z < cz1))) = ov b.Lo.X b.Hi.X cx0 cx1 * (ov b.Lo.Y b.Hi.Y cy0 cy1 * ov b.Lo.Z b.Hi.Z cz0 cz1):=by
  obtain ⟨⟨h4,h5,h6⟩,h7,h8,h9⟩:=h
  have e : ∀ x y,(sumZ N fun z=>ind (inB b x y z) * ind ((cx0≤x∧x < cx1)∧(cy0≤y∧y < cy1)∧(cz0≤z∧z < cz1))) = (ind (b.Lo.X≤x∧x < b.Hi.X) * ind (cx0≤x∧x < cx1)) * ((ind (b.Lo.Y≤y∧y < b.Hi.Y) * ind (cy0≤y∧y < cy1)) * ov b.Lo.Z b.Hi.Z cz0 cz1):=fun x y=>by
    have : (fun z=>ind (inB b x y z) * ind ((cx0≤x∧x < cx1)∧(cy0≤y∧y < cy1)∧(cz0≤z∧z < cz1))) = fun z=>(ind (b.Lo.X≤x∧x < b.Hi.X) * ind (cx0≤x∧x < cx1)) * ((ind (b.Lo.Y≤y∧y < b.Hi.Y) * ind (cy0≤y∧y < cy1)) * (ind (b.Lo.Z≤z∧z < b.Hi.Z) * ind (cz0≤z∧z < cz1))):=by
      funext z;unfold inB;rw [qh2,qh2]
      simp only [Int.mul_assoc,Int.mul_left_comm,Int.mul_comm]
    rw [this,Uy,Uy,qe7 h6 h9]
  have e2 : ∀ x,(sumZ N fun y=>sumZ N fun z=>ind (inB b x y z) * ind ((cx0≤x∧x < cx1)∧(cy0≤y∧y < cy1)∧(cz0≤z∧z < cz1))) = (ov b.Lo.Y b.Hi.Y cy0 cy1 * ov b.Lo.Z b.Hi.Z cz0 cz1) * (ind (b.Lo.X≤x∧x < b.Hi.X) * ind (cx0≤x∧x < cx1)):=fun x=>by
    have : (fun y=>sumZ N fun z=>ind (inB b x y z) * ind ((cx0≤x∧x < cx1)∧(cy0≤y∧y < cy1)∧(cz0≤z∧z < cz1))) = fun y=>((ind (b.Lo.X≤x∧x < b.Hi.X) * ind (cx0≤x∧x < cx1)) * ov b.Lo.Z b.Hi.Z cz0 cz1) * (ind (b.Lo.Y≤y∧y < b.Hi.Y) * ind (cy0≤y∧y < cy1)):=by
      funext y;rw [e];simp only [Int.mul_assoc,Int.mul_left_comm,Int.mul_comm]
    rw [this,Uy,qe7 h5 h8]
    simp only [Int.mul_assoc,Int.mul_left_comm,Int.mul_comm]
  simp only [e2]
  rw [Uy,qe7 h4 h7,Int.mul_comm]
def Jd (b c : qd) : Int:=
  ov b.Lo.X b.Hi.X (c.Lo.X - 1) (c.Hi.X - 1) * (ov b.Lo.Y b.Hi.Y c.Lo.Y c.Hi.Y * ov b.Lo.Z b.Hi.Z c.Lo.Z c.Hi.Z) + ov b.Lo.X b.Hi.X (c.Lo.X + 1) (c.Hi.X + 1) * (ov b.Lo.Y b.Hi.Y c.Lo.Y c.Hi.Y * ov b.Lo.Z b.Hi.Z c.Lo.Z c.Hi.Z) +
  (ov b.Lo.X b.Hi.X c.Lo.X c.Hi.X * (ov b.Lo.Y b.Hi.Y (c.Lo.Y - 1) (c.Hi.Y - 1) * ov b.Lo.Z b.Hi.Z c.Lo.Z c.Hi.Z) + ov b.Lo.X b.Hi.X c.Lo.X c.Hi.X * (ov b.Lo.Y b.Hi.Y (c.Lo.Y + 1) (c.Hi.Y + 1) * ov b.Lo.Z b.Hi.Z c.Lo.Z c.Hi.Z)) +
  (ov b.Lo.X b.Hi.X c.Lo.X c.Hi.X * (ov b.Lo.Y b.Hi.Y c.Lo.Y c.Hi.Y * ov b.Lo.Z b.Hi.Z (c.Lo.Z - 1) (c.Hi.Z - 1)) + ov b.Lo.X b.Hi.X c.Lo.X c.Hi.X * (ov b.Lo.Y b.Hi.Y c.Lo.Y c.Hi.Y * ov b.Lo.Z b.Hi.Z (c.Lo.Z + 1) (c.Hi.Z + 1)))
def Qt (a b : qd) : Int:=
  let x:=min a.Hi.X b.Hi.X - max a.Lo.X b.Lo.X
  let y:=min a.Hi.Y b.Hi.Y - max a.Lo.Y b.Lo.Y
  let z:=min a.Hi.Z b.Hi.Z - max a.Lo.Z b.Lo.Z
  if x = 0∧y > 0∧z > 0 then y * z else if x > 0∧y = 0∧z > 0 then x * z else if x > 0∧y > 0∧z = 0 then x * y else 0
theorem qfk (a b : qd) : Qt a b = Qt b a:=by
  unfold Qt
  simp only [Int.min_comm b.Hi.X,Int.max_comm b.Lo.X,Int.min_comm b.Hi.Y,Int.max_comm b.Lo.Y,Int.min_comm b.Hi.Z,Int.max_comm b.Lo.Z]
def ltB (b : qd) : Prop:=b.Lo.X < b.Hi.X∧b.Lo.Y < b.Hi.Y∧b.Lo.Z < b.Hi.Z
theorem ov3 {a0 a1 b0 b1 : Int} (ha : a0 < a1) (hb : b0 < b1) :
    (min a1 b1 - max a0 b0 < 0∧ov a0 a1 b0 b1 = 0∧ov a0 a1 (b0 - 1) (b1 - 1) + ov a0 a1 (b0 + 1) (b1 + 1) = 0∧ov a0 a1 (b0 - 1) (b1 - 1) = 0∧ov a0 a1 (b0 + 1) (b1 + 1) = 0)∨
    (min a1 b1 - max a0 b0 = 0∧ov a0 a1 b0 b1 = 0∧ov a0 a1 (b0 - 1) (b1 - 1) + ov a0 a1 (b0 + 1) (b1 + 1) = 1)∨
    (min a1 b1 - max a0 b0 > 0∧ov a0 a1 b0 b1 = min a1 b1 - max a0 b0):=by
  unfold ov;omega
theorem qk1 {b c : qd} (hb : ltB b) (hc : ltB c) (hd : ∀ x y z,¬ (inB b x y z∧inB c x y z)) : Jd b c = Qt b c:=by
  obtain ⟨b1,b2,b3⟩:=hb
  obtain ⟨c1,c2,c3⟩:=hc
  have hdis : ¬ (min b.Hi.X c.Hi.X - max b.Lo.X c.Lo.X > 0∧min b.Hi.Y c.Hi.Y - max b.Lo.Y c.Lo.Y > 0∧min b.Hi.Z c.Hi.Z - max b.Lo.Z c.Lo.Z > 0):=fun ⟨h1,h2,h3⟩=>
    hd (max b.Lo.X c.Lo.X) (max b.Lo.Y c.Lo.Y) (max b.Lo.Z c.Lo.Z) (by unfold inB;omega)
  have key : ∀ {X0 X1 Y0 Y1 Z0 Z1 x y z : Int},((x < 0∧X0 = 0∧X1 = 0)∨(x = 0∧X0 = 0∧X1 = 1)∨(x > 0∧X0 = x))→((y < 0∧Y0 = 0∧Y1 = 0)∨(y = 0∧Y0 = 0∧Y1 = 1)∨(y > 0∧Y0 = y))→
      ((z < 0∧Z0 = 0∧Z1 = 0)∨(z = 0∧Z0 = 0∧Z1 = 1)∨(z > 0∧Z0 = z))→¬ (x > 0∧y > 0∧z > 0)→
      X1 * (Y0 * Z0) + X0 * (Y1 * Z0) + X0 * (Y0 * Z1) = if x = 0∧y > 0∧z > 0 then y * z else if x > 0∧y = 0∧z > 0 then x * z else if x > 0∧y > 0∧z = 0 then x * y else 0:=by
    intro X0 X1 Y0 Y1 Z0 Z1 x y z hx hy hz hn
    rcases hx with ⟨hx,rfl,rfl⟩ | ⟨rfl,rfl,rfl⟩ | ⟨hx,rfl⟩ <;> rcases hy with ⟨hy,rfl,rfl⟩ | ⟨rfl,rfl,rfl⟩ | ⟨hy,rfl⟩ <;> rcases hz with ⟨hz,rfl,rfl⟩ | ⟨rfl,rfl,rfl⟩ | ⟨hz,rfl⟩ <;>
      first
        | (exfalso;omega)
        | (simp only [Int.zero_mul,Int.mul_zero,Int.add_zero,Int.zero_add,Int.one_mul,Int.mul_one];clear hd hdis b1 b2 b3 c1 c2 c3;(repeat' split) <;> first | omega | (simp_all;done) | (simp_all;omega))
  have e : Jd b c = (ov b.Lo.X b.Hi.X (c.Lo.X - 1) (c.Hi.X - 1) + ov b.Lo.X b.Hi.X (c.Lo.X + 1) (c.Hi.X + 1)) * (ov b.Lo.Y b.Hi.Y c.Lo.Y c.Hi.Y * ov b.Lo.Z b.Hi.Z c.Lo.Z c.Hi.Z) +
      ov b.Lo.X b.Hi.X c.Lo.X c.Hi.X * ((ov b.Lo.Y b.Hi.Y (c.Lo.Y - 1) (c.Hi.Y - 1) + ov b.Lo.Y b.Hi.Y (c.Lo.Y + 1) (c.Hi.Y + 1)) * ov b.Lo.Z b.Hi.Z c.Lo.Z c.Hi.Z) +
      ov b.Lo.X b.Hi.X c.Lo.X c.Hi.X * (ov b.Lo.Y b.Hi.Y c.Lo.Y c.Hi.Y * (ov b.Lo.Z b.Hi.Z (c.Lo.Z - 1) (c.Hi.Z - 1) + ov b.Lo.Z b.Hi.Z (c.Lo.Z + 1) (c.Hi.Z + 1))):=by
    unfold Jd;simp only [Int.add_mul,Int.mul_add]
  rw [e]
  unfold Qt
  refine key ?_ ?_ ?_ hdis
  · rcases ov3 b1 c1 with h | h | h
    · exact .inl ⟨h.1,h.2.1,h.2.2.1⟩
    · exact .inr (.inl h)
    · exact .inr (.inr h)
  · rcases ov3 b2 c2 with h | h | h
    · exact .inl ⟨h.1,h.2.1,h.2.2.1⟩
    · exact .inr (.inl h)
    · exact .inr (.inr h)
  · rcases ov3 b3 c3 with h | h | h
    · exact .inl ⟨h.1,h.2.1,h.2.2.1⟩
    · exact .inr (.inl h)
    · exact .inr (.inr h)
def Yb (b : qd) : Int:=2 * ((b.Hi.X - b.Lo.X) * (b.Hi.Y - b.Lo.Y) + (b.Hi.X - b.Lo.X) * (b.Hi.Z - b.Lo.Z) + (b.Hi.Y - b.Lo.Y) * (b.Hi.Z - b.Lo.Z))
theorem qxg {b : qd} (hb : ltB b) : 6 * volB b - Jd b b = Yb b:=by
  obtain ⟨b1,b2,b3⟩:=hb
  have o : ∀ {a c : Int},a < c→ov a c a c = c - a∧ov a c (a - 1) (c - 1) = c - a - 1∧ov a c (a + 1) (c + 1) = c - a - 1:=fun h=>by unfold ov;omega
  obtain ⟨x0,x1,x2⟩:=o b1
  obtain ⟨y0,y1,y2⟩:=o b2
  obtain ⟨z0,z1,z2⟩:=o b3
  unfold Jd volB Yb
  rw [x0,x1,x2,y0,y1,y2,z0,z1,z2]
  generalize b.Hi.X - b.Lo.X = x
  generalize b.Hi.Y - b.Lo.Y = y
  generalize b.Hi.Z - b.Lo.Z = z
  simp only [Int.sub_mul,Int.mul_sub,Int.one_mul,Int.mul_one,Int.mul_assoc]
  omega
noncomputable def q94 (N : Nat) (P : Int→Int→Int→Prop) : Int:=
  (cnt3 N (fun x y z=>P x y z∧¬ P (x + 1) y z) + cnt3 N (fun x y z=>P x y z∧¬ P (x - 1) y z)) +
  (cnt3 N (fun x y z=>P x y z∧¬ P x (y + 1) z) + cnt3 N (fun x y z=>P x y z∧¬ P x (y - 1) z)) +
  (cnt3 N (fun x y z=>P x y z∧¬ P x y (z + 1)) + cnt3 N (fun x y z=>P x y z∧¬ P x y (z - 1)))
def Je (l : List qd) : Int:=sumL Yb l - 2 * Z6 Qt l l.length
def vBN (N : Nat) (b : qd) : Prop:=ltB b∧(-(N : Int)≤b.Lo.X∧-(N : Int)≤b.Lo.Y∧-(N : Int)≤b.Lo.Z)∧b.Hi.X≤N∧b.Hi.Y≤N∧b.Hi.Z≤N
theorem q42 {N : Nat} {l : List qd} (hc : ∀ x y z,cntB l x y z = ind (hasB l x y z)) (h : ∀ b∈l,vBN N b) (dx dy dz : Int) :
    cnt3 N (fun x y z=>hasB l x y z∧¬ hasB l (x + dx) (y + dy) (z + dz)) = volL l - sumL (fun b=>sumL (fun c=>ov b.Lo.X b.Hi.X (c.Lo.X - dx) (c.Hi.X - dx) * (ov b.Lo.Y b.Hi.Y (c.Lo.Y - dy) (c.Hi.Y - dy) * ov b.Lo.Z b.Hi.Z (c.Lo.Z - dz) (c.Hi.Z - dz))) l) l:=by
  have e1 : ∀ x y z,ind (hasB l x y z∧¬ hasB l (x + dx) (y + dy) (z + dz)) = ind (hasB l x y z) - sumL (fun b=>sumL (fun c=>ind (inB b x y z) * ind ((c.Lo.X - dx≤x∧x < c.Hi.X - dx)∧(c.Lo.Y - dy≤y∧y < c.Hi.Y - dy)∧(c.Lo.Z - dz≤z∧z < c.Hi.Z - dz))) l) l:=fun x y z=>by
    have e2 : sumL (fun b=>sumL (fun c=>ind (inB b x y z) * ind ((c.Lo.X - dx≤x∧x < c.Hi.X - dx)∧(c.Lo.Y - dy≤y∧y < c.Hi.Y - dy)∧(c.Lo.Z - dz≤z∧z < c.Hi.Z - dz))) l) l = ind (hasB l x y z) * ind (hasB l (x + dx) (y + dy) (z + dz)):=by
      rw [← hc,← hc]
      have e3 : ∀ b : qd,sumL (fun c : qd=>ind (inB b x y z) * ind ((c.Lo.X - dx≤x∧x < c.Hi.X - dx)∧(c.Lo.Y - dy≤y∧y < c.Hi.Y - dy)∧(c.Lo.Z - dz≤z∧z < c.Hi.Z - dz))) l = cntB l (x + dx) (y + dy) (z + dz) * ind (inB b x y z):=fun b=>by
        rw [q93,Int.mul_comm]
        unfold cntB
        rw [Zm fun c _=>q1e (q:=inB c (x + dx) (y + dy) (z + dz)) ⟨fun h=>by unfold inB;omega,fun h=>by unfold inB at h;omega⟩]
      simp only [e3]
      rw [q93,Int.mul_comm]
      rfl
    rw [e2,q4a,qnz,Int.mul_sub,Int.mul_one]
  unfold cnt3
  simp only [e1,qxr]
  have e4 : (sumZ N fun x=>sumZ N fun y=>sumZ N fun z=>ind (hasB l x y z)) = volL l:=(qy8 hc fun b hb=>by have:=h b hb;unfold vBN ltB at this;omega).symm
  rw [e4]
  congr 1
  simp only [← qb1]
  refine Zm fun b hb=>Zm fun c hcm=>?_
  have:=h b hb
  unfold vBN at this
  exact qm8 this.2
theorem qfd {l : List qd} (hc : ∀ x y z,cntB l x y z = ind (hasB l x y z)) : l.Pairwise fun b c=>∀ x y z,¬ (inB b x y z∧inB c x y z):=by
  have key : ∀ l : List qd,(∀ x y z,cntB l x y z≤1)→l.Pairwise fun b c=>∀ x y z,¬ (inB b x y z∧inB c x y z):=by
    intro l
    induction l with
    | nil=>intro _;exact .nil
    | cons b l ih=>
      intro h
      have nn : ∀ (l : List qd) x y z,0≤cntB l x y z:=fun l x y z=>by
        unfold cntB;induction l with
        | nil=>exact Int.le_refl _
        | cons c l ih=>have:=(q4b (p:=inB c x y z)).1;rw [sumL];omega
      have hh : ∀ x y z,ind (inB b x y z) + cntB l x y z≤1:=h
      refine List.pairwise_cons.2 ⟨fun c hc x y z ⟨h1,h2⟩=>?_,ih fun x y z=>by have:=hh x y z;have:=(q4b (p:=inB b x y z)).1;omega⟩
      have h3:=hh x y z
      rw [q4c h1] at h3
      have h4 : ∀ l : List qd,c∈l→1≤cntB l x y z:=by
        intro l
        induction l with
        | nil=>intro h;cases h
        | cons d l ih2=>
          intro hm
          have e : cntB (d::l) x y z = ind (inB d x y z) + cntB l x y z:=rfl
          rcases List.mem_cons.1 hm with rfl | hm
          · have:=nn l x y z;rw [e,q4c h2];omega
          · have:=ih2 hm;have:=(q4b (p:=inB d x y z)).1;rw [e];omega
      have:=h4 l hc
      omega
  exact key l fun x y z=>by rw [hc];exact q4b.2
theorem qxt {N : Nat} {l : List qd} (hc : ∀ x y z,cntB l x y z = ind (hasB l x y z)) (h : ∀ b∈l,vBN N b) : Je l = q94 N (hasB l):=by
  have hd:=qfd hc
  have e1:=q42 hc h 1 0 0
  have e2:=q42 hc h (-1) 0 0
  have e3:=q42 hc h 0 1 0
  have e4:=q42 hc h 0 (-1) 0
  have e5:=q42 hc h 0 0 1
  have e6:=q42 hc h 0 0 (-1)
  simp only [Int.add_zero,Int.sub_zero,Int.sub_neg,← Int.sub_eq_add_neg] at e1 e2 e3 e4 e5 e6
  unfold q94
  rw [e1,e2,e3,e4,e5,e6]
  have e7 : sumL (fun b=>sumL (fun c=>Jd b c) l) l = 6 * volL l - sumL Yb l + 2 * Z6 Qt l l.length:=by
    have h1:=qe3 Jd Qt (l:=l) (List.Pairwise.imp_of_mem (fun {b c} hb hcm hdis=>⟨qk1 (h b hb).1 (h c hcm).1 hdis,qk1 (h c hcm).1 (h b hb).1 fun x y z hh=>hdis x y z ⟨hh.2,hh.1⟩⟩) hd) l.length (Nat.le_refl _)
    have h2:=qdc Qt qfk l l.length (Nat.le_refl _)
    rw [List.take_length] at h1 h2
    simp only [qb0] at h1
    have h3 : sumL (fun b=>6 * volB b - Jd b b) l = sumL Yb l:=Zm fun b hb=>qxg (h b hb).1
    rw [qb0,q93] at h3
    unfold volL
    have h4 : sumL (fun b=>sumL (fun c=>Jd b c) l) l - sumL (fun b=>sumL (fun c=>Qt b c) l) l = sumL (fun b=>Jd b b) l - sumL (fun b=>Qt b b) l:=h1
    omega
  unfold Je
  unfold Jd at e7
  simp only [qaz] at e7
  omega
theorem q3t {b : qd} (h : vB b) : vBN 1000000 b:=by unfold vB at h;unfold vBN ltB;omega
theorem qxs {l : List qd} (hc : CanB l) (h : ∀ b∈l,vB b) : Je l = q94 1000000 (hasB l):=qxt hc.cnt fun b hb=>q3t (h b hb)
end Go.Sh
