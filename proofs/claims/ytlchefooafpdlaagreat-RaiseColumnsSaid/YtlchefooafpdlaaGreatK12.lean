/- Qa1 Qa2 Qa3 Rs1 Rs2 Rs3 Qb1 Rs4 Qb2 Pf3 Rs5 Rs6 Rs7 Rs8 -/
import Derived.Test.YtlchefooafpdlaaGreatK11
namespace Go.Sh
open Go Go.Am
structure Grp (σ : Type) where
  lo : Int
  hi : Int
  sec : List σ
section
variable {σ β : Type}
def CanG (gs : List (Grp σ)) : Prop:=(∀ g∈gs,g.lo < g.hi∧g.sec≠[])∧gs.Pairwise (fun g h=>g.hi≤h.lo∧(g.hi = h.lo→g.sec≠h.sec))
def secG : List (Grp σ)→Int→List σ
  | [],_=>[]
  | g::r,x=>if g.lo≤x∧x < g.hi then g.sec else secG r x
def Ka (put : Int→Int→σ→β) (gs : List (Grp σ)) : List β:=gs.flatMap fun g=>g.sec.map (put g.lo g.hi)
theorem qo6 (put : Int→Int→σ→β) (a b : List (Grp σ)) : Ka put (a ++ b) = Ka put a ++ Ka put b:=by simp [Ka]
theorem q1x {y x : Int} : ∀ {r : List (Grp σ)},(∀ h∈r,y≤h.lo)→x < y→secG r x = []
  | [],_,_=>rfl
  | g::r,h,hx=>by
    have:=h g (by simp)
    rw [secG,if_neg (by omega)]
    exact q1x (fun k hk=>h k (by simp [hk])) hx
theorem q5c {y x : Int} : ∀ {r : List (Grp σ)},(∀ h∈r,h.hi≤y)→y≤x→secG r x = []
  | [],_,_=>rfl
  | g::r,h,hx=>by
    have:=h g (by simp)
    rw [secG,if_neg (by omega)]
    exact q5c (fun k hk=>h k (by simp [hk])) hx
theorem q7v {x : Int} : ∀ {a b : List (Grp σ)},secG a x = []→(∀ g∈a,g.sec≠[])→secG (a ++ b) x = secG b x
  | [],_,_,_=>rfl
  | g::a,b,h,hne=>by
    rw [secG] at h
    split at h
    · exact absurd h (hne g (by simp))
    · rename_i hx
      rw [List.cons_append,secG,if_neg hx]
      exact q7v h fun k hk=>hne k (by simp [hk])
theorem qe7 {y x : Int} {a b : List (Grp σ)} (hb : ∀ h∈b,y≤h.lo) (hx : x < y) : secG (a ++ b) x = secG a x:=by
  induction a with
  | nil=>exact q1x hb hx
  | cons g a ih=>simp only [List.cons_append,secG,ih]
theorem CanG.tail {g : Grp σ} {r : List (Grp σ)} (h : CanG (g::r)) : CanG r:=⟨fun k hk=>h.1 k (by simp [hk]),(List.pairwise_cons.1 h.2).2⟩
theorem CanG.nxt {g : Grp σ} {r : List (Grp σ)} (h : CanG (g::r)) : ∀ k∈r,g.hi≤k.lo∧(g.hi = k.lo→g.sec≠k.sec):=(List.pairwise_cons.1 h.2).1
theorem q1w {g : Grp σ} {r : List (Grp σ)} {x : Int} (h1 : g.lo≤x) (h2 : x < g.hi) : secG (g::r) x = g.sec:=by rw [secG,if_pos ⟨h1,h2⟩]
theorem qug {g : Grp σ} {r : List (Grp σ)} (h : CanG (g::r)) : secG (g::r) g.hi≠g.sec:=by
  rw [secG,if_neg (by omega)]
  cases r with
  | nil=>exact fun e=>(h.1 g (by simp)).2 e.symm
  | cons k r=>
    have hk:=h.nxt k (by simp)
    have hk2:=h.tail.1 k (by simp)
    by_cases he : g.hi = k.lo
    · rw [q1w (by omega) (by omega)];exact fun e=>hk.2 he e.symm
    · rw [secG,if_neg (by omega),q1x (y:=k.hi) (fun m hm=>(h.tail.nxt m hm).1) (by omega)]
      exact fun e=>(h.1 g (by simp)).2 e.symm
theorem qc2 : ∀ {a b : List (Grp σ)},CanG a→CanG b→(∀ x,secG a x = secG b x)→a = b
  | [],[],_,_,_=>rfl
  | [],g::r,_,hb,h=>by
    have:=h g.lo
    rw [q1w (Int.le_refl _) (hb.1 g (by simp)).1] at this
    exact absurd this.symm (hb.1 g (by simp)).2
  | g::r,[],ha,_,h=>by
    have:=h g.lo
    rw [q1w (Int.le_refl _) (ha.1 g (by simp)).1] at this
    exact absurd this (ha.1 g (by simp)).2
  | g::r,k::s,ha,hb,h=>by
    have hg:=ha.1 g (by simp)
    have hk:=hb.1 k (by simp)
    have low : ∀ {g k : Grp σ} {r s : List (Grp σ)},CanG (g::r)→CanG (k::s)→(∀ x,secG (g::r) x = secG (k::s) x)→k.lo≤g.lo:=by
      intro g k r s ha hb h
      refine Int.not_lt.1 fun hlt=>?_
      have h1:=h g.lo
      rw [q1w (Int.le_refl _) (ha.1 g (by simp)).1,q1x (y:=k.lo) (fun m hm=>?_) hlt] at h1
      · exact (ha.1 g (by simp)).2 h1
      · rcases List.mem_cons.1 hm with rfl | hm
        · exact Int.le_refl _
        · have:=(hb.nxt m hm).1;have:=(hb.1 k (by simp)).1;omega
    have e1 : g.lo = k.lo:=Int.le_antisymm (low hb ha fun x=>(h x).symm) (low ha hb h)
    have e2 : g.sec = k.sec:=by
      have h1:=h g.lo
      rwa [q1w (Int.le_refl _) hg.1,q1w (by omega) (by omega)] at h1
    have hi : ∀ {g k : Grp σ} {r s : List (Grp σ)},CanG (g::r)→CanG (k::s)→(∀ x,secG (g::r) x = secG (k::s) x)→g.lo = k.lo→g.sec = k.sec→k.hi≤g.hi:=by
      intro g k r s ha hb h e1 e2
      refine Int.not_lt.1 fun hlt=>?_
      have h1:=h g.hi
      have:=(ha.1 g (by simp)).1
      rw [q1w (g:=k) (by omega) hlt,← e2] at h1
      exact qug ha h1
    have e3 : g.hi = k.hi:=Int.le_antisymm (hi hb ha (fun x=>(h x).symm) e1.symm e2.symm) (hi ha hb h e1 e2)
    have e : g = k:=by cases g;cases k;simp at e1 e2 e3;simp [e1,e2,e3]
    subst e
    have : r = s:=qc2 ha.tail hb.tail fun x=>by
      by_cases hx : x < g.hi
      · rw [q1x (y:=g.hi) (fun m hm=>(ha.nxt m hm).1) hx,q1x (y:=g.hi) (fun m hm=>(hb.nxt m hm).1) hx]
      · have h1:=h x
        rwa [secG,secG,if_neg (by omega),if_neg (by omega)] at h1
    rw [this]
def curG (s : Mg σ β) : List (Grp σ):=if s.sec = [] then [] else [⟨s.lo,s.hi,s.sec⟩]
def secC (sec : Int→List σ) : List Int→Int→List σ
  | a::b::r,x=>if a≤x∧x < b then sec a else secC sec (b::r) x
  | _,_=>[]
theorem qgr (put : Int→Int→σ→β) (s : Mg σ β) (gs : List (Grp σ)) (h : s.done = Ka put gs) : s.flat put = Ka put (gs ++ curG s):=by
  rw [qo6,Mg.flat,h]
  unfold curG
  split
  · rename_i h1;simp [h1,Ka]
  · simp [Ka]
theorem qaj {s : Mg σ β} {g : Grp σ} (h : g∈curG s) : s.sec≠[]∧g = ⟨s.lo,s.hi,s.sec⟩:=by
  unfold curG at h;split at h
  · cases h
  · rename_i hn;exact ⟨hn,by simpa using h⟩
theorem qaz (sec : Int→List σ) {x : Int} : ∀ {cuts : List Int},cuts.Pairwise (· < ·)→
    (∀ a∈cuts,a≤x→(∀ c∈cuts,c≤a∨x < c)→sec a = sec x)→((∀ c∈cuts,x < c)→sec x = [])→((∀ c∈cuts,c≤x)→sec x = [])→secC sec cuts x = sec x
  | [],_,_,h2,_=>(h2 (by simp)).symm
  | [a],_,_,h2,h3=>by
    rw [secC]
    · by_cases hx : x < a
      · exact (h2 (by simpa using hx)).symm
      · exact (h3 (by simpa using hx)).symm
    · intro a b r h;simp at h
  | a::b::r,hp,h1,h2,h3=>by
    have hab : a < b:=(List.pairwise_cons.1 hp).1 b (by simp)
    have hbr:=(List.pairwise_cons.1 (List.pairwise_cons.1 hp).2).1
    rw [secC]
    split
    · rename_i hx
      refine h1 a (by simp) hx.1 fun c hc=>?_
      rcases List.mem_cons.1 hc with rfl | hc
      · exact .inl (Int.le_refl _)
      · rcases List.mem_cons.1 hc with rfl | hc
        · exact .inr hx.2
        · have:=hbr c hc;exact .inr (by omega)
    · rename_i hx
      by_cases hxa : x < a
      · have e : sec x = []:=h2 fun c hc=>by
          rcases List.mem_cons.1 hc with rfl | hc
          · exact hxa
          · have:=(List.pairwise_cons.1 hp).1 c hc;omega
        have:=qaz sec (x:=x) (List.pairwise_cons.1 hp).2 (fun a' ha' hle _=>by
          exfalso;have:=(List.pairwise_cons.1 hp).1 a' ha';omega) (fun _=>e) (fun _=>e)
        exact this
      · have hbx : b≤x:=by omega
        exact qaz sec (List.pairwise_cons.1 hp).2 (fun a' ha' hle hall=>h1 a' (by simp [ha']) hle fun c hc=>by
          rcases List.mem_cons.1 hc with rfl | hc
          · have:=(List.pairwise_cons.1 hp).1 a' ha';exact .inl (by omega)
          · exact hall c hc) (fun hall=>by have:=hall b (by simp);omega) (fun hall=>h3 fun c hc=>by
          rcases List.mem_cons.1 hc with rfl | hc
          · omega
          · exact hall c hc)
variable [DecidableEq σ] (put : Int→Int→σ→β)
structure InvG (s : Mg σ β) (gs : List (Grp σ)) (c : Int) : Prop where
  done : s.done = Ka put gs
  can : CanG (gs ++ curG s)
  le : ∀ g∈gs ++ curG s,g.hi≤c
  gap : s.sec = []→∀ g∈gs,g.hi = c→False
theorem qp4 {s : Mg σ β} {gs : List (Grp σ)} {a b : Int} {c : List σ} (hab : a < b) (hi : InvG put s gs a) :
    ∃ gs',InvG put (addM put s a b c) gs' b∧∀ x,secG (gs' ++ curG (addM put s a b c)) x = if a≤x∧x < b then c else secG (gs ++ curG s) x:=by
  rcases Jm put s a b c with ⟨h1,h2,h3,h4⟩ | ⟨h1,h4⟩
  · rw [h4]
    have hs : s.sec≠[]:=h2 ▸ h1
    have c1 : curG s = [⟨s.lo,s.hi,s.sec⟩]:=by unfold curG;rw [if_neg hs]
    have c2 : curG (⟨s.done,s.sec,s.lo,b⟩ : Mg σ β) = [⟨s.lo,b,s.sec⟩]:=by unfold curG;rw [if_neg hs]
    have hcan:=hi.can
    rw [c1] at hcan
    have hlo : s.lo < s.hi:=(hcan.1 ⟨s.lo,s.hi,s.sec⟩ (by simp)).1
    refine ⟨gs,⟨hi.done,?_,?_,fun h=>absurd h hs⟩,?_⟩
    · rw [c2]
      refine ⟨fun g hg=>?_,?_⟩
      · rcases List.mem_append.1 hg with hg | hg
        · exact hcan.1 g (by simp [hg])
        · obtain rfl:=List.mem_singleton.1 hg;exact ⟨by simp only;omega,hs⟩
      · have:=List.pairwise_append.1 hcan.2
        refine List.pairwise_append.2 ⟨this.1,by simp,fun g hg k hk=>?_⟩
        obtain rfl:=List.mem_singleton.1 hk
        exact this.2.2 g hg ⟨s.lo,s.hi,s.sec⟩ (by simp)
    · rw [c2]
      intro g hg
      rcases List.mem_append.1 hg with hg | hg
      · have:=hi.le g (by simp [hg]);omega
      · obtain rfl:=List.mem_singleton.1 hg;exact Int.le_refl _
    · intro x
      rw [c1,c2]
      have hg0 : ∀ g∈gs,g.hi≤s.lo:=fun g hg=>((List.pairwise_append.1 hcan.2).2.2 g hg ⟨s.lo,s.hi,s.sec⟩ (by simp)).1
      have hgn : ∀ g∈gs,g.sec≠[]:=fun g hg=>(hcan.1 g (by simp [hg])).2
      by_cases hx : x < s.lo
      · rw [if_neg (by omega),qe7 (y:=s.lo) (by simp) hx,qe7 (y:=s.lo) (by simp) hx]
      · have e : secG gs x = []:=q5c hg0 (by omega)
        rw [q7v e hgn,q7v e hgn]
        simp only [secG]
        by_cases hx2 : x < s.hi
        · rw [if_pos ⟨by omega,by omega⟩,if_neg (by omega),if_pos ⟨by omega,hx2⟩]
        · by_cases hx3 : x < b
          · rw [if_pos ⟨by omega,hx3⟩,if_pos ⟨by omega,hx3⟩,h2]
          · rw [if_neg (by omega),if_neg (by omega),if_neg (by omega)]
  · rw [h4]
    have hd : s.flat put = Ka put (gs ++ curG s):=qgr put s gs hi.done
    refine ⟨gs ++ curG s,⟨hd,?_,?_,?_⟩,?_⟩
    · by_cases hc : c = []
      · have : curG (⟨s.flat put,c,a,b⟩ : Mg σ β) = []:=by unfold curG;rw [if_pos hc]
        rw [this,List.append_nil];exact hi.can
      · have : curG (⟨s.flat put,c,a,b⟩ : Mg σ β) = [⟨a,b,c⟩]:=by unfold curG;rw [if_neg hc]
        rw [this]
        refine ⟨fun g hg=>?_,List.pairwise_append.2 ⟨hi.can.2,by simp,fun g hg k hk=>?_⟩⟩
        · rcases List.mem_append.1 hg with hg | hg
          · exact hi.can.1 g hg
          · obtain rfl:=List.mem_singleton.1 hg;exact ⟨hab,hc⟩
        · obtain rfl:=List.mem_singleton.1 hk
          refine ⟨hi.le g hg,fun he hsec=>?_⟩
          rcases List.mem_append.1 hg with hg' | hg'
          · by_cases hs : s.sec = []
            · exact hi.gap hs g hg' he
            · have h5 : (⟨s.lo,s.hi,s.sec⟩ : Grp σ)∈curG s:=by unfold curG;rw [if_neg hs];simp
              have h6:=((List.pairwise_append.1 hi.can.2).2.2 g hg' _ h5).1
              have h7:=(hi.can.1 _ (List.mem_append.2 (.inr h5))).1
              have h8:=hi.le _ (List.mem_append.2 (.inr h5))
              simp only at he h6 h7 h8
              omega
          · obtain ⟨hs,rfl⟩:=qaj hg'
            exact h1 ⟨hc,hsec.symm,he⟩
    · intro g hg
      rcases List.mem_append.1 hg with hg | hg
      · have:=hi.le g hg;omega
      · obtain ⟨_,rfl⟩:=qaj hg;exact Int.le_refl _
    · intro hc g hg he
      have:=hi.le g hg;omega
    · intro x
      by_cases hx : a≤x∧x < b
      · rw [if_pos hx,q7v (q5c hi.le hx.1) fun g hg=>(hi.can.1 g hg).2]
        unfold curG
        split
        · rename_i hc;simp only at hc;rw [hc];rfl
        · simp only [secG];rw [if_pos hx]
      · rw [if_neg hx]
        by_cases hxa : x < a
        · exact qe7 (y:=a) (fun g hg=>by obtain ⟨_,rfl⟩:=qaj hg;exact Int.le_refl _) hxa
        · have e:=q5c (x:=x) hi.le (by omega)
          rw [q7v e fun g hg=>(hi.can.1 g hg).2,e]
          exact q5c (y:=b) (fun g hg=>by obtain ⟨_,rfl⟩:=qaj hg;exact Int.le_refl _) (by omega)
theorem qjm (sec : Int→List σ) : ∀ (cuts : List Int) (c : Int) (s : Mg σ β) (gs : List (Grp σ)),(c::cuts).Pairwise (· < ·)→InvG put s gs c→
    ∃ gs',(runM put sec s (c::cuts)).flat put = Ka put gs'∧CanG gs'∧∀ x,secG gs' x = if x < c then secG (gs ++ curG s) x else secC sec (c::cuts) x
  | [],c,s,gs,_,hi=>by
    refine ⟨gs ++ curG s,qgr put s gs hi.done,hi.can,fun x=>?_⟩
    by_cases hx : x < c
    · rw [if_pos hx]
    · rw [if_neg hx];exact q5c hi.le (by omega)
  | b::cuts,a,s,gs,hp,hi=>by
    have hab : a < b:=(List.pairwise_cons.1 hp).1 b (by simp)
    obtain ⟨gs',hi',hs'⟩:=qp4 (b:=b) (c:=sec a) put hab hi
    obtain ⟨gs2,e1,e2,e3⟩:=qjm sec cuts b _ gs' (List.pairwise_cons.1 hp).2 hi'
    refine ⟨gs2,e1,e2,fun x=>?_⟩
    rw [e3 x]
    by_cases hx : x < a
    · rw [if_pos (by omega),if_pos hx,hs',if_neg (by omega)]
    · rw [if_neg hx]
      simp only [secC]
      by_cases hxb : x < b
      · rw [if_pos hxb,hs',if_pos ⟨by omega,hxb⟩,if_pos ⟨by omega,hxb⟩]
      · rw [if_neg hxb,if_neg (by omega)]
theorem qib (sec : Int→List σ) {cuts : List Int} (hc : cuts.Pairwise (· < ·)) :
    ∃ gs,(Ql put Qi (Y3 cuts sec)).flat put = Ka put gs∧CanG gs∧∀ x,secG gs x = secC sec cuts x:=by
  rw [qgt]
  cases cuts with
  | nil=>exact ⟨[],rfl,⟨by simp,by simp⟩,fun x=>rfl⟩
  | cons c cuts=>
    obtain ⟨gs,e1,e2,e3⟩:=qjm put sec cuts c (Qi : Mg σ β) [] hc ⟨rfl,⟨by simp [curG,Qi],by simp [curG,Qi]⟩,by simp [curG,Qi],by simp⟩
    refine ⟨gs,e1,e2,fun x=>?_⟩
    rw [e3 x]
    split
    · rename_i hx
      have : ∀ (cuts : List Int) (c : Int),(c::cuts).Pairwise (· < ·)→x < c→secC sec (c::cuts) x = []:=by
        intro cuts
        induction cuts with
        | nil=>intros;rfl
        | cons b r ih=>
          intro c hp hx
          rw [secC,if_neg (by omega)]
          exact ih b (List.pairwise_cons.1 hp).2 (by have:=(List.pairwise_cons.1 hp).1 b (by simp);omega)
      rw [this cuts c hc hx];rfl
    · rfl
end
end Go.Sh
namespace Go.Sh
open Go Go.Am
section
variable {σ : Type}
theorem qe9 {x : Int} : ∀ (gs : List (Grp σ)),secG gs x = []∨∃ g∈gs,g.lo≤x∧x < g.hi∧secG gs x = g.sec
  | []=>.inl rfl
  | g::r=>by
    by_cases hx : g.lo≤x∧x < g.hi
    · exact .inr ⟨g,by simp,hx.1,hx.2,by rw [secG,if_pos hx]⟩
    · rw [secG,if_neg hx]
      rcases qe9 r with h | ⟨k,hk,h⟩
      · exact .inl h
      · exact .inr ⟨k,by simp [hk],h⟩
theorem qe8 : ∀ {gs : List (Grp σ)},CanG gs→∀ g∈gs,∀ x,g.lo≤x→x < g.hi→secG gs x = g.sec
  | k::r,h,g,hg,x,h1,h2=>by
    rcases List.mem_cons.1 hg with rfl | hg
    · exact q1w h1 h2
    · have:=(h.nxt g hg).1
      rw [secG,if_neg (by omega)]
      exact qe8 h.tail g hg x h1 h2
end
theorem qhq (kind : Int) : Jf kind [] [] = []:=by
  have hj:=(q2m kind [] [] (by simp) (by simp)).2
  refine q48 hj.can ⟨by simp,by simp⟩ fun x=>?_
  rw [hj.pts]
  have:=U2 x
  unfold Kn;simp [this]
theorem qng (a b : List qf) (x : Int) : covS (a ++ b) x = covS a x ++ covS b x:=by simp [covS]
theorem qni (s : List qj) (lo hi x : Int) : covS (s.map (putR lo hi)) x = if lo≤x∧x < hi then s else []:=by
  induction s with
  | nil=>simp [covS]
  | cons t s ih=>
    have e : covS (List.map (putR lo hi) (t::s)) x = (if covR x (putR lo hi t) = true then [t] else []) ++ covS (s.map (putR lo hi)) x:=rfl
    rw [e,ih]
    have : covR x (putR lo hi t) = (decide (lo≤x) && decide (x < hi)):=rfl
    rw [this]
    by_cases h1 : lo≤x <;> by_cases h2 : x < hi <;> simp [h1,h2]
theorem q6q : ∀ {gs : List (Grp qj)},CanG gs→∀ x,covS (Ka putR gs) x = secG gs x
  | [],_,x=>rfl
  | g::r,h,x=>by
    have e : Ka putR (g::r) = g.sec.map (putR g.lo g.hi) ++ Ka putR r:=rfl
    rw [e,qng,qni,q6q h.tail x]
    by_cases hx : g.lo≤x∧x < g.hi
    · rw [if_pos hx,secG,if_pos hx,q1x (y:=g.hi) (fun m hm=>(h.nxt m hm).1) hx.2,List.append_nil]
    · rw [if_neg hx,secG,if_neg hx,List.nil_append]
theorem qg6 {l : List qf} {a x : Int} (h : ∀ r∈l,covR a r = covR x r) : covS l a = covS l x:=by
  induction l with
  | nil=>rfl
  | cons r l ih=>
    have e : ∀ y,covS (r::l) y = (if covR y r = true then [ysp r] else []) ++ covS l y:=fun _=>rfl
    rw [e,e,h r (by simp),ih fun k hk=>h k (by simp [hk])]
theorem q9w {l : List qf} {x : Int} (h : ∀ r∈l,covR x r = false) : covS l x = []:=by
  induction l with
  | nil=>rfl
  | cons r l ih=>
    have e : covS (r::l) x = (if covR x r = true then [ysp r] else []) ++ covS l x:=rfl
    rw [e,h r (by simp),ih fun k hk=>h k (by simp [hk])];rfl
theorem q4a {x : Int} {r : qf} : covR x r = true↔r.X0≤x∧x < r.X1:=by simp [covR]
theorem qi9 {p q : List qf} {r : qf} (h : r∈p∨r∈q) : r.X0∈xsOf p ++ xsOf q∧r.X1∈xsOf p ++ xsOf q:=by
  unfold xsOf
  simp only [List.mem_append,List.mem_flatMap]
  rcases h with h | h
  · exact ⟨.inl ⟨r,h,by simp⟩,.inl ⟨r,h,by simp⟩⟩
  · exact ⟨.inr ⟨r,h,by simp⟩,.inr ⟨r,h,by simp⟩⟩
theorem qie (kind : Int) {p q : List qf} (h : p.length + q.length≤100000) :
    ∃ gs,mrgR kind p q = Ka putR gs∧CanG gs∧∀ x,secG gs x = secJ kind p q x:=by
  have l1:=q11 p
  have l2:=q11 q
  have hs:=(Jp (l:=xsOf p ++ xsOf q) (by simp;omega)).2.1
  obtain ⟨gs,e1,e2,e3⟩:=qib putR (secJ kind p q) hs.1
  refine ⟨gs,e1,e2,fun x=>?_⟩
  rw [e3]
  have hm : ∀ r,(r∈p∨r∈q)→r.X0∈Qj (xsOf p ++ xsOf q)∧r.X1∈Qj (xsOf p ++ xsOf q):=fun r hr=>
    ⟨(hs.2 _).2 (qi9 hr).1,(hs.2 _).2 (qi9 hr).2⟩
  refine qaz _ hs.1 (fun a _ hax hall=>?_) (fun hall=>?_) (fun hall=>?_)
  · have hc : ∀ r,(r∈p∨r∈q)→covR a r = covR x r:=fun r hr=>by
      have h1:=hall _ (hm r hr).1
      have h2:=hall _ (hm r hr).2
      rw [Bool.eq_iff_iff,q4a,q4a];omega
    unfold secJ
    rw [qg6 fun r hr=>hc r (.inl hr),qg6 fun r hr=>hc r (.inr hr)]
  · have hc : ∀ r,(r∈p∨r∈q)→covR x r = false:=fun r hr=>by
      have h1:=hall _ (hm r hr).1
      rw [← Bool.not_eq_true,q4a];omega
    unfold secJ
    rw [q9w fun r hr=>hc r (.inl hr),q9w fun r hr=>hc r (.inr hr),qhq]
  · have hc : ∀ r,(r∈p∨r∈q)→covR x r = false:=fun r hr=>by
      have h1:=hall _ (hm r hr).2
      rw [← Bool.not_eq_true,q4a];omega
    unfold secJ
    rw [q9w fun r hr=>hc r (.inl hr),q9w fun r hr=>hc r (.inr hr),qhq]
def CanR (l : List qf) : Prop:=∃ gs : List (Grp qj),l = Ka putR gs∧CanG gs∧∀ g∈gs,Can g.sec
theorem qm5 : Can []:=⟨by simp,by simp⟩
theorem CanR.nil : CanR []:=⟨[],rfl,⟨by simp,by simp⟩,by simp⟩
theorem CanR.cov {l : List qf} (h : CanR l) (x : Int) : Can (covS l x):=by
  obtain ⟨gs,rfl,h1,h2⟩:=h
  rw [q6q h1]
  rcases qe9 (x:=x) gs with e | ⟨g,hg,_,_,e⟩
  · rw [e];exact qm5
  · rw [e];exact h2 g hg
theorem qc3 {a b : List qf} (ha : CanR a) (hb : CanR b) (h : ∀ x y,hasR a x y↔hasR b x y) : a = b:=by
  have hc : ∀ x,covS a x = covS b x:=fun x=>q48 (ha.cov x) (hb.cov x) fun y=>by rw [U1,U1];exact h x y
  obtain ⟨ga,rfl,h1,_⟩:=ha
  obtain ⟨gb,rfl,h2,_⟩:=hb
  rw [qc2 h1 h2 fun x=>by rw [← q6q h1,← q6q h2];exact hc x]
theorem qjt (kind : Int) {p q : List qf} (h : p.length + q.length≤100000) (x : Int) : q9j kind (covS p x) (covS q x) (secJ kind p q x):=by
  have h1:=q14 p x
  have h2:=q14 q x
  exact (q2m kind (covS p x) (covS q x) (by omega) (by omega)).2
theorem q7a (kind : Int) {p q : List qf} (h : p.length + q.length≤100000) : CanR (mrgR kind p q):=by
  obtain ⟨gs,e1,e2,e3⟩:=qie kind h
  refine ⟨gs,e1,e2,fun g hg=>?_⟩
  have:=e3 g.lo
  rw [qe8 e2 g hg _ (Int.le_refl _) (e2.1 g hg).1] at this
  rw [this];exact (qjt kind h _).can
theorem qnh (kind : Int) {p q : List qf} (h : p.length + q.length≤100000) (x : Int) : covS (mrgR kind p q) x = secJ kind p q x:=by
  obtain ⟨gs,e1,e2,e3⟩:=qie kind h
  rw [e1,q6q e2,e3]
theorem qa8 (kind : Int) {p q : List qf} (h : p.length + q.length≤100000) (x y : Int) : hasR (mrgR kind p q) x y↔Kn kind (hasR p x y) (hasR q x y):=by
  rw [← U1,qnh kind h,(qjt kind h x).pts,U1,U1]
theorem qcr (x y : Int) : ¬ hasR [] x y:=by rintro ⟨r,h,_⟩;cases h
theorem qaa {a b : Prop} : Kn 2 a b↔a∨b:=by unfold Kn;simp
theorem qhj {l : List qf} (h : l.length≤100000) (x y : Int) : hasR (mrgR 2 l []) x y↔hasR l x y:=by
  rw [qa8 2 (by simpa using h),qaa];simp [qcr]
theorem qpx {l : List qf} (hl : l.length≤100000) (h : CanR l) : mrgR 2 l [] = l:=
  qc3 (q7a 2 (by simpa using hl)) h fun x y=>qhj hl x y
theorem qi7 {σ β : Type} {put : Int→Int→σ→β} {gs : List (Grp σ)} {r : β} : r∈Ka put gs↔∃ g∈gs,∃ t∈g.sec,r = put g.lo g.hi t:=by
  unfold Ka
  simp only [List.mem_flatMap,List.mem_map]
  exact ⟨fun ⟨g,hg,t,ht,e⟩=>⟨g,hg,t,ht,e.symm⟩,fun ⟨g,hg,t,ht,e⟩=>⟨g,hg,t,ht,e.symm⟩⟩
theorem CanR.lt {l : List qf} (h : CanR l) : ∀ r∈l,r.X0 < r.X1∧r.Y0 < r.Y1:=by
  obtain ⟨gs,rfl,h1,h2⟩:=h
  intro r hr
  obtain ⟨g,hg,t,ht,rfl⟩:=qi7.1 hr
  exact ⟨(h1.1 g hg).1,(h2 g hg).1 t ht⟩
def InR (l : List qf) : Prop:=∀ x y,hasR l x y→(-1000000≤x∧x < 1000000)∧(-1000000≤y∧y < 1000000)
theorem qz3 {l : List qf} (h : ∀ r∈l,vR r) : InR l:=by
  rintro x y ⟨r,hr,h1⟩
  have:=h r hr
  unfold vR at this;omega
theorem CanR.vR {l : List qf} (h : CanR l) (hi : InR l) : ∀ r∈l,vR r:=by
  intro r hr
  have h1:=h.lt r hr
  have h2:=hi r.X0 r.Y0 ⟨r,hr,by omega⟩
  have h3:=hi (r.X1 - 1) (r.Y1 - 1) ⟨r,hr,by omega⟩
  unfold Go.Sh.vR;omega
theorem InR.mrg {kind : Int} {p q : List qf} (h : p.length + q.length≤100000) (hp : InR p) (hq : InR q) : InR (mrgR kind p q):=fun x y hh=>by
  rcases qcu ((qa8 kind h x y).1 hh) with h1 | h1
  · exact hp x y h1
  · exact hq x y h1
theorem InR.nil : InR []:=fun x y h=>absurd h (qcr x y)
theorem qfl {l : List qf} : Yr l = 0↔l.length≤400∧(∀ r∈l,vR r)∧CanR l:=by
  constructor
  · intro h
    obtain ⟨h1,h2,h3⟩:=qfn h
    exact ⟨h1,h2,h3 ▸ q7a 2 (by simp;omega)⟩
  · rintro ⟨h1,h2,h3⟩
    unfold Yr
    rw [if_neg (by omega),if_pos h2,if_pos (qpx (by omega) h3)]
end Go.Sh
namespace Go.Sh
open Go Go.Am
def hasB (l : List qg) (x y z : Int) : Prop:=∃ b∈l,(b.Lo.X≤x∧x < b.Hi.X)∧(b.Lo.Y≤y∧y < b.Hi.Y)∧(b.Lo.Z≤z∧z < b.Hi.Z)
theorem q13 {z : Int} {b : qg} : covB z b = true↔b.Lo.Z≤z∧z < b.Hi.Z:=by simp [covB]
theorem qd4 {l : List qg} {z : Int} {r : qf} : r∈atB l z↔∃ b∈l,(b.Lo.Z≤z∧z < b.Hi.Z)∧r = Yc b:=by
  unfold atB
  rw [List.mem_flatMap]
  constructor
  · rintro ⟨b,hb,h⟩
    split at h
    · rename_i hc;exact ⟨b,hb,q13.1 hc,by simpa using h⟩
    · cases h
  · rintro ⟨b,hb,hc,rfl⟩
    exact ⟨b,hb,by rw [if_pos (q13.2 hc)];simp⟩
theorem q2k {l : List qg} {x y z : Int} : hasR (atB l z) x y↔hasB l x y z:=by
  constructor
  · rintro ⟨r,hr,h1,h2,h3,h4⟩
    obtain ⟨b,hb,hz,rfl⟩:=qd4.1 hr
    exact ⟨b,hb,⟨h1,h2⟩,⟨h3,h4⟩,hz⟩
  · rintro ⟨b,hb,⟨h1,h2⟩,⟨h3,h4⟩,hz⟩
    exact ⟨Yc b,qd4.2 ⟨b,hb,hz,rfl⟩,h1,h2,h3,h4⟩
theorem qcq (x y z : Int) : ¬ hasB [] x y z:=by rintro ⟨r,h,_⟩;cases h
theorem qlq (a b : List qg) (z : Int) : atB (a ++ b) z = atB a z ++ atB b z:=by simp [atB]
theorem qlr (s : List qf) (lo hi z : Int) : atB (s.map (putB lo hi)) z = if lo≤z∧z < hi then s else []:=by
  induction s with
  | nil=>simp [atB]
  | cons t s ih=>
    have e : atB (List.map (putB lo hi) (t::s)) z = (if covB z (putB lo hi t) = true then [t] else []) ++ atB (s.map (putB lo hi)) z:=rfl
    rw [e,ih]
    have : covB z (putB lo hi t) = (decide (lo≤z) && decide (z < hi)):=rfl
    rw [this]
    by_cases h1 : lo≤z <;> by_cases h2 : z < hi <;> simp [h1,h2]
theorem q6i : ∀ {gs : List (Grp qf)},CanG gs→∀ z,atB (Ka putB gs) z = secG gs z
  | [],_,z=>rfl
  | g::r,h,z=>by
    have e : Ka putB (g::r) = g.sec.map (putB g.lo g.hi) ++ Ka putB r:=rfl
    rw [e,qlq,qlr,q6i h.tail z]
    by_cases hx : g.lo≤z∧z < g.hi
    · rw [if_pos hx,secG,if_pos hx,q1x (y:=g.hi) (fun m hm=>(h.nxt m hm).1) hx.2,List.append_nil]
    · rw [if_neg hx,secG,if_neg hx,List.nil_append]
theorem qfa {l : List qg} {a x : Int} (h : ∀ r∈l,covB a r = covB x r) : atB l a = atB l x:=by
  induction l with
  | nil=>rfl
  | cons r l ih=>
    have e : ∀ y,atB (r::l) y = (if covB y r = true then [Yc r] else []) ++ atB l y:=fun _=>rfl
    rw [e,e,h r (by simp),ih fun k hk=>h k (by simp [hk])]
theorem q9q {l : List qg} {x : Int} (h : ∀ r∈l,covB x r = false) : atB l x = []:=by
  induction l with
  | nil=>rfl
  | cons r l ih=>
    have e : atB (r::l) x = (if covB x r = true then [Yc r] else []) ++ atB l x:=rfl
    rw [e,h r (by simp),ih fun k hk=>h k (by simp [hk])];rfl
theorem qia {p q : List qg} {r : qg} (h : r∈p∨r∈q) : r.Lo.Z∈zsOf p ++ zsOf q∧r.Hi.Z∈zsOf p ++ zsOf q:=by
  unfold zsOf
  simp only [List.mem_append,List.mem_flatMap]
  rcases h with h | h
  · exact ⟨.inl ⟨r,h,by simp⟩,.inl ⟨r,h,by simp⟩⟩
  · exact ⟨.inr ⟨r,h,by simp⟩,.inr ⟨r,h,by simp⟩⟩
theorem qda (kind : Int) : mrgR kind [] [] = []:=by
  refine qc3 (q7a kind (by simp)) .nil fun x y=>?_
  rw [qa8 kind (by simp)]
  have:=qcr x y
  unfold Kn;simp [this]
theorem qid (kind : Int) {p q : List qg} (h : p.length + q.length≤100000) :
    ∃ gs,mrgB kind p q = Ka putB gs∧CanG gs∧∀ z,secG gs z = secB kind p q z:=by
  have l1:=Zm p
  have l2:=Zm q
  have hs:=(Jp (l:=zsOf p ++ zsOf q) (by simp;omega)).2.1
  obtain ⟨gs,e1,e2,e3⟩:=qib putB (secB kind p q) hs.1
  refine ⟨gs,e1,e2,fun x=>?_⟩
  rw [e3]
  have hm : ∀ r,(r∈p∨r∈q)→r.Lo.Z∈Qj (zsOf p ++ zsOf q)∧r.Hi.Z∈Qj (zsOf p ++ zsOf q):=fun r hr=>
    ⟨(hs.2 _).2 (qia hr).1,(hs.2 _).2 (qia hr).2⟩
  refine qaz _ hs.1 (fun a _ hax hall=>?_) (fun hall=>?_) (fun hall=>?_)
  · have hc : ∀ r,(r∈p∨r∈q)→covB a r = covB x r:=fun r hr=>by
      have h1:=hall _ (hm r hr).1
      have h2:=hall _ (hm r hr).2
      rw [Bool.eq_iff_iff,q13,q13];omega
    unfold secB
    rw [qfa fun r hr=>hc r (.inl hr),qfa fun r hr=>hc r (.inr hr)]
  · have hc : ∀ r,(r∈p∨r∈q)→covB x r = false:=fun r hr=>by
      have h1:=hall _ (hm r hr).1
      rw [← Bool.not_eq_true,q13];omega
    unfold secB
    rw [q9q fun r hr=>hc r (.inl hr),q9q fun r hr=>hc r (.inr hr),qda]
  · have hc : ∀ r,(r∈p∨r∈q)→covB x r = false:=fun r hr=>by
      have h1:=hall _ (hm r hr).2
      rw [← Bool.not_eq_true,q13];omega
    unfold secB
    rw [q9q fun r hr=>hc r (.inl hr),q9q fun r hr=>hc r (.inr hr),qda]
def CanB (l : List qg) : Prop:=∃ gs : List (Grp qf),l = Ka putB gs∧CanG gs∧∀ g∈gs,CanR g.sec
theorem CanB.nil : CanB []:=⟨[],rfl,⟨by simp,by simp⟩,by simp⟩
theorem CanB.at {l : List qg} (h : CanB l) (z : Int) : CanR (atB l z):=by
  obtain ⟨gs,rfl,h1,h2⟩:=h
  rw [q6i h1]
  rcases qe9 (x:=z) gs with e | ⟨g,hg,_,_,e⟩
  · rw [e];exact .nil
  · rw [e];exact h2 g hg
theorem qm4 {a b : List qg} (ha : CanB a) (hb : CanB b) (h : ∀ x y z,hasB a x y z↔hasB b x y z) : a = b:=by
  have hc : ∀ z,atB a z = atB b z:=fun z=>qc3 (ha.at z) (hb.at z) fun x y=>by rw [q2k,q2k];exact h x y z
  obtain ⟨ga,rfl,h1,_⟩:=ha
  obtain ⟨gb,rfl,h2,_⟩:=hb
  rw [qc2 h1 h2 fun x=>by rw [← q6i h1,← q6i h2];exact hc x]
theorem qfd {p q : List qg} (h : p.length + q.length≤100000) (z : Int) : (atB p z).length + (atB q z).length≤100000:=by
  have:=Jn p z;have:=Jn q z;omega
theorem qic (kind : Int) {p q : List qg} (h : p.length + q.length≤100000) : CanB (mrgB kind p q):=by
  obtain ⟨gs,e1,e2,e3⟩:=qid kind h
  refine ⟨gs,e1,e2,fun g hg=>?_⟩
  have:=e3 g.lo
  rw [qe8 e2 g hg _ (Int.le_refl _) (e2.1 g hg).1] at this
  rw [this];exact q7a kind (qfd h _)
theorem qfb (kind : Int) {p q : List qg} (h : p.length + q.length≤100000) (z : Int) : atB (mrgB kind p q) z = secB kind p q z:=by
  obtain ⟨gs,e1,e2,e3⟩:=qid kind h
  rw [e1,q6i e2,e3]
theorem qhi (kind : Int) {p q : List qg} (h : p.length + q.length≤100000) (x y z : Int) : hasB (mrgB kind p q) x y z↔Kn kind (hasB p x y z) (hasB q x y z):=by
  rw [← q2k,qfb kind h,secB,qa8 kind (qfd h z),q2k,q2k]
theorem qos {l : List qg} (h : l.length≤100000) (x y z : Int) : hasB (mrgB 2 l []) x y z↔hasB l x y z:=by
  rw [qhi 2 (by simpa using h),qaa];simp [qcq]
theorem qpw {l : List qg} (hl : l.length≤100000) (h : CanB l) : mrgB 2 l [] = l:=
  qm4 (qic 2 (by simpa using hl)) h fun x y z=>qos hl x y z
theorem CanB.lt {l : List qg} (h : CanB l) : ∀ b∈l,b.Lo.X < b.Hi.X∧b.Lo.Y < b.Hi.Y∧b.Lo.Z < b.Hi.Z:=by
  obtain ⟨gs,rfl,h1,h2⟩:=h
  intro r hr
  obtain ⟨g,hg,t,ht,rfl⟩:=qi7.1 hr
  have:=(h2 g hg).lt t ht
  exact ⟨this.1,this.2,(h1.1 g hg).1⟩
def vB (b : qg) : Prop:=(b.Lo.X < b.Hi.X∧b.Lo.Y < b.Hi.Y∧b.Lo.Z < b.Hi.Z)∧(-1000000≤b.Lo.X∧-1000000≤b.Lo.Y∧-1000000≤b.Lo.Z)∧b.Hi.X≤1000000∧b.Hi.Y≤1000000∧b.Hi.Z≤1000000
instance (b : qg) : Decidable (vB b):=by unfold vB;infer_instance
def InB (l : List qg) : Prop:=∀ x y z,hasB l x y z→(-1000000≤x∧x < 1000000)∧(-1000000≤y∧y < 1000000)∧(-1000000≤z∧z < 1000000)
theorem CanB.vB {l : List qg} (h : CanB l) (hi : InB l) : ∀ r∈l,vB r:=by
  intro r hr
  have h1:=h.lt r hr
  have h2:=hi r.Lo.X r.Lo.Y r.Lo.Z ⟨r,hr,by omega⟩
  have h3:=hi (r.Hi.X - 1) (r.Hi.Y - 1) (r.Hi.Z - 1) ⟨r,hr,by omega⟩
  unfold Go.Sh.vB;omega
theorem InB.mrg {kind : Int} {p q : List qg} (h : p.length + q.length≤100000) (hp : InB p) (hq : InB q) : InB (mrgB kind p q):=fun x y z hh=>by
  rcases qcu ((qhi kind h x y z).1 hh) with h1 | h1
  · exact hp x y z h1
  · exact hq x y z h1
theorem InB.nil : InB []:=fun x y z h=>absurd h (qcq x y z)
theorem qz2 {l : List qg} (h : ∀ b∈l,vB b) (z : Int) : ∀ r∈atB l z,vR r:=by
  intro r hr
  obtain ⟨b,hb,_,rfl⟩:=qd4.1 hr
  have:=h b hb
  unfold vB at this;unfold vR Yc;simp only;omega
theorem InB.at {l : List qg} (h : InB l) (z : Int) : InR (atB l z):=fun x y hh=>by
  have:=h x y z (q2k.1 hh);exact ⟨this.1,this.2.1⟩
noncomputable def Qz (l : List qg) : Int:=if 400 < l.length then 4 else if ∀ b∈l,vB b then (if mrgB 2 l [] = l then 0 else 8) else 8
theorem J8 {l : List qg} : Qz l = 0↔l.length≤400∧(∀ b∈l,vB b)∧CanB l:=by
  unfold Qz
  constructor
  · intro h
    split at h
    · exact absurd h (by decide)
    · rename_i h1
      split at h
      · rename_i h2
        split at h
        · rename_i h3
          exact ⟨by omega,h2,h3 ▸ qic 2 (by simp;omega)⟩
        · exact absurd h (by decide)
      · exact absurd h (by decide)
  · rintro ⟨h1,h2,h3⟩
    rw [if_neg (by omega),if_pos h2,if_pos (qpw (by omega) h3)]
theorem qjs (kind : Int) {p q : List qg} (h : p.length + q.length≤100000) (z : Int) : (secB kind p q z).length≤(mrgB kind p q).length:=by
  rw [← qfb kind h];exact Jn _ _
noncomputable def mkB (l : List qg) : List qg × Int:=if 400 < l.length then ([],4) else if ∀ b∈l,vB b then (if 400 < (mrgB 2 l []).length then ([],4) else (mrgB 2 l [],0)) else ([],8)
noncomputable def mkR (l : List qf) : List qf × Int:=if 400 < l.length then ([],4) else if ∀ b∈l,vR b then (if 400 < (mrgR 2 l []).length then ([],4) else (mrgR 2 l [],0)) else ([],8)
end Go.Sh
namespace Go.Sh
open Go Go.Am
theorem qi0 {α β : Type} {f : α→Option (α ⊕ β)} (st : Nat→α) (n : Nat) (ok : Nat→Prop) (b e : β)
    (step : ∀ k,k < n→(∀ j,j≤k→ok j)→f (st k) = some (.inl (st (k + 1))))
    (bad : ∀ k,k < n→(∀ j,j < k→ok j)→¬ ok k→f (st k) = some (.inr e))
    (done : (∀ j,j < n→ok j)→f (st n) = some (.inr b)) :
    ((∀ j,j < n→ok j)∧loop f (st 0) = some b)∨(∃ j,j < n∧¬ ok j∧loop f (st 0) = some e):=by
  by_cases h : ∀ j,j < n→ok j
  · exact .inl ⟨h,Yp st n b (fun k hk=>step k hk fun j hj=>h j (by omega)) (done h) (Nat.zero_le _)⟩
  · refine .inr ?_
    have h2 : ∃ k,(k < n∧¬ ok k)∧∀ j,j < k→ok j:=by
      have : ∃ k,k < n∧¬ ok k:=by
        refine Classical.byContradiction fun hn=>h fun k hk=>?_
        exact Classical.byContradiction fun h=>hn ⟨k,hk,h⟩
      obtain ⟨k,hk⟩:=this
      induction k using Nat.strongRecOn with
      | _ k ih=>
        by_cases hj : ∃ j,j < k∧(j < n∧¬ ok j)
        · obtain ⟨j,h1,h2⟩:=hj;exact ih j h1 h2
        · exact ⟨k,hk,fun j h1=>Classical.byContradiction fun h=>hj ⟨j,h1,by omega,h⟩⟩
    obtain ⟨K,⟨hK,hb⟩,hmin⟩:=h2
    exact ⟨K,hK,hb,Yp st K e (fun k hk=>step k (by omega) fun j hj=>hmin j (by omega)) (bad K hK hmin hb) (Nat.zero_le _)⟩
theorem qxx (xs : List Int) (h : xs.length≤1000000) :
    ((U9 xs).bind fun e127=>(Qm e127.length xs.length).bind fun u129=>(q1z e127).bind fun e132=>(Qm e132.2.length e127.length).bind fun u134=>(q26 e132.2.length e132.1).bind fun u137=>some ((e132.2.drop e132.1.1).take e132.1.2)) = some (Qj xs):=by
  obtain ⟨ys,s1,s2,s3⟩:=qkd xs h
  have hys : ys.length = xs.length:=s2.length_eq
  obtain ⟨w,a,c1,c2,c3,c4⟩:=qg3 s3 (by omega)
  obtain ⟨_,d2,_⟩:=Jp h
  have huniq : a.take w = Qj xs:=by
    refine qke (l:=xs) ⟨c4.1,fun x=>?_⟩ d2
    rw [c4.2 x];exact s2.mem_iff
  simp only [Option.bind_some,s1,Qm,hys,if_true,c1,c2,q26]
  rw [if_pos (by omega)]
  simp only [Option.bind_some,List.drop_zero,huniq]
theorem qsu (l : List qf) (hl : l.length≤1000000) : q7x l (fun x0=>q1s x0) = some (decide (¬ ∀ r∈l,vR r)):=by
  have hs : ∀ (k : Nat) (h : k < l.length),q3j l (fun x0=>q1s x0) (k : Int) = some (if (fun r=>!decide (vR r)) l[k] = true then .inr (.inr (k : Int)) else .inl ((k + 1 : Nat) : Int)):=by
    intro k h
    simp only [q3j,dlt h,cond_true,Qf h,Option.bind_some,w64s h hl,q1s,ql0]
    by_cases hv : vR l[k] <;> simp [hv]
  have hd : q3j l (fun x0=>q1s x0) (l.length : Int) = some (.inr (.inl ())):=by simp only [q3j,dnl,cond_false]
  unfold q7x qb5
  rcases q15 l (fun r=>!decide (vR r)) (fun k _=>(k : Int)) () _ hs hd with ⟨h1,h2⟩ | ⟨k,hk,hc,_,h2⟩
  · rw [h2]
    have : ∀ r∈l,vR r:=fun r hr=>by simpa using h1 r hr
    simp []
    omega
  · rw [h2]
    have : ¬ ∀ r∈l,vR r:=fun h=>by simp [h _ (List.getElem_mem hk)] at hc
    simp only [Option.bind_some]
    rw [decide_eq_true this,decide_eq_true (by omega)]
theorem qja (l : List qf) : q3f l = some (mkR l):=by
  unfold q3f mkR
  by_cases h4 : 400 < l.length
  · rw [decide_eq_true (by omega : (l.length : Int) > 400),cond_true,if_pos h4]
  rw [decide_eq_false (by omega : ¬ (l.length : Int) > 400),cond_false,if_neg h4,qsu l (by omega),Option.bind_some]
  by_cases hv : ∀ r∈l,vR r
  · rw [decide_eq_false (fun h=>h hv),cond_false,qi2 l (by omega) hv,if_pos hv];rfl
  · rw [decide_eq_true hv,cond_true,if_neg hv]
end Go.Sh
namespace Go.Sh
open Go Go.Am
theorem qxs (v : qi) : q6d v = some (decide ((-1000000≤v.X∧-1000000≤v.Y∧-1000000≤v.Z)∧v.X≤1000000∧v.Y≤1000000∧v.Z≤1000000)):=by
  unfold q6d
  by_cases h1 : min (min v.X v.Y) v.Z ≥ -1000000
  · by_cases h2 : max (max v.X v.Y) v.Z≤1000000
    · rw [decide_eq_true h1,decide_eq_true h2,cond_true,Option.bind_some];congr 1;exact (decide_eq_true (by omega)).symm
    · rw [decide_eq_true h1,decide_eq_false h2,cond_true,Option.bind_some];congr 1;exact (decide_eq_false (by omega)).symm
  · rw [decide_eq_false h1,cond_false,Option.bind_some];congr 1;exact (decide_eq_false (by omega)).symm
theorem qxu (b : qg) : q8x b = some (decide (vB b)):=by
  unfold q8x vB
  simp only [qxs,Option.bind_some]
  by_cases h1 : b.Lo.X < b.Hi.X
  · by_cases h2 : b.Lo.Y < b.Hi.Y
    · by_cases h3 : b.Lo.Z < b.Hi.Z
      · simp only [h1,h2,h3,decide_true,cond_true,Option.bind_some,true_and]
        by_cases h4 : (-1000000≤b.Lo.X∧-1000000≤b.Lo.Y∧-1000000≤b.Lo.Z)∧b.Lo.X≤1000000∧b.Lo.Y≤1000000∧b.Lo.Z≤1000000
        · rw [decide_eq_true h4]
          simp only [cond_true,Option.bind_some]
          congr 1
          exact decide_eq_decide.2 (by omega)
        · rw [decide_eq_false h4]
          simp only [cond_false,Option.bind_some]
          congr 1
          exact (decide_eq_false (by omega)).symm
      · simp [h1,h2,h3]
    · simp [h1,h2]
  · simp [h1]
theorem qry (v : qi) (n : Int) : q4s v n = some (decide ((n≤v.X∧n≤v.Y∧n≤v.Z)∧v.X≤1000000∧v.Y≤1000000∧v.Z≤1000000)):=by
  unfold q4s
  by_cases h1 : v.X ≥ n <;> by_cases h2 : v.Y ≥ n <;> by_cases h3 : v.Z ≥ n <;> by_cases h4 : v.X≤1000000 <;> by_cases h5 : v.Y≤1000000 <;> by_cases h6 : v.Z≤1000000 <;>
    simp [h1,h2,h3,h4,h5,h6] <;> omega
theorem qs8 (b : qg) : q7m b = some (decide (vB b)):=by
  unfold q7m vB
  simp only [qry,Option.bind_some]
  by_cases h4 : (-1000000≤b.Lo.X∧-1000000≤b.Lo.Y∧-1000000≤b.Lo.Z)∧b.Lo.X≤1000000∧b.Lo.Y≤1000000∧b.Lo.Z≤1000000
  · rw [decide_eq_true h4]
    simp only [cond_true,Option.bind_some]
    by_cases h5 : (-1000000≤b.Hi.X∧-1000000≤b.Hi.Y∧-1000000≤b.Hi.Z)∧b.Hi.X≤1000000∧b.Hi.Y≤1000000∧b.Hi.Z≤1000000
    · rw [decide_eq_true h5]
      by_cases h1 : b.Lo.X < b.Hi.X <;> by_cases h2 : b.Lo.Y < b.Hi.Y <;> by_cases h3 : b.Lo.Z < b.Hi.Z <;> simp [h1,h2,h3] <;> omega
    · rw [decide_eq_false h5]
      simp only [cond_false,Option.bind_some]
      congr 1
      exact (decide_eq_false (by omega)).symm
  · rw [decide_eq_false h4]
    simp only [cond_false,Option.bind_some]
    congr 1
    exact (decide_eq_false (by omega)).symm
theorem qxr (l : List qg) (hl : l.length≤1000000) : q3i l (fun x0=>q23 x0) = some (decide (¬ ∀ r∈l,vB r)):=by
  have hs : ∀ (k : Nat) (h : k < l.length),U8 l (fun x0=>q23 x0) (k : Int) = some (if (fun r=>!decide (vB r)) l[k] = true then .inr (.inr (k : Int)) else .inl ((k + 1 : Nat) : Int)):=by
    intro k h
    simp only [U8,dlt h,cond_true,Qf h,Option.bind_some,w64s h hl,q23,qxu]
    by_cases hv : vB l[k] <;> simp [hv]
  have hd : U8 l (fun x0=>q23 x0) (l.length : Int) = some (.inr (.inl ())):=by simp only [U8,dnl,cond_false]
  unfold q3i q82
  rcases q15 l (fun r=>!decide (vB r)) (fun k _=>(k : Int)) () _ hs hd with ⟨h1,h2⟩ | ⟨k,hk,hc,_,h2⟩
  · rw [h2]
    have : ∀ r∈l,vB r:=fun r hr=>by simpa using h1 r hr
    simp []
    omega
  · rw [h2]
    have : ¬ ∀ r∈l,vB r:=fun h=>by simp [h _ (List.getElem_mem hk)] at hc
    simp only [Option.bind_some]
    rw [decide_eq_true this,decide_eq_true (by omega)]
theorem qxp (s : Mg qf qg) (a b : Int) (c : List qf) (hl : (s.flat putB).length + c.length≤1000000) :
    q8w (s.flat putB) s.sec (s.done.length : Int) s.hi a b c = some ((addM putB s a b c).sec,((addM putB s a b c).done.length : Int),(addM putB s a b c).hi,(addM putB s a b c).flat putB):=by
  have hfl : (s.flat putB).length = s.done.length + s.sec.length:=by simp [Mg.flat]
  have hsec : s.sec.length≤1000000:=by omega
  unfold q8w
  rcases Jm putB s a b c with ⟨h1,h2,h3,h4⟩ | ⟨h1,h4⟩
  · have hb : decide ((c.length : Int) > 0) = true:=decide_eq_true (by have:=List.length_pos_iff.2 h1;omega)
    have he : (s.hi == a) = true:=by simpa using h3
    rw [h2] at hb
    rw [h4,h2]
    simp only [hb,cond_true,he,Option.bind_some,q4c _ _ hsec,decide_true]
    have:=q6z (fun v : qg=>({Lo:=v.Lo,Hi:=({X:=v.Hi.X,Y:=v.Hi.Y,Z:=b} : qi)} : qg)) s.done (s.sec.map (putB s.lo s.hi)) (by simp;omega) (q6b b) (fun k o hk ho=>by
      have h5 : (s.done ++ s.sec.map (putB s.lo s.hi)).length = (s.flat putB).length:=rfl
      simp only [q6b,dlt hk,cond_true,Qf hk,Option.bind_some,w64s hk (by omega),Int.toNat_natCast]) (fun o=>by simp only [q6b,dnl,cond_false])
    rw [show s.flat putB = s.done ++ s.sec.map (putB s.lo s.hi) from rfl,this]
    simp only [Option.bind_some,Mg.flat,List.map_map]
    rfl
  · rw [h4]
    have hc : ((cond (decide ((c.length : Int) > 0)) (some (s.hi == a)) (some false)).bind fun c101=>(cond c101 ((U7 s.sec c).bind fun r121=>some r121) (some false))) = some false:=by
      by_cases h5 : c = []
      · subst h5;simp
      · have hb : decide ((c.length : Int) > 0) = true:=decide_eq_true (by have:=List.length_pos_iff.2 h5;omega)
        simp only [hb,cond_true,Option.bind_some,q4c _ _ hsec]
        by_cases h6 : s.hi = a
        · have h7 : s.sec≠c:=fun h=>h1 ⟨h5,h.symm,h6⟩
          simp [h6,h7]
        · have : (s.hi == a) = false:=by simpa using h6
          simp [this]
    have hap:=q1m c (putB a b) (s.flat putB) (fun o=>(c,((s.flat putB).length : Int),b,o)) (q6c c a b (s.flat putB)) (fun k hk o ho=>by
      simp only [q6c,dlt hk,cond_true,Qf hk,Option.bind_some,w64s hk (by omega)]
      rw [Kf (by simp;omega)]
      rfl) (fun o=>by simp only [q6c,dnl,cond_false])
    rw [← Option.bind_assoc,hc]
    simp only [Option.bind_some,cond_false,hap]
    simp [Mg.flat]
theorem qzs (l : List qg) (o : List Int) (hl : l.length≤400) (ho : o.length≤10000) : loop (q3w l) (0,o) = some (o ++ zsOf l):=
  Zs l (by omega) (fun r=>[r.Lo.Z,r.Hi.Z]) o (fun o=>o) (q3w l) (fun k hk o' ho'=>by
    have h8 : o'.length = o.length + 2 * k:=by
      rw [ho',List.length_append];have:=Zm (l.take k);rw [List.length_take,Nat.min_eq_left (by omega)] at this
      unfold zsOf at this;omega
    simp only [q3w,dlt hk,cond_true,Qf hk,Option.bind_some,w64s hk (by omega)]
    rw [Kf (by simp;omega)]
    rfl) (fun o=>by simp only [q3w,dnl,cond_false])
theorem qfc (l : List qg) (hl : l.length≤400) (x : Int) : loop (q3y l x) (0,[]) = some (atB l x):=by
  have:=Zs l (by omega) (fun r=>if covB x r = true then [Yc r] else []) [] (fun o=>o) (q3y l x) (fun k hk o ho=>by
    have h8 : o.length≤k:=by rw [ho,List.nil_append];have:=Jn (l.take k) x;rw [List.length_take,Nat.min_eq_left (by omega)] at this;exact this
    simp only [q3y,dlt hk,cond_true,Qf hk,Option.bind_some,w64s hk (by omega)]
    by_cases h1 : l[k].Lo.Z≤x
    · by_cases h2 : x < l[k].Hi.Z
      · simp only [h1,h2,decide_true,cond_true,Option.bind_some,covB,Bool.and_self,if_true]
        rw [Kf (by simp;omega)]
        rfl
      · simp only [h1,h2,decide_true,decide_false,cond_true,cond_false,Option.bind_some,covB,Bool.and_false,if_false,Bool.false_eq_true,List.append_nil]
    · simp only [h1,decide_false,cond_false,Option.bind_some,covB,Bool.false_and,if_false,Bool.false_eq_true,List.append_nil]) (fun o=>by simp only [q3y,dnl,cond_false])
  rw [List.nil_append] at this
  exact this
theorem quj {kind : Int} {p q : List qg} {xs : List Int} (hxs : Qj (zsOf p ++ zsOf q) = xs) (h : p.length + q.length≤800) (F : Int × List qf × Int × Int × List qg→Option ((Int × List qf × Int × Int × List qg) ⊕ ((List qf × Int × Int × List qg) ⊕ (List qg × Int))))
    (hgo : ∀ (a b : Int) (k : Nat) (s : Mg qf qg),(s.flat putB).length + 400≤1000000→(h1 : k + 1 < xs.length)→a = xs[k]'(by omega)→b = xs[k + 1]'h1→(secB kind p q a).length≤400→
      F (((k + 1 : Nat) : Int),s.sec,(s.done.length : Int),s.hi,s.flat putB) = some (.inl (((k + 1 + 1 : Nat) : Int),(addM putB s a b (secB kind p q a)).sec,((addM putB s a b (secB kind p q a)).done.length : Int),(addM putB s a b (secB kind p q a)).hi,(addM putB s a b (secB kind p q a)).flat putB)))
    (hbad : ∀ (a : Int) (k : Nat) (s : Mg qf qg),(h1 : k + 1 < xs.length)→a = xs[k]'(by omega)→400 < (secB kind p q a).length→
      F (((k + 1 : Nat) : Int),s.sec,(s.done.length : Int),s.hi,s.flat putB) = some (.inr (.inr ([],4))))
    (hend : ∀ (k : Nat) (s : Mg qf qg),xs.length≤k + 1→F (((k + 1 : Nat) : Int),s.sec,(s.done.length : Int),s.hi,s.flat putB) = some (.inr (.inl (s.sec,(s.done.length : Int),s.hi,s.flat putB)))) :
    (∃ a b c,loop F (1,[],0,0,[]) = some (.inl (a,b,c,mrgB kind p q)))∨(400 < (mrgB kind p q).length∧loop F (1,[],0,0,[]) = some (.inr ([],4))):=by
  have hx1:=Zm p
  have hx2:=Zm q
  obtain ⟨_,hso,hlen⟩:=Jp (l:=zsOf p ++ zsOf q) (by simp;omega)
  have hlen : (Qj (zsOf p ++ zsOf q)).length≤1600:=by simp at hlen;omega
  have hle : ∀ x,(secB kind p q x).length≤(mrgB kind p q).length:=fun x=>qjs kind (by omega) x
  have hmr : mrgB kind p q = (Ql putB Qi (Y3 (Qj (zsOf p ++ zsOf q)) (secB kind p q))).flat putB:=rfl
  rw [hmr] at hle ⊢
  rw [hxs] at hso hlen hle ⊢
  generalize hst : Y3 xs (secB kind p q) = steps at hle ⊢
  have hsl : steps.length = xs.length - 1:=by rw [← hst];exact q97 _ _
  have hgk : ∀ k (hk : k < steps.length),steps[k] = (xs[k]'(by omega),xs[k + 1]'(by omega),secB kind p q (xs[k]'(by omega))):=fun k hk=>by subst hst;exact q96 hk (by omega)
  have hml : ∀ k,k≤steps.length→(∀ j,j < k→∀ t,steps[j]? = some t→t.2.2.length≤400)→((Ql putB Qi (steps.take k)).flat putB).length≤1600 * 400:=fun k hk hj=>by
    have h1:=qa3 putB (s0:=Qi) (M:=400) (steps:=steps.take k) (fun t ht=>by
      obtain ⟨i,hi,rfl⟩:=List.getElem_of_mem ht
      rw [List.length_take] at hi
      rw [List.getElem_take]
      exact hj i (by omega) _ (List.getElem?_eq_getElem (by omega)))
    have h2 : (steps.take k).length≤1600:=by rw [List.length_take];omega
    have h3 : (Qi.flat putB : List qg).length = 0:=rfl
    have h4 : (steps.take k).length * 400≤1600 * 400:=Nat.mul_le_mul_right _ h2
    omega
  have main:=qi0 (f:=F) (fun k=>(((k + 1 : Nat) : Int),(Ql putB Qi (steps.take k)).sec,((Ql putB Qi (steps.take k)).done.length : Int),(Ql putB Qi (steps.take k)).hi,(Ql putB Qi (steps.take k)).flat putB))
    steps.length (fun j=>∀ t,steps[j]? = some t→t.2.2.length≤400) (.inl ((Ql putB Qi steps).sec,((Ql putB Qi steps).done.length : Int),(Ql putB Qi steps).hi,(Ql putB Qi steps).flat putB)) (.inr ([],4))
    (fun k hk hj=>by
      have hk1 : k + 1 < xs.length:=by omega
      have hc:=hj k (Nat.le_refl _) _ (List.getElem?_eq_getElem hk)
      have hm:=hml k (by omega) fun j hjk=>hj j (by omega)
      rw [q2g putB hk,hgk k hk] at *
      simp only at hc
      exact hgo _ _ k (Ql putB Qi (steps.take k)) (by omega) hk1 rfl rfl hc)
    (fun k hk hj hb=>by
      have hk1 : k + 1 < xs.length:=by omega
      have hk0 : k < xs.length:=by omega
      refine hbad _ k (Ql putB Qi (steps.take k)) hk1 rfl ?_
      refine Nat.lt_of_not_le fun h=>hb fun t ht=>?_
      rw [List.getElem?_eq_getElem hk,hgk k hk] at ht
      cases ht;exact h)
    (fun _=>by
      rw [List.take_length]
      exact hend steps.length _ (by omega))
  have h00 : ((((0 + 1 : Nat) : Int),(Ql putB Qi (steps.take 0)).sec,((Ql putB Qi (steps.take 0)).done.length : Int),(Ql putB Qi (steps.take 0)).hi,(Ql putB Qi (steps.take 0)).flat putB) : Int × List qf × Int × Int × List qg) = (1,[],0,0,[]):=rfl
  rw [h00] at main
  rcases main with ⟨_,h2⟩ | ⟨j,hj,hb,h2⟩
  · exact .inl ⟨_,_,_,h2⟩
  · refine .inr ⟨?_,h2⟩
    have hj0 : j < xs.length:=by omega
    have h5 : 400 < (secB kind p q xs[j]).length:=by
      refine Nat.lt_of_not_le fun h=>hb fun t ht=>?_
      rw [List.getElem?_eq_getElem hj,hgk j hj] at ht
      cases ht;exact h
    exact Nat.lt_of_lt_of_le h5 (hle xs[j])
theorem qt9 (l : List qg) (hl : l.length≤400) (hv : ∀ b∈l,vB b) : q8y l = some (if 400 < (mrgB 2 l []).length then ([],4) else (mrgB 2 l [],0)):=by
  unfold q8y
  have hx1:=Zm l
  simp only [show idx [l] 0 = some l from rfl,Option.bind_some,qzs l [] hl (by simp),List.nil_append]
  rw [qxx _ (by omega)]
  simp only [Option.bind_some]
  have hz : zsOf l = zsOf l ++ zsOf []:=by simp [zsOf]
  obtain ⟨_,hso,hlen⟩:=Jp (l:=zsOf l ++ zsOf []) (by rw [← hz];omega)
  have hlen : (Qj (zsOf l ++ zsOf [])).length≤800:=by rw [← hz] at hlen ⊢;omega
  have hmk : ∀ z,q3f (atB l z) = some (if 400 < (secB 2 l [] z).length then ([],4) else (secB 2 l [] z,0)):=fun z=>by
    have:=Jn l z
    rw [qja,mkR,if_neg (by omega),if_pos (qz2 hv z)];rfl
  rw [hz]
  have:=quj (kind:=2) (p:=l) (q:=[]) rfl (by simp;omega) (q3x (Qj (zsOf l ++ zsOf [])) l)
    (fun a b k s hs h1 ha hb hc=>by
      have h0 : k < (Qj (zsOf l ++ zsOf [])).length:=by omega
      have i1 : idx (Qj (zsOf l ++ zsOf [])) (w64 (((k + 1 : Nat) : Int) - 1)) = some a:=by rw [qz (by omega),ha];exact Uq (by omega) (by omega)
      have i2 : idx (Qj (zsOf l ++ zsOf [])) ((k + 1 : Nat) : Int) = some b:=by rw [hb];exact Qf h1
      have hm:=hmk a
      rw [if_neg (by omega)] at hm
      simp only [q3x,dlt h1,cond_true,i1,i2,Option.bind_some,show idx [l] 0 = some l from rfl,qfc l hl,hm,show ((0 : Int) != 0) = false from rfl,cond_false,qxp s a b (secB 2 l [] a) (by omega)]
      rw [w64s h1 (by omega)])
    (fun a k s h1 ha hc=>by
      have i1 : idx (Qj (zsOf l ++ zsOf [])) (w64 (((k + 1 : Nat) : Int) - 1)) = some a:=by rw [qz (by omega),ha];exact Uq (by omega) (by omega)
      have hm:=hmk a
      rw [if_pos hc] at hm
      simp only [q3x,dlt h1,cond_true,i1,Qf h1,Option.bind_some,show idx [l] 0 = some l from rfl,qfc l hl,hm,show ((4 : Int) != 0) = true from rfl])
    (fun k s h1=>by
      have : decide (((k + 1 : Nat) : Int) < ((Qj (zsOf l ++ zsOf [])).length : Int)) = false:=decide_eq_false (by omega)
      simp only [q3x,this,cond_false])
  rcases this with ⟨a,b,c,h2⟩ | ⟨h4,h2⟩
  · rw [h2]
    simp only [Option.bind_some]
    by_cases h4 : 400 < (mrgB 2 l []).length
    · rw [decide_eq_true (by omega : ((mrgB 2 l []).length : Int) > 400),if_pos h4];rfl
    · rw [decide_eq_false (by omega : ¬ ((mrgB 2 l []).length : Int) > 400),if_neg h4];rfl
  · rw [h2,if_pos h4];rfl
theorem qnq (p q : List qg) (hl : p.length≤1000000) : qb3 p q = some (decide (p = q)):=sameBox p q hl
theorem qeg (l : List qg) : q3u l = some (Qz l):=by
  unfold q3u Qz
  by_cases h4 : 400 < l.length
  · rw [decide_eq_true (by omega : (l.length : Int) > 400),cond_true,if_pos h4]
  rw [decide_eq_false (by omega : ¬ (l.length : Int) > 400),cond_false,if_neg h4,qxr l (by omega),Option.bind_some]
  by_cases hv : ∀ r∈l,vB r
  · rw [decide_eq_false (fun h=>h hv),cond_false,qt9 l (by omega) hv,if_pos hv,Option.bind_some]
    by_cases hm : 400 < (mrgB 2 l []).length
    · have hne : mrgB 2 l []≠l:=fun h=>by rw [h] at hm;exact h4 hm
      rw [if_pos hm,if_neg hne];rfl
    · rw [if_neg hm]
      simp only [qnq (mrgB 2 l []) l (by omega)]
      by_cases he : mrgB 2 l [] = l <;> simp [he]
  · rw [decide_eq_true hv,cond_true,if_neg hv]
end Go.Sh
namespace Go.Sh
open Go Go.Am
def q46 (kind : Int) (p q : List qg) (z : Int) : Prop:=400 < (secB kind p q z).length∨400 < (secB 2 p [] z).length∨400 < (secB 2 q [] z).length
theorem qp7 (kind : Int) {p q : List qg} (h : p.length + q.length≤400) {xs : List Int} (hx : xs.length≤1000000) {i : Nat} (hi : i + 1 < xs.length) (hb : q46 kind p q (xs[i]'(by omega))) (a : Int) (c : List qf) (o : List qg) :
    Us xs p q kind (c,a,(i : Int),o) = some (.inr (.inr ([],false))):=by
  have hi0 : i < xs.length:=by omega
  have hw : w64 ((i : Int) + 1) = ((i + 1 : Nat) : Int):=w64s hi0 hx
  have n1:=Jn p xs[i]
  have n2:=Jn q xs[i]
  have ap : J1 p xs[i] = some (atB p xs[i]):=qat p (by omega) _
  have aq : J1 q xs[i] = some (atB q xs[i]):=qat q (by omega) _
  have jj : Zi kind (atB p xs[i]) (atB q xs[i]) = some (secB kind p q xs[i]):=q4q kind (by omega)
  have jp : Zi 2 (atB p xs[i]) [] = some (secB 2 p [] xs[i]):=q4q 2 (by simp;omega)
  have jq : Zi 2 (atB q xs[i]) [] = some (secB 2 q [] xs[i]):=q4q 2 (by simp;omega)
  unfold Us
  simp only [hw,dlt hi,cond_true,Qf hi0,ap,aq,jj,jp,jq,Option.bind_some]
  by_cases h1 : 400 < (secB kind p q xs[i]).length
  · have d1 : decide (((secB kind p q xs[i]).length : Int) > 400) = true:=decide_eq_true (by omega)
    simp only [d1,cond_true,Option.bind_some]
  have d1 : decide (((secB kind p q xs[i]).length : Int) > 400) = false:=decide_eq_false (by omega)
  by_cases h2 : 400 < (secB 2 p [] xs[i]).length
  · have d2 : decide (((secB 2 p [] xs[i]).length : Int) > 400) = true:=decide_eq_true (by omega)
    simp only [d1,d2,cond_true,cond_false,Option.bind_some]
  have d2 : decide (((secB 2 p [] xs[i]).length : Int) > 400) = false:=decide_eq_false (by omega)
  have h3 : 400 < (secB 2 q [] xs[i]).length:=by rcases hb with h | h | h <;> first | exact absurd h h1 | exact absurd h h2 | exact h
  have d3 : decide (((secB 2 q [] xs[i]).length : Int) > 400) = true:=decide_eq_true (by omega)
  simp only [d1,d2,d3,cond_true,cond_false,Option.bind_some]
theorem qs6 (kind : Int) {p q : List qg} (h : p.length + q.length≤400) :
    q39 kind p q = some (mrgB kind p q,decide (((mrgB kind p q).length : Int)≤400))∨(q39 kind p q = some ([],false)∧∃ z,q46 kind p q z):=by
  unfold q39
  rw [qs1 (by omega)]
  simp only [Option.bind_some]
  have hx1:=Zm p
  have hx2:=Zm q
  obtain ⟨_,hso,hlen⟩:=Jp (l:=zsOf p ++ zsOf q) (by simp;omega)
  have hcl : (Qj (zsOf p ++ zsOf q)).length≤800:=by simp at hlen;omega
  unfold mrgB
  generalize Qj (zsOf p ++ zsOf q) = xs at hcl ⊢
  generalize hst : Y3 xs (secB kind p q) = steps
  have hsl : steps.length = xs.length - 1:=by rw [← hst];exact q97 _ _
  have hgk : ∀ k (hk : k < steps.length),steps[k] = (xs[k]'(by omega),xs[k + 1]'(by omega),secB kind p q (xs[k]'(by omega))):=fun k hk=>by subst hst;exact q96 hk (by omega)
  have hml : ∀ k,k≤steps.length→(∀ j,j < k→∀ t,steps[j]? = some t→¬ q46 kind p q t.1)→((Ql putB Qi (steps.take k)).flat putB).length≤800 * 400:=fun k hk hj=>by
    have h1:=qa3 putB (s0:=Qi) (M:=400) (steps:=steps.take k) (fun t ht=>by
      obtain ⟨i,hi,rfl⟩:=List.getElem_of_mem ht
      rw [List.length_take] at hi
      rw [List.getElem_take]
      have:=hj i (by omega) _ (List.getElem?_eq_getElem (by omega))
      rw [hgk i (by omega)] at this ⊢
      exact Nat.le_of_not_lt fun h=>this (.inl h))
    have h2 : (steps.take k).length≤800:=by rw [List.length_take];omega
    have h3 : (Qi.flat putB : List qg).length = 0:=rfl
    have h4 : (steps.take k).length * 400≤800 * 400:=Nat.mul_le_mul_right _ h2
    omega
  have main:=qi0 (f:=Us xs p q kind) (fun k=>((Ql putB Qi (steps.take k)).sec,((Ql putB Qi (steps.take k)).done.length : Int),(k : Int),(Ql putB Qi (steps.take k)).flat putB))
    steps.length (fun j=>∀ t,steps[j]? = some t→¬ q46 kind p q t.1) (.inl ((Ql putB Qi steps).flat putB)) (.inr ([],false)) (fun k hk hj=>by
      have hk1 : k + 1 < xs.length:=by omega
      have hc:=hj k (Nat.le_refl _) _ (List.getElem?_eq_getElem hk)
      have hm:=hml k (by omega) fun j hjk=>hj j (by omega)
      rw [hgk k hk] at hc
      have hsec : qez kind p q xs[k]:=by
        have n1:=Jn p xs[k]
        have n2:=Jn q xs[k]
        refine ⟨by omega,?_,?_,?_⟩
        · exact Nat.le_of_not_lt fun h=>hc (.inl h)
        · exact Nat.le_of_not_lt fun h=>hc (.inr (.inl h))
        · exact Nat.le_of_not_lt fun h=>hc (.inr (.inr h))
      have:=qp8 kind (by omega) (xs:=xs) (by omega) hk1 hsec (Ql putB Qi (steps.take k)) (by omega) (fun h0=>by subst h0;rfl) (fun hpos=>by
        obtain ⟨m,rfl⟩ : ∃ m,k = m + 1:=⟨k - 1,by omega⟩
        rw [q2g putB (by omega),qf0,hgk m (by omega)])
      rw [this,q2g putB hk,hgk k hk])
    (fun k hk _ hb=>by
      have hk1 : k + 1 < xs.length:=by omega
      have hk0 : k < xs.length:=by omega
      refine qp7 kind h (by omega) hk1 ?_ _ _ _
      refine Classical.byContradiction fun hn=>hb fun t ht=>?_
      rw [List.getElem?_eq_getElem hk,hgk k hk] at ht
      cases ht;exact hn)
    (fun _=>by
      rw [List.take_length]
      have hb : decide (w64 ((steps.length : Int) + 1) < (xs.length : Int)) = false:=by
        rw [qz (by omega)];exact decide_eq_false (by omega)
      unfold Us
      simp only [hb,cond_false])
  have h00 : (((Ql putB Qi (steps.take 0)).sec,((Ql putB Qi (steps.take 0)).done.length : Int),((0 : Nat) : Int),(Ql putB Qi (steps.take 0)).flat putB) : List qf × Int × Int × List qg) = ([],0,0,[]):=rfl
  rw [h00] at main
  rcases main with ⟨h1,h2⟩ | ⟨j,hj,hb,h2⟩
  · exact .inl (by rw [h2];rfl)
  · refine .inr ⟨by rw [h2];rfl,?_⟩
    have hj0 : j < xs.length:=by omega
    refine ⟨xs[j],?_⟩
    refine Classical.byContradiction fun hn=>hb fun t ht=>?_
    rw [List.getElem?_eq_getElem hj,hgk j hj] at ht
    cases ht;exact hn
theorem quf (kind : Int) (z : Int) : secB kind [] [] z = []:=qda kind
theorem qs4 (kind : Int) {p q : List qg} (h : p.length + q.length≤400) (hs : ∀ z,q46 kind p q z→400 < (mrgB kind p q).length) :
    ∃ o,q39 kind p q = some (o,decide ((mrgB kind p q).length≤400))∧((mrgB kind p q).length≤400→o = mrgB kind p q):=by
  rcases qs6 kind h with h1 | ⟨h1,z,hz⟩
  · refine ⟨_,?_,fun _=>rfl⟩
    rw [h1]
    have : decide (((mrgB kind p q).length : Int)≤400) = decide ((mrgB kind p q).length≤400):=decide_eq_decide.2 (by omega)
    rw [this]
  · have:=hs z hz
    refine ⟨[],?_,fun h=>absurd h (by omega)⟩
    rw [h1,decide_eq_false (by omega)]
theorem qui {l : List qg} (h : l.length≤100000) : ∀ z,q46 2 l [] z→400 < (mrgB 2 l []).length:=by
  intro z hz
  have h1:=qjs 2 (p:=l) (q:=[]) (by simpa using h) z
  rcases hz with hz | hz | hz
  · omega
  · omega
  · rw [quf] at hz;simp at hz
theorem qsa (l : List qg) (hl : l.length≤1000000) {γ : Type} (f : Int→Option (Int ⊕ (Unit ⊕ γ))) (e : γ) (hf : ∀ k (h : k < l.length),f (k : Int) = some (if (fun r=>!decide (vB r)) l[k] = true then .inr (.inr e) else .inl ((k + 1 : Nat) : Int))) (hd : f (l.length : Int) = some (.inr (.inl ()))) :
    loop f 0 = some (if ∀ b∈l,vB b then .inl () else .inr e):=by
  rcases q15 l (fun r=>!decide (vB r)) (fun k _=>e) () f hf hd with ⟨h1,h2⟩ | ⟨k,hk,hc,_,h2⟩
  · have : ∀ r∈l,vB r:=fun r hr=>by simpa using h1 r hr
    rw [if_pos this];exact h2
  · have : ¬ ∀ r∈l,vB r:=fun h=>by simp [h _ (List.getElem_mem hk)] at hc
    rw [if_neg this];exact h2
theorem qrz (l : List qg) : q7k l = some (Qz l):=by
  unfold q7k Qz
  by_cases h4 : 400 < l.length
  · rw [decide_eq_true (by omega : (l.length : Int) > 400),cond_true,if_pos h4]
  rw [decide_eq_false (by omega : ¬ (l.length : Int) > 400),cond_false,if_neg h4]
  rw [qsa l (by omega) (q4u l) 8 (fun k hk=>by
    simp only [q4u,dlt hk,cond_true,Qf hk,Option.bind_some,qs8,w64s hk (by omega)]
    by_cases hv : vB l[k] <;> simp [hv]) (by simp only [q4u,dnl,cond_false])]
  by_cases hv : ∀ r∈l,vB r
  · rw [if_pos hv,if_pos hv]
    obtain ⟨o,h1,h2⟩:=qs4 2 (p:=l) (q:=[]) (by simp;omega) (qui (by omega))
    simp only [Option.bind_some,h1]
    by_cases h5 : 400 < (mrgB 2 l []).length
    · have hne : mrgB 2 l []≠l:=fun h=>by rw [h] at h5;exact h4 h5
      rw [decide_eq_false (by omega),if_neg hne];rfl
    · rw [decide_eq_true (by omega),h2 (by omega),sameBox _ l (by omega)]
      by_cases he : mrgB 2 l [] = l <;> simp [he]
  · rw [if_neg hv,if_neg hv];rfl
end Go.Sh
namespace Go.Sh
open Go Go.Am
def sumN : Nat→(Int→Int)→Int
  | 0,_=>0
  | n + 1,f=>sumN n f + f n
theorem qen {f g : Int→Int} : ∀ {n : Nat},(∀ k : Nat,k < n→f k = g k)→sumN n f = sumN n g
  | 0,_=>rfl
  | n + 1,h=>by rw [sumN,sumN,qen (n:=n) fun k hk=>h k (by omega),h n (by omega)]
theorem qko {f g : Int→Int} : ∀ {n : Nat},sumN n (fun x=>f x + g x) = sumN n f + sumN n g
  | 0=>rfl
  | n + 1=>by rw [sumN,sumN,sumN,qko (n:=n)];omega
theorem qks {c : Int} {f : Int→Int} : ∀ {n : Nat},sumN n (fun x=>c * f x) = c * sumN n f
  | 0=>by simp [sumN]
  | n + 1=>by rw [sumN,sumN,qks (n:=n),Int.mul_add]
theorem qkt : ∀ {n : Nat},sumN n (fun _=>0) = 0
  | 0=>rfl
  | n + 1=>by rw [sumN,qkt (n:=n)];rfl
theorem qkr {f g : Int→Int} : ∀ {n : Nat},(∀ k : Nat,k < n→f k≤g k)→sumN n f≤sumN n g
  | 0,_=>Int.le_refl _
  | n + 1,h=>by have:=qkr (n:=n) fun k hk=>h k (by omega);have:=h n (by omega);rw [sumN,sumN];omega
noncomputable def ind (p : Prop) : Int:=by classical exact if p then 1 else 0
theorem q4h {p : Prop} (h : p) : ind p = 1:=by unfold ind;simp [h]
theorem Z6 {p : Prop} (h : ¬ p) : ind p = 0:=by unfold ind;simp [h]
theorem q1i {p q : Prop} (h : p↔q) : ind p = ind q:=by rw [propext h]
theorem qcw {p q : Prop} : ind (p∧q) = ind p * ind q:=by
  by_cases hp : p <;> by_cases hq : q
  · rw [q4h ⟨hp,hq⟩,q4h hp,q4h hq];rfl
  · rw [Z6 (fun h=>hq h.2),Z6 hq];simp
  · rw [Z6 (fun h=>hp h.1),Z6 hp];simp
  · rw [Z6 (fun h=>hp h.1),Z6 hp];simp
theorem qoz {p q : Prop} : ind (p∨q) = ind p + ind q - ind (p∧q):=by
  by_cases hp : p <;> by_cases hq : q <;> simp [ind,hp,hq]
theorem qad {p : Prop} : 0≤ind p∧ind p≤1:=by by_cases hp : p <;> simp [ind,hp]
theorem qkq (a b : Int) : ∀ {n : Nat},sumN n (fun x=>ind (a≤x∧x < b)) = max 0 (min b n - max a 0)
  | 0=>by rw [sumN];omega
  | n + 1=>by
    rw [sumN,qkq a b (n:=n)]
    by_cases h : a≤(n : Int)∧(n : Int) < b
    · rw [q4h h];omega
    · rw [Z6 h];omega
def sumZ (N : Nat) (f : Int→Int) : Int:=sumN (2 * N) fun k=>f (k - N)
theorem q9b {N : Nat} {f g : Int→Int} (h : ∀ x : Int,-(N : Int)≤x→x < N→f x = g x) : sumZ N f = sumZ N g:=
  qen fun k hk=>h _ (by omega) (by omega)
theorem qyt {N : Nat} {f g : Int→Int} : sumZ N (fun x=>f x + g x) = sumZ N f + sumZ N g:=qko
theorem q6g {N : Nat} {c : Int} {f : Int→Int} : sumZ N (fun x=>c * f x) = c * sumZ N f:=qks
theorem qeo {N : Nat} : sumZ N (fun _=>0) = 0:=qkt
theorem q9c {N : Nat} {f g : Int→Int} (h : ∀ x : Int,-(N : Int)≤x→x < N→f x≤g x) : sumZ N f≤sumZ N g:=
  qkr fun k hk=>h _ (by omega) (by omega)
theorem qbh {N : Nat} {a b : Int} (h1 : -N≤a) (h2 : a≤b) (h3 : b≤N) : sumZ N (fun x=>ind (a≤x∧x < b)) = b - a:=by
  unfold sumZ
  have : (fun k : Int=>ind (a≤k - N∧k - N < b)) = fun k=>ind (a + N≤k∧k < b + N):=by
    funext k;exact q1i ⟨fun h=>by omega,fun h=>by omega⟩
  simp only [this]
  rw [qkq];omega
theorem qbi {N : Nat} {f : Int→Int} (h : ∀ x : Int,-(N : Int)≤x→x < N→0≤f x) : 0≤sumZ N f:=by
  rw [← qeo (N:=N)];exact q9c h
theorem qbg {N : Nat} {c : Int} : sumZ N (fun _=>c) = 2 * N * c:=by
  have : ∀ n : Nat,sumN n (fun _=>c) = n * c:=by
    intro n
    induction n with
    | zero=>simp [sumN]
    | succ n ih=>rw [sumN,ih,Int.natCast_succ,Int.add_mul,Int.one_mul]
  unfold sumZ;rw [this];simp
noncomputable def cnt3 (N : Nat) (P : Int→Int→Int→Prop) : Int:=sumZ N fun x=>sumZ N fun y=>sumZ N fun z=>ind (P x y z)
def sumL {α : Type} (f : α→Int) : List α→Int
  | []=>0
  | a::r=>f a + sumL f r
theorem qem {α : Type} (f : α→Int) (a b : List α) : sumL f (a ++ b) = sumL f a + sumL f b:=by
  induction a with
  | nil=>simp [sumL]
  | cons x a ih=>rw [List.cons_append,sumL,sumL,ih];omega
theorem qbf {α : Type} {f g : α→Int} {l : List α} (h : ∀ a∈l,f a = g a) : sumL f l = sumL g l:=by
  induction l with
  | nil=>rfl
  | cons a l ih=>rw [sumL,sumL,h a (by simp),ih fun b hb=>h b (by simp [hb])]
theorem qys {α : Type} (c : Int) (f : α→Int) (l : List α) : sumL (fun a=>c * f a) l = c * sumL f l:=by
  induction l with
  | nil=>simp [sumL]
  | cons a l ih=>rw [sumL,sumL,ih,Int.mul_add]
theorem q6f {α : Type} {N : Nat} (f : α→Int→Int) (l : List α) : sumL (fun a=>sumZ N (f a)) l = sumZ N fun x=>sumL (fun a=>f a x) l:=by
  induction l with
  | nil=>exact qeo.symm
  | cons a l ih=>
    have : (fun x=>sumL (fun a=>f a x) (a::l)) = fun x=>f a x + (fun x=>sumL (fun a=>f a x) l) x:=rfl
    rw [sumL,ih,this,qyt]
def inB (b : qg) (x y z : Int) : Prop:=(b.Lo.X≤x∧x < b.Hi.X)∧(b.Lo.Y≤y∧y < b.Hi.Y)∧(b.Lo.Z≤z∧z < b.Hi.Z)
def inR (r : qf) (x y : Int) : Prop:=(r.X0≤x∧x < r.X1)∧(r.Y0≤y∧y < r.Y1)
def inS (t : qj) (x : Int) : Prop:=t.Lo≤x∧x < t.Hi
def volB (b : qg) : Int:=(b.Hi.X - b.Lo.X) * (b.Hi.Y - b.Lo.Y) * (b.Hi.Z - b.Lo.Z)
theorem qz4 {N : Nat} {b : qg} (h : (b.Lo.X≤b.Hi.X∧b.Lo.Y≤b.Hi.Y∧b.Lo.Z≤b.Hi.Z)∧(-(N : Int)≤b.Lo.X∧-(N : Int)≤b.Lo.Y∧-(N : Int)≤b.Lo.Z)∧b.Hi.X≤N∧b.Hi.Y≤N∧b.Hi.Z≤N) :
    volB b = cnt3 N (inB b):=by
  obtain ⟨⟨h1,h2,h3⟩,⟨h4,h5,h6⟩,h7,h8,h9⟩:=h
  unfold cnt3
  have e : ∀ x y,(sumZ N fun z=>ind (inB b x y z)) = ind (b.Lo.X≤x∧x < b.Hi.X) * (ind (b.Lo.Y≤y∧y < b.Hi.Y) * (b.Hi.Z - b.Lo.Z)):=fun x y=>by
    have : (fun z=>ind (inB b x y z)) = fun z=>ind (b.Lo.X≤x∧x < b.Hi.X) * (ind (b.Lo.Y≤y∧y < b.Hi.Y) * ind (b.Lo.Z≤z∧z < b.Hi.Z)):=by
      funext z;unfold inB;rw [qcw (p:=_∧_) (q:=(_∧_)∧_),qcw (p:=_∧_) (q:=_∧_)]
    rw [this,q6g,q6g,qbh h6 h3 h9]
  have e2 : ∀ x,(sumZ N fun y=>sumZ N fun z=>ind (inB b x y z)) = ind (b.Lo.X≤x∧x < b.Hi.X) * ((b.Hi.Y - b.Lo.Y) * (b.Hi.Z - b.Lo.Z)):=fun x=>by
    have : (fun y=>sumZ N fun z=>ind (inB b x y z)) = fun y=>ind (b.Lo.X≤x∧x < b.Hi.X) * ((b.Hi.Z - b.Lo.Z) * ind (b.Lo.Y≤y∧y < b.Hi.Y)):=by
      funext y;rw [e,Int.mul_comm (b.Hi.Z - b.Lo.Z)]
    rw [this,q6g,q6g,qbh h5 h2 h8,Int.mul_comm (b.Hi.Z - b.Lo.Z)]
  have : (fun x=>sumZ N fun y=>sumZ N fun z=>ind (inB b x y z)) = fun x=>((b.Hi.Y - b.Lo.Y) * (b.Hi.Z - b.Lo.Z)) * ind (b.Lo.X≤x∧x < b.Hi.X):=by
    funext x;rw [e2,Int.mul_comm]
  rw [this,q6g,qbh h4 h1 h7,volB]
  simp only [Int.mul_assoc,Int.mul_left_comm,Int.mul_comm]
noncomputable def cntS (s : List qj) (y : Int) : Int:=sumL (fun t=>ind (inS t y)) s
noncomputable def cntR (l : List qf) (x y : Int) : Int:=sumL (fun t=>ind (inR t x y)) l
noncomputable def cntB (l : List qg) (x y z : Int) : Int:=sumL (fun t=>ind (inB t x y z)) l
theorem qc7 : ∀ {s : List qj},Can s→∀ y,cntS s y = ind (has s y)
  | [],_,y=>by rw [Z6 (U2 y)];rfl
  | a::s,h,y=>by
    have ih:=qc7 h.tail y
    unfold cntS at ih ⊢
    rw [sumL,ih,q1i (Yt (a:=a) (s:=s) (x:=y)),qoz]
    have : ¬ ((a.Lo≤y∧y < a.Hi)∧has s y):=fun ⟨h1,h2⟩=>by have:=h.tail_gt h2;omega
    rw [Z6 this];unfold inS;omega
theorem qmy (l : List qf) (x y : Int) : cntR l x y = cntS (covS l x) y:=by
  unfold cntR cntS
  induction l with
  | nil=>rfl
  | cons r l ih=>
    have e : covS (r::l) x = (if covR x r = true then [ysp r] else []) ++ covS l x:=rfl
    rw [sumL,ih,e,qem]
    congr 1
    by_cases hc : covR x r = true
    · rw [if_pos hc]
      have:=q4a.1 hc
      simp only [sumL,Int.add_zero]
      exact q1i ⟨fun h=>h.2,fun h=>⟨this,h⟩⟩
    · rw [if_neg hc]
      rw [q4a] at hc
      exact Z6 fun h=>hc h.1
theorem qmx (l : List qg) (x y z : Int) : cntB l x y z = cntR (atB l z) x y:=by
  unfold cntB cntR
  induction l with
  | nil=>rfl
  | cons r l ih=>
    have e : atB (r::l) z = (if covB z r = true then [Yc r] else []) ++ atB l z:=rfl
    rw [sumL,ih,e,qem]
    congr 1
    by_cases hc : covB z r = true
    · rw [if_pos hc]
      have:=q13.1 hc
      simp only [sumL,Int.add_zero]
      exact q1i ⟨fun h=>⟨h.1,h.2.1⟩,fun h=>⟨h.1,h.2,this⟩⟩
    · rw [if_neg hc]
      rw [q13] at hc
      exact Z6 fun h=>hc h.2.2
theorem CanR.cnt {l : List qf} (h : CanR l) (x y : Int) : cntR l x y = ind (hasR l x y):=by
  rw [qmy,qc7 (h.cov x),q1i U1]
theorem CanB.cnt {l : List qg} (h : CanB l) (x y z : Int) : cntB l x y z = ind (hasB l x y z):=by
  rw [qmx,(h.at z).cnt,q1i q2k]
def volL (l : List qg) : Int:=sumL volB l
theorem qz6 {N : Nat} {l : List qg} (hc : ∀ x y z,cntB l x y z = ind (hasB l x y z)) (h : ∀ b∈l,(b.Lo.X≤b.Hi.X∧b.Lo.Y≤b.Hi.Y∧b.Lo.Z≤b.Hi.Z)∧(-(N : Int)≤b.Lo.X∧-(N : Int)≤b.Lo.Y∧-(N : Int)≤b.Lo.Z)∧b.Hi.X≤N∧b.Hi.Y≤N∧b.Hi.Z≤N) :
    volL l = cnt3 N (hasB l):=by
  unfold volL
  rw [qbf fun b hb=>qz4 (h b hb)]
  unfold cnt3
  rw [q6f]
  congr 1;funext x
  rw [q6f]
  congr 1;funext y
  rw [q6f]
  congr 1;funext z
  exact hc x y z
theorem ql2 {l : List qg} (hc : CanB l) (h : ∀ b∈l,vB b) : volL l = cnt3 1000000 (hasB l):=
  qz6 hc.cnt fun b hb=>by have:=h b hb;unfold vB at this;omega
end Go.Sh
namespace Go.Sh
open Go Go.Am
theorem qo8 {α β γ : Type} (l : List α) (hl : l.length≤1000000) (g : γ→α→γ) (fin : γ→β) (f : γ × Int→Option ((γ × Int) ⊕ β))
    (hs : ∀ k (h : k < l.length) (s : γ),f (s,(k : Int)) = some (.inl (g s l[k],((k + 1 : Nat) : Int)))) (hd : ∀ s,f (s,(l.length : Int)) = some (.inr (fin s))) (s : γ) :
    loop f (s,0) = some (fin (l.foldl g s)):=by
  have key:=Yp (f:=f) (fun k=>((l.take k).foldl g s,(k : Int))) l.length (fin (l.foldl g s)) (fun k hk=>by
    rw [hs k hk,List.take_succ_eq_append_getElem hk,List.foldl_append];rfl) (by rw [List.take_length,hd]) (Nat.zero_le _)
  exact key
theorem qeq (x : Int) : w64 x = if 9223372036854775808≤x % 18446744073709551616 then x % 18446744073709551616 - 18446744073709551616 else x % 18446744073709551616:=by
  unfold w64 IntKind.wrap
  simp [IntKind.bits,IntKind.signed]
theorem qzb (x y : Int) (h : x % 18446744073709551616 = y % 18446744073709551616) : w64 x = w64 y:=by rw [qeq,qeq,h]
theorem qzc (x : Int) : w64 x % 18446744073709551616 = x % 18446744073709551616:=by rw [qeq];split <;> omega
theorem qza (a b : Int) : w64 (w64 a + b) = w64 (a + b):=qzb _ _ (by have:=qzc a;omega)
theorem qrl {x y z : Int} (hx : 0≤x∧x≤2000000) (hy : 0≤y∧y≤2000000) (hz : 0≤z∧z≤2000000) : (0≤x * y∧x * y≤4000000000000)∧0≤x * y * z∧x * y * z≤8000000000000000000:=by
  have h1 : 0≤x * y:=Int.mul_nonneg hx.1 hy.1
  have h2 : x * y≤2000000 * 2000000:=Int.mul_le_mul hx.2 hy.2 hy.1 (by omega)
  have h3 : 0≤x * y * z:=Int.mul_nonneg h1 hz.1
  have h4 : x * y * z≤4000000000000 * 2000000:=Int.mul_le_mul (by omega) hz.2 hz.1 (by omega)
  omega
theorem qz9 {b : qg} (h : vB b) : w64 ((w64 ((w64 (b.Hi.X - b.Lo.X)) * (w64 (b.Hi.Y - b.Lo.Y)))) * (w64 (b.Hi.Z - b.Lo.Z))) = volB b:=by
  unfold vB at h
  rw [qz (x:=b.Hi.X - b.Lo.X) (by omega),qz (x:=b.Hi.Y - b.Lo.Y) (by omega),qz (x:=b.Hi.Z - b.Lo.Z) (by omega)]
  have:=qrl (x:=b.Hi.X - b.Lo.X) (y:=b.Hi.Y - b.Lo.Y) (z:=b.Hi.Z - b.Lo.Z) (by omega) (by omega) (by omega)
  rw [qz (x:=(b.Hi.X - b.Lo.X) * (b.Hi.Y - b.Lo.Y)) (by omega),qz (by omega)];rfl
theorem qgx {α : Type} (f : α→Int) : ∀ (l : List α) (n m : Int),n = w64 m→l.foldl (fun n b=>w64 (n + f b)) n = w64 (m + sumL f l)
  | [],n,m,h=>by simp [sumL,h]
  | b::l,n,m,h=>by
    rw [List.foldl_cons,qgx f l _ (m + f b) (by rw [h,qza]),sumL,Int.add_assoc]
theorem qgw {α γ : Type} {f g : γ→α→γ} : ∀ {l : List α} {s : γ},(∀ b∈l,∀ s,f s b = g s b)→l.foldl f s = l.foldl g s
  | [],_,_=>rfl
  | b::l,s,h=>by rw [List.foldl_cons,List.foldl_cons,h b (by simp),qgw fun c hc=>h c (by simp [hc])]
theorem qmw (N : Nat) (P : Int→Int→Int→Prop) : 0≤cnt3 N P∧cnt3 N P≤2 * N * (2 * N * (2 * N * 1)):=by
  constructor
  · exact qbi fun x _ _=>qbi fun y _ _=>qbi fun z _ _=>qad.1
  · rw [← qbg (N:=N) (c:=1),← qbg,← qbg]
    exact q9c fun x _ _=>q9c fun y _ _=>q9c fun z _ _=>qad.2
theorem qz5 {l : List qg} (h : Qz l = 0) : 0≤volL l∧volL l≤8000000000000000000:=by
  obtain ⟨h1,h2,h3⟩:=J8.1 h
  rw [ql2 h3 h2]
  have:=qmw 1000000 (hasB l)
  omega
noncomputable def volume (l : List qg) : Int × Int:=if Qz l≠0 then (0,Qz l) else (volL l,0)
theorem qz8 {l : List qg} (h : Qz l = 0) : l.foldl (fun n b=>w64 (n + w64 ((w64 ((w64 (b.Hi.X - b.Lo.X)) * (w64 (b.Hi.Y - b.Lo.Y)))) * (w64 (b.Hi.Z - b.Lo.Z))))) 0 = volL l:=by
  obtain ⟨h1,h2,h3⟩:=J8.1 h
  rw [qgw (g:=fun n b=>w64 (n + volB b)) fun b hb s=>by rw [qz9 (h2 b hb)]]
  rw [qgx volB l 0 0 (by rw [qz (by omega)])]
  have:=qz5 h
  rw [qz (by unfold volL at this;omega),Int.zero_add];rfl
theorem qka (l : List qg) : q3v l = some (volume l):=by
  unfold q3v volume
  rw [qeg,Option.bind_some]
  by_cases h : Qz l = 0
  · rw [if_neg (by simp [h]),h,show ((0 : Int) != 0) = false from rfl,cond_false]
    have hl:=(J8.1 h).1
    rw [qo8 l (by omega) (fun n b=>w64 (n + w64 ((w64 ((w64 (b.Hi.X - b.Lo.X)) * (w64 (b.Hi.Y - b.Lo.Y)))) * (w64 (b.Hi.Z - b.Lo.Z))))) (fun n=>n) (q6a l) (fun k hk s=>by
      simp only [q6a,dlt hk,cond_true,Qf hk,Option.bind_some,qba,w64s hk (by omega)]) (fun s=>by simp only [q6a,dnl,cond_false]) 0,qz8 h]
    rfl
  · have : (Qz l != 0) = true:=by simpa using h
    rw [if_pos h,this,cond_true]
theorem qot {b : qg} {l : List qg} {x y z : Int} : hasB (b::l) x y z↔inB b x y z∨hasB l x y z:=by
  constructor
  · rintro ⟨c,hc,h⟩
    rcases List.mem_cons.1 hc with rfl | hc
    · exact .inl h
    · exact .inr ⟨c,hc,h⟩
  · rintro (h | ⟨c,hc,h⟩)
    · exact ⟨b,by simp,h⟩
    · exact ⟨c,by simp [hc],h⟩
instance (b : qg) (x y z : Int) : Decidable (inB b x y z):=by unfold inB;infer_instance
instance qnl : (l : List qg)→(x y z : Int)→Decidable (hasB l x y z)
  | [],x,y,z=>isFalse (qcq x y z)
  | b::l,x,y,z=>by
    have:=qnl l x y z
    exact decidable_of_iff _ qot.symm
theorem qs3 (b : qg) (v : qi) : qj6 b v = some (decide (inB b v.X v.Y v.Z)):=by
  unfold qj6 inB
  by_cases h1 : b.Lo.X≤v.X <;> by_cases h2 : v.X < b.Hi.X <;> by_cases h3 : b.Lo.Y≤v.Y <;> by_cases h4 : v.Y < b.Hi.Y <;> by_cases h5 : b.Lo.Z≤v.Z <;> by_cases h6 : v.Z < b.Hi.Z <;> simp [h1,h2,h3,h4,h5,h6]
theorem qxl (b : qg) (v : qi) : q69 b v = some (decide (inB b v.X v.Y v.Z)):=qs3 b v
theorem qxn (l : List qg) (v : qi) (hl : l.length≤1000000) : q8v l v = some (decide (hasB l v.X v.Y v.Z)):=by
  unfold q8v q3i q82
  rcases q15 l (fun b=>decide (inB b v.X v.Y v.Z)) (fun k _=>(k : Int)) () (U8 l (fun x0=>q69 x0 v)) (fun k hk=>by
    simp only [U8,dlt hk,cond_true,Qf hk,Option.bind_some,qxl,w64s hk hl]
    by_cases hv : inB l[k] v.X v.Y v.Z <;> simp [hv]) (by simp only [U8,dnl,cond_false]) with ⟨h1,h2⟩ | ⟨k,hk,hc,_,h2⟩
  · rw [h2]
    simp only [Option.bind_some]
    congr 1
    rw [show decide ((-1 : Int) ≥ 0) = false from rfl]
    refine (decide_eq_false ?_).symm
    rintro ⟨b,hb,h⟩
    have:=h1 b hb
    simp at this
    exact this h
  · rw [h2]
    simp only [Option.bind_some]
    congr 1
    rw [decide_eq_true (by omega : (k : Int) ≥ 0)]
    refine (decide_eq_true ?_).symm
    exact ⟨l[k],List.getElem_mem hk,of_decide_eq_true hc⟩
end Go.Sh
namespace Go.Sh
open Go Go.Am
end Go.Sh
namespace Go.Sh
open Go Go.Am
abbrev V3:=qi × qi × qi
def zeroV : qi:=⟨0,0,0⟩
noncomputable def axT (t : Nat) : V3:=match q17 (t : Int) with
  | some m=>m
  | none=>(zeroV,zeroV,zeroV)
theorem qa4 : ∀ t : Nat,t < 24→q17 (t : Int) = some (axT t):=by decide +kernel
def Yl (v : qi) : Prop:=-1≤v.X∧v.X≤1∧-1≤v.Y∧v.Y≤1∧-1≤v.Z∧v.Z≤1
instance (v : qi) : Decidable (Yl v):=by unfold Yl;infer_instance
theorem qbx : ∀ t : Nat,t < 24→Yl (axT t).1∧Yl (axT t).2.1∧Yl (axT t).2.2:=by decide +kernel
theorem qls : ∀ t : Nat,t < 24→∀ u : Nat,u < 24→axT t = axT u→t = u:=by decide +kernel
theorem qlt : axT 0 = (⟨1,0,0⟩,⟨0,1,0⟩,⟨0,0,1⟩):=by decide +kernel
def mulV (m : V3) (v : qi) : qi:=⟨v.X * m.1.X + v.Y * m.2.1.X + v.Z * m.2.2.X,v.X * m.1.Y + v.Y * m.2.1.Y + v.Z * m.2.2.Y,v.X * m.1.Z + v.Y * m.2.1.Z + v.Z * m.2.2.Z⟩
def addV (a b : qi) : qi:=⟨a.X + b.X,a.Y + b.Y,a.Z + b.Z⟩
def Yv (v : qi) (n : Int) : Prop:=-n≤v.X∧v.X≤n∧-n≤v.Y∧v.Y≤n∧-n≤v.Z∧v.Z≤n
theorem qpz {a b : Int} {n : Int} (ha : -n≤a∧a≤n) (hb : -1≤b∧b≤1) : -n≤a * b∧a * b≤n:=by
  have : b = -1∨b = 0∨b = 1:=by omega
  rcases this with rfl | rfl | rfl <;> simp <;> omega
theorem qig {m : V3} {v : qi} {n : Int} (hm : Yl m.1∧Yl m.2.1∧Yl m.2.2) (hv : Yv v n) :
    (∀ a∈[v.X * m.1.X,v.Y * m.2.1.X,v.Z * m.2.2.X,v.X * m.1.Y,v.Y * m.2.1.Y,v.Z * m.2.2.Y,v.X * m.1.Z,v.Y * m.2.1.Z,v.Z * m.2.2.Z],-n≤a∧a≤n):=by
  obtain ⟨⟨a1,a2,a3,a4,a5,a6⟩,⟨b1,b2,b3,b4,b5,b6⟩,⟨c1,c2,c3,c4,c5,c6⟩⟩:=hm
  obtain ⟨v1,v2,v3,v4,v5,v6⟩:=hv
  intro a ha
  simp only [List.mem_cons,List.not_mem_nil,or_false] at ha
  rcases ha with rfl | rfl | rfl | rfl | rfl | rfl | rfl | rfl | rfl <;> exact qpz ⟨by assumption,by assumption⟩ ⟨by assumption,by assumption⟩
theorem qpy {m : V3} {v : qi} {n : Int} (hm : Yl m.1∧Yl m.2.1∧Yl m.2.2) (hv : Yv v n) : Yv (mulV m v) (3 * n):=by
  have b:=qig hm hv
  simp only [List.mem_cons,List.not_mem_nil,or_false,forall_eq_or_imp,forall_eq] at b
  unfold Yv mulV
  simp only
  omega
theorem qa7 {m : V3} {v : qi} (hm : Yl m.1∧Yl m.2.1∧Yl m.2.2) (hv : Yv v 1000000000000) : q4f m v = some (mulV m v):=by
  have b:=qig hm hv
  simp only [List.mem_cons,List.not_mem_nil,or_false,forall_eq_or_imp,forall_eq] at b
  unfold q4f mulV
  congr 2
  · rw [qz (x:=v.X * m.1.X) (by omega),qz (x:=v.Y * m.2.1.X) (by omega),qz (x:=v.Z * m.2.2.X) (by omega),qz (x:=v.X * m.1.X + _) (by omega),qz (by omega)]
  · rw [qz (x:=v.X * m.1.Y) (by omega),qz (x:=v.Y * m.2.1.Y) (by omega),qz (x:=v.Z * m.2.2.Y) (by omega),qz (x:=v.X * m.1.Y + _) (by omega),qz (by omega)]
  · rw [qz (x:=v.X * m.1.Z) (by omega),qz (x:=v.Y * m.2.1.Z) (by omega),qz (x:=v.Z * m.2.2.Z) (by omega),qz (x:=v.X * m.1.Z + _) (by omega),qz (by omega)]
noncomputable def Yu (t : Nat) (at_ v : qi) : qi:=addV (mulV (axT t) v) at_
theorem qoi {f : Qn} {t : Nat} {v : qi} (ht : f.Turn = t) (h : t < 24) (ha : Yv f.At 1000000000000) (hv : Yv v 1000000000000) : q74 f v = some (Yu t f.At v):=by
  have hu:=qbx t h
  unfold q74
  rw [ht,qa4 t h]
  simp only [Option.bind_some,qa7 hu hv]
  have b:=qpy hu hv
  unfold Yv at b ha
  unfold Yu addV
  rw [qz (by omega),qz (by omega),qz (by omega)]
theorem qq0 {u : Nat} (h : u < 24) : q75 (axT u) = some (u : Int):=by
  have key:=Z7 (f:=q4e (axT u)) (σ:=Unit) (fun k _=>(k : Int)) 24 (fun k _=>k≤u) (fun b=>b = .inr (u : Int)) ?_ ?_ (k0:=0) (c0:=()) (by omega) (by omega)
  · obtain ⟨b,h1,rfl⟩:=key
    have h1 : loop (q4e (axT u)) 0 = some (.inr (u : Int)):=h1
    unfold q75;rw [h1];rfl
  · intro k _ hk hku
    have hb : decide ((k : Int) < 24) = true:=decide_eq_true (by omega)
    simp only [q4e,hb,cond_true,qa4 k hk,Option.bind_some]
    by_cases e : k = u
    · subst e
      exact .inr ⟨.inr (k : Int),by simp,rfl⟩
    · have hne : axT k≠axT u:=fun he=>e (qls k hk u h he)
      refine .inl ⟨(),?_,by omega⟩
      have hw : IntKind.u8.wrap ((k : Int) + 1) = ((k + 1 : Nat) : Int):=by
        simp [IntKind.wrap,IntKind.bits,IntKind.signed];omega
      have hbeq : ((axT k).1.X == (axT u).1.X && ((axT k).1.Y == (axT u).1.Y && ((axT k).1.Z == (axT u).1.Z && ((axT k).2.1.X == (axT u).2.1.X && ((axT k).2.1.Y == (axT u).2.1.Y && ((axT k).2.1.Z == (axT u).2.1.Z && ((axT k).2.2.X == (axT u).2.2.X && ((axT k).2.2.Y == (axT u).2.2.Y && ((axT k).2.2.Z == (axT u).2.2.Z && true))))))))) = false:=by
        rw [Bool.eq_false_iff]
        intro hh
        simp only [Bool.and_eq_true,beq_iff_eq] at hh
        apply hne
        generalize axT k = a at hh ⊢
        generalize axT u = b at hh ⊢
        obtain ⟨⟨a1,a2,a3⟩,⟨a4,a5,a6⟩,⟨a7,a8,a9⟩⟩:=a
        obtain ⟨⟨b1,b2,b3⟩,⟨b4,b5,b6⟩,⟨b7,b8,b9⟩⟩:=b
        simp only at hh
        obtain ⟨rfl,rfl,rfl,rfl,rfl,rfl,rfl,rfl,rfl,_⟩:=hh
        rfl
      rw [hbeq,hw];rfl
  · intro _ hi;omega
def qg2 (n m : V3) : V3:=(mulV n m.1,mulV n m.2.1,mulV n m.2.2)
noncomputable def Zw (t u : Nat) : Nat:=match (List.range 24).find? (fun v=>decide (axT v = qg2 (axT u) (axT t))) with
  | some v=>v
  | none=>0
theorem qn5 : ∀ t : Nat,t < 24→∀ u : Nat,u < 24→Zw t u < 24∧axT (Zw t u) = qg2 (axT u) (axT t):=by decide +kernel
theorem qn6 : ∀ u : Nat,u < 24→Zw 0 u = u:=by decide +kernel
theorem qep {v : qi} (h : Yl v) : Yv v 1000000000000:=by unfold Yl at h;unfold Yv;omega
theorem qzj {f g : Qn} {t u : Nat} (ht : f.Turn = t) (hu : g.Turn = u) (h : t < 24) (h' : u < 24) (hf : Yv f.At 1000000000000) (hg : Yv g.At 1000000000000) : q76 f g = some ⟨(Zw t u : Nat),Yu u g.At f.At⟩:=by
  have au:=qbx u h'
  obtain ⟨b1,b2,b3⟩:=qbx t h
  unfold q76
  rw [ht,hu,qa4 t h,qa4 u h']
  simp only [Option.bind_some]
  have s1:=qa7 au (qep b1)
  have s2:=qa7 au (qep b2)
  have s3:=qa7 au (qep b3)
  have key : loop (q18 (axT u)) (0,[(axT t).1,(axT t).2.1,(axT t).2.2]) = some [mulV (axT u) (axT t).1,mulV (axT u) (axT t).2.1,mulV (axT u) (axT t).2.2]:=by
    rw [K1 (a':=((1 : Int),[mulV (axT u) (axT t).1,(axT t).2.1,(axT t).2.2])) (by simp [q18,idxA,s1,qz])]
    rw [K1 (a':=((2 : Int),[mulV (axT u) (axT t).1,mulV (axT u) (axT t).2.1,(axT t).2.2])) (by simp [q18,idxA,s2,qz])]
    rw [K1 (a':=((3 : Int),[mulV (axT u) (axT t).1,mulV (axT u) (axT t).2.1,mulV (axT u) (axT t).2.2])) (by simp [q18,idxA,s3,qz])]
    exact K0 (by simp [q18])
  rw [key]
  simp only [Option.bind_some,arr3]
  obtain ⟨c1,c2⟩:=qn5 t h u h'
  have : (mulV (axT u) (axT t).1,mulV (axT u) (axT t).2.1,mulV (axT u) (axT t).2.2) = axT (Zw t u):=c2.symm
  rw [this,qq0 c1,qoi hu h' hg hf]
  rfl
def InV (v : qi) (lo : Int) : Prop:=lo≤v.X∧v.X≤1000000∧lo≤v.Y∧v.Y≤1000000∧lo≤v.Z∧v.Z≤1000000
instance (v : qi) (lo : Int) : Decidable (InV v lo):=by unfold InV;infer_instance
theorem qch (v : qi) (lo : Int) : q2h v lo = some (decide (InV v lo)):=by
  unfold q2h
  by_cases a : min (min v.X v.Y) v.Z ≥ lo
  · by_cases b : max (max v.X v.Y) v.Z≤1000000
    · have : InV v lo:=by unfold InV;omega
      simp only [decide_eq_true a,decide_eq_true b,decide_eq_true this,cond_true,Option.bind_some]
    · have : ¬ InV v lo:=by unfold InV;omega
      simp only [decide_eq_true a,decide_eq_false b,decide_eq_false this,cond_true,Option.bind_some]
  · have : ¬ InV v lo:=by unfold InV;omega
    simp only [decide_eq_false a,decide_eq_false this,cond_false,Option.bind_some]
def FOk (f : Qn) : Prop:=f.Turn < 24∧InV f.At (-1000000)
instance (f : Qn) : Decidable (FOk f):=by unfold FOk;infer_instance
def SOk (s : Q6) : Prop:=FOk s.Frame∧InV s.Size 0
instance (s : Q6) : Decidable (SOk s):=by unfold SOk;infer_instance
theorem qfo {P Q : Prop} [Decidable P] [Decidable Q] {R : Prop} [Decidable R] (h : R↔P∧Q) : ((cond (decide (¬ P)) (some true) ((some (decide Q)).bind fun r10=>some (!r10))).bind fun c3=>cond c3 (some (8 : Int)) (some 0)) = some (if R then 0 else 8):=by
  by_cases p : P <;> by_cases q : Q <;> simp [p,q,h]
theorem q70 (f : Qn) : Uf f = some (if FOk f then 0 else 8):=by
  unfold Uf
  rw [qch]
  have e : decide (f.Turn ≥ 24) = decide (¬ f.Turn < 24):=by rw [decide_eq_decide];omega
  rw [e]
  exact qfo Iff.rfl
theorem qq1 {P : Prop} [Decidable P] {a : Int} (h : a≠0) : ((if P then (0 : Int) else a) != 0) = decide (¬ P):=by
  by_cases p : P <;> simp [p,h]
theorem qgn (s : Q6) : q73 s = some (if SOk s then 0 else 8):=by
  unfold q73
  rw [q70,qch]
  simp only [Option.bind_some,qq1 (show (8 : Int)≠0 by omega)]
  exact qfo Iff.rfl
theorem qho {v : qi} {lo : Int} (h : InV v lo) (hl : -1000000≤lo) : Yv v 1000000000000:=by unfold InV at h;unfold Yv;omega
def qzq : Qn:=⟨0,⟨0,0,0⟩⟩
def Kx : Q6:=⟨⟨0,⟨0,0,0⟩⟩,⟨0,0,0⟩⟩
theorem qld {f g : Qn} {t u : Nat} (ht : f.Turn = t) (hu : g.Turn = u) (hf : FOk f) (hg : FOk g) :
    q72 f g = some (if FOk ⟨(Zw t u : Nat),Yu u g.At f.At⟩ then (⟨(Zw t u : Nat),Yu u g.At f.At⟩,0) else (qzq,16)):=by
  unfold q72
  rw [q70,q70,if_pos hf,if_pos hg]
  have h1 : ((0 : Int) != 0) = false:=rfl
  simp only [Option.bind_some,h1,cond_false]
  have t24 : t < 24:=by have:=hf.1;omega
  have u24 : u < 24:=by have:=hg.1;omega
  rw [qzj ht hu t24 u24 (qho hf.2 (by omega)) (qho hg.2 (by omega))]
  simp only [Option.bind_some,q70]
  by_cases h : FOk ⟨(Zw t u : Nat),Yu u g.At f.At⟩
  · simp only [if_pos h];rfl
  · simp only [if_neg h];rfl
theorem qey {s : Q6} {a z : qi} {t u : Nat} (hu : s.Frame.Turn = u) (hs : SOk s) (h24 : t < 24) (ha : InV a (-1000000)) (hz : InV z 0) :
    Zd s a z (t : Int) = some (if FOk ⟨(Zw t u : Nat),Yu u s.Frame.At a⟩ then (⟨⟨(Zw t u : Nat),Yu u s.Frame.At a⟩,z⟩,0) else (Kx,16)):=by
  unfold Zd
  have hf : FOk ⟨(t : Int),a⟩:=⟨by show (t : Int) < 24;omega,ha⟩
  rw [qgn,if_pos hs,q70,if_pos hf,qch,decide_eq_true hz]
  have h1 : ((0 : Int) != 0) = false:=rfl
  simp only [Option.bind_some,h1,cond_false,Bool.not_true]
  rw [qld (f:=⟨(t : Int),a⟩) rfl hu hf hs.1]
  by_cases h : FOk ⟨(Zw t u : Nat),Yu u s.Frame.At a⟩
  · simp only [if_pos h];rfl
  · simp only [if_neg h];rfl
theorem qla {s : Q6} {a z : qi} {t : Int} (hs : ¬ SOk s) : Zd s a z t = some (Kx,8):=by
  unfold Zd
  rw [qgn,if_neg hs]
  rfl
theorem qoy (u : Nat) (a : qi) : Yu u a ⟨0,0,0⟩ = a:=by
  unfold Yu addV mulV;simp
end Go.Sh
namespace Go.Sh
open Go Go.Am
def rowOk (a b c : Int) : Prop:=(a = 1∧b = 0∧c = 0)∨(a = -1∧b = 0∧c = 0)∨(a = 0∧b = 1∧c = 0)∨(a = 0∧b = -1∧c = 0)∨(a = 0∧b = 0∧c = 1)∨(a = 0∧b = 0∧c = -1)
instance (a b c : Int) : Decidable (rowOk a b c):=by unfold rowOk;infer_instance
def qy1 (p q : qi) : qg:={Lo:=({X:=min p.X q.X,Y:=min p.Y q.Y,Z:=min p.Z q.Z} : qi),Hi:=({X:=max p.X q.X,Y:=max p.Y q.Y,Z:=max p.Z q.Z} : qi)}
noncomputable def qiz (t : Nat) (at_ : qi) (b : qg) : qg:=qy1 (Yu t at_ b.Lo) (Yu t at_ b.Hi)
noncomputable def place (l : List qg) (f : Qn) : List qg × Int:=
  if Qz l≠0 then ([],Qz l) else if ¬ FOk f then ([],8) else if ∀ b∈l,vB (qiz f.Turn.toNat f.At b) then mkB (l.map (qiz f.Turn.toNat f.At)) else ([],16)
end Go.Sh
namespace Go.Sh
open Go Go.Am
end Go.Sh
namespace Go.Sh
open Go Go.Am
def grpR : List qf→List (Grp qj)
  | []=>[]
  | r::l=>match grpR l with
    | g::gs=>if g.lo = r.X0∧g.hi = r.X1 then ⟨g.lo,g.hi,ysp r::g.sec⟩::gs else ⟨r.X0,r.X1,[ysp r]⟩::g::gs
    | []=>[⟨r.X0,r.X1,[ysp r]⟩]
def grpB : List qg→List (Grp qf)
  | []=>[]
  | r::l=>match grpB l with
    | g::gs=>if g.lo = r.Lo.Z∧g.hi = r.Hi.Z then ⟨g.lo,g.hi,Yc r::g.sec⟩::gs else ⟨r.Lo.Z,r.Hi.Z,[Yc r]⟩::g::gs
    | []=>[⟨r.Lo.Z,r.Hi.Z,[Yc r]⟩]
theorem qhh : ∀ l : List qf,Ka putR (grpR l) = l
  | []=>rfl
  | r::l=>by
    have ih:=qhh l
    unfold grpR
    split
    · rename_i g gs h
      rw [h] at ih
      split
      · rename_i h1
        obtain ⟨h1,h2⟩:=h1
        rw [← ih]
        simp only [Ka,List.flatMap_cons,List.map_cons,List.cons_append,h1,h2]
        congr 1
      · rw [← ih];rfl
    · rename_i h
      rw [h] at ih
      rw [← ih];rfl
theorem qhg : ∀ l : List qg,Ka putB (grpB l) = l
  | []=>rfl
  | r::l=>by
    have ih:=qhg l
    unfold grpB
    split
    · rename_i g gs h
      rw [h] at ih
      split
      · rename_i h1
        obtain ⟨h1,h2⟩:=h1
        rw [← ih]
        simp only [Ka,List.flatMap_cons,List.map_cons,List.cons_append,h1,h2]
        congr 1
      · rw [← ih];rfl
    · rename_i h
      rw [h] at ih
      rw [← ih];rfl
instance {σ : Type} [DecidableEq σ] (gs : List (Grp σ)) : Decidable (CanG gs):=by unfold CanG;infer_instance
instance (s : List qj) : Decidable (Can s):=by unfold Can;infer_instance
def isR (l : List qf) : Prop:=CanG (grpR l)∧∀ g∈grpR l,Can g.sec
instance (l : List qf) : Decidable (isR l):=by unfold isR;infer_instance
def isB (l : List qg) : Prop:=CanG (grpB l)∧∀ g∈grpB l,isR g.sec
instance (l : List qg) : Decidable (isB l):=by unfold isB;infer_instance
theorem isR.can {l : List qf} (h : isR l) : CanR l:=⟨grpR l,(qhh l).symm,h.1,h.2⟩
theorem isB.can {l : List qg} (h : isB l) : CanB l:=⟨grpB l,(qhg l).symm,h.1,fun g hg=>(h.2 g hg).can⟩
theorem qfk {l : List qg} (h : l.length≤400∧(∀ b∈l,vB b)∧isB l) : Qz l = 0:=J8.2 ⟨h.1,h.2.1,h.2.2.can⟩
def bx (x y z u v w : Int) : qg:={Lo:=({X:=x,Y:=y,Z:=z} : qi),Hi:=({X:=u,Y:=v,Z:=w} : qi)}
instance (kind : Int) (a b : Prop) [Decidable a] [Decidable b] : Decidable (Kn kind a b):=by unfold Kn;infer_instance
end Go.Sh
namespace Go.Sh
open Go Go.Am
end Go.Sh
