/- Qa1 Qa2 Qa3 Rs1 Rs2 Rs3 Qb1 -/
import Derived.Test.YtjjmcdlnadkjbaaGreatK11
namespace Go.Sh
open Go Go.Am
structure Grp (σ : Type) where
  lo : Int
  hi : Int
  sec : List σ
section
variable {σ β : Type}
def CanG (gs : List (Grp σ)) : Prop:=(∀ g∈gs,g.lo < g.hi∧g.sec≠[])∧gs.Pairwise (fun g h=>g.hi≤h.lo∧(g.hi = h.lo→g.sec≠h.sec))
def secG : List (Grp σ)→Int→List σ
  | [],_=>[]
  | g::r,x=>if g.lo≤x∧x < g.hi then g.sec else secG r x
def Kb (put : Int→Int→σ→β) (gs : List (Grp σ)) : List β:=gs.flatMap fun g=>g.sec.map (put g.lo g.hi)
theorem qp4 (put : Int→Int→σ→β) (a b : List (Grp σ)) : Kb put (a ++ b) = Kb put a ++ Kb put b:=by simp [Kb]
theorem q27 {y x : Int} : ∀ {r : List (Grp σ)},(∀ h∈r,y≤h.lo)→x < y→secG r x = []
  | [],_,_=>rfl
  | g::r,h,hx=>by
    have:=h g (by simp)
    rw [secG,if_neg (by omega)]
    exact q27 (fun k hk=>h k (by simp [hk])) hx
theorem q5p {y x : Int} : ∀ {r : List (Grp σ)},(∀ h∈r,h.hi≤y)→y≤x→secG r x = []
  | [],_,_=>rfl
  | g::r,h,hx=>by
    have:=h g (by simp)
    rw [secG,if_neg (by omega)]
    exact q5p (fun k hk=>h k (by simp [hk])) hx
theorem q87 {x : Int} : ∀ {a b : List (Grp σ)},secG a x = []→(∀ g∈a,g.sec≠[])→secG (a ++ b) x = secG b x
  | [],_,_,_=>rfl
  | g::a,b,h,hne=>by
    rw [secG] at h
    split at h
    · exact absurd h (hne g (by simp))
    · rename_i hx
      rw [List.cons_append,secG,if_neg hx]
      exact q87 h fun k hk=>hne k (by simp [hk])
theorem qet {y x : Int} {a b : List (Grp σ)} (hb : ∀ h∈b,y≤h.lo) (hx : x < y) : secG (a ++ b) x = secG a x:=by
  induction a with
  | nil=>exact q27 hb hx
  | cons g a ih=>simp only [List.cons_append,secG,ih]
theorem CanG.tail {g : Grp σ} {r : List (Grp σ)} (h : CanG (g::r)) : CanG r:=⟨fun k hk=>h.1 k (by simp [hk]),(List.pairwise_cons.1 h.2).2⟩
theorem CanG.nxt {g : Grp σ} {r : List (Grp σ)} (h : CanG (g::r)) : ∀ k∈r,g.hi≤k.lo∧(g.hi = k.lo→g.sec≠k.sec):=(List.pairwise_cons.1 h.2).1
theorem q26 {g : Grp σ} {r : List (Grp σ)} {x : Int} (h1 : g.lo≤x) (h2 : x < g.hi) : secG (g::r) x = g.sec:=by rw [secG,if_pos ⟨h1,h2⟩]
theorem quw {g : Grp σ} {r : List (Grp σ)} (h : CanG (g::r)) : secG (g::r) g.hi≠g.sec:=by
  rw [secG,if_neg (by omega)]
  cases r with
  | nil=>exact fun e=>(h.1 g (by simp)).2 e.symm
  | cons k r=>
    have hk:=h.nxt k (by simp)
    have hk2:=h.tail.1 k (by simp)
    by_cases he : g.hi = k.lo
    · rw [q26 (by omega) (by omega)];exact fun e=>hk.2 he e.symm
    · rw [secG,if_neg (by omega),q27 (y:=k.hi) (fun m hm=>(h.tail.nxt m hm).1) (by omega)]
      exact fun e=>(h.1 g (by simp)).2 e.symm
theorem qct : ∀ {a b : List (Grp σ)},CanG a→CanG b→(∀ x,secG a x = secG b x)→a = b
  | [],[],_,_,_=>rfl
  | [],g::r,_,hb,h=>by
    have:=h g.lo
    rw [q26 (Int.le_refl _) (hb.1 g (by simp)).1] at this
    exact absurd this.symm (hb.1 g (by simp)).2
  | g::r,[],ha,_,h=>by
    have:=h g.lo
    rw [q26 (Int.le_refl _) (ha.1 g (by simp)).1] at this
    exact absurd this (ha.1 g (by simp)).2
  | g::r,k::s,ha,hb,h=>by
    have hg:=ha.1 g (by simp)
    have hk:=hb.1 k (by simp)
    have low : ∀ {g k : Grp σ} {r s : List (Grp σ)},CanG (g::r)→CanG (k::s)→(∀ x,secG (g::r) x = secG (k::s) x)→k.lo≤g.lo:=by
      intro g k r s ha hb h
      refine Int.not_lt.1 fun hlt=>?_
      have h1:=h g.lo
      rw [q26 (Int.le_refl _) (ha.1 g (by simp)).1,q27 (y:=k.lo) (fun m hm=>?_) hlt] at h1
      · exact (ha.1 g (by simp)).2 h1
      · rcases List.mem_cons.1 hm with rfl | hm
        · exact Int.le_refl _
        · have:=(hb.nxt m hm).1;have:=(hb.1 k (by simp)).1;omega
    have e1 : g.lo = k.lo:=Int.le_antisymm (low hb ha fun x=>(h x).symm) (low ha hb h)
    have e2 : g.sec = k.sec:=by
      have h1:=h g.lo
      rwa [q26 (Int.le_refl _) hg.1,q26 (by omega) (by omega)] at h1
    have hi : ∀ {g k : Grp σ} {r s : List (Grp σ)},CanG (g::r)→CanG (k::s)→(∀ x,secG (g::r) x = secG (k::s) x)→g.lo = k.lo→g.sec = k.sec→k.hi≤g.hi:=by
      intro g k r s ha hb h e1 e2
      refine Int.not_lt.1 fun hlt=>?_
      have h1:=h g.hi
      have:=(ha.1 g (by simp)).1
      rw [q26 (g:=k) (by omega) hlt,← e2] at h1
      exact quw ha h1
    have e3 : g.hi = k.hi:=Int.le_antisymm (hi hb ha (fun x=>(h x).symm) e1.symm e2.symm) (hi ha hb h e1 e2)
    have e : g = k:=by cases g;cases k;simp at e1 e2 e3;simp [e1,e2,e3]
    subst e
    have : r = s:=qct ha.tail hb.tail fun x=>by
      by_cases hx : x < g.hi
      · rw [q27 (y:=g.hi) (fun m hm=>(ha.nxt m hm).1) hx,q27 (y:=g.hi) (fun m hm=>(hb.nxt m hm).1) hx]
      · have h1:=h x
        rwa [secG,secG,if_neg (by omega),if_neg (by omega)] at h1
    rw [this]
def curG (s : Mg σ β) : List (Grp σ):=if s.sec = [] then [] else [⟨s.lo,s.hi,s.sec⟩]
def secC (sec : Int→List σ) : List Int→Int→List σ
  | a::b::r,x=>if a≤x∧x < b then sec a else secC sec (b::r) x
  | _,_=>[]
theorem qhf (put : Int→Int→σ→β) (s : Mg σ β) (gs : List (Grp σ)) (h : s.done = Kb put gs) : s.flat put = Kb put (gs ++ curG s):=by
  rw [qp4,Mg.flat,h]
  unfold curG
  split
  · rename_i h1;simp [h1,Kb]
  · simp [Kb]
theorem qaq {s : Mg σ β} {g : Grp σ} (h : g∈curG s) : s.sec≠[]∧g = ⟨s.lo,s.hi,s.sec⟩:=by
  unfold curG at h;split at h
  · cases h
  · rename_i hn;exact ⟨hn,by simpa using h⟩
theorem qbg (sec : Int→List σ) {x : Int} : ∀ {cuts : List Int},cuts.Pairwise (· < ·)→
    (∀ a∈cuts,a≤x→(∀ c∈cuts,c≤a∨x < c)→sec a = sec x)→((∀ c∈cuts,x < c)→sec x = [])→((∀ c∈cuts,c≤x)→sec x = [])→secC sec cuts x = sec x
  | [],_,_,h2,_=>(h2 (by simp)).symm
  | [a],_,_,h2,h3=>by
    rw [secC]
    · by_cases hx : x < a
      · exact (h2 (by simpa using hx)).symm
      · exact (h3 (by simpa using hx)).symm
    · intro a b r h;simp at h
  | a::b::r,hp,h1,h2,h3=>by
    have hab : a < b:=(List.pairwise_cons.1 hp).1 b (by simp)
    have hbr:=(List.pairwise_cons.1 (List.pairwise_cons.1 hp).2).1
    rw [secC]
    split
    · rename_i hx
      refine h1 a (by simp) hx.1 fun c hc=>?_
      rcases List.mem_cons.1 hc with rfl | hc
      · exact .inl (Int.le_refl _)
      · rcases List.mem_cons.1 hc with rfl | hc
        · exact .inr hx.2
        · have:=hbr c hc;exact .inr (by omega)
    · rename_i hx
      by_cases hxa : x < a
      · have e : sec x = []:=h2 fun c hc=>by
          rcases List.mem_cons.1 hc with rfl | hc
          · exact hxa
          · have:=(List.pairwise_cons.1 hp).1 c hc;omega
        have:=qbg sec (x:=x) (List.pairwise_cons.1 hp).2 (fun a' ha' hle _=>by
          exfalso;have:=(List.pairwise_cons.1 hp).1 a' ha';omega) (fun _=>e) (fun _=>e)
        exact this
      · have hbx : b≤x:=by omega
        exact qbg sec (List.pairwise_cons.1 hp).2 (fun a' ha' hle hall=>h1 a' (by simp [ha']) hle fun c hc=>by
          rcases List.mem_cons.1 hc with rfl | hc
          · have:=(List.pairwise_cons.1 hp).1 a' ha';exact .inl (by omega)
          · exact hall c hc) (fun hall=>by have:=hall b (by simp);omega) (fun hall=>h3 fun c hc=>by
          rcases List.mem_cons.1 hc with rfl | hc
          · omega
          · exact hall c hc)
variable [DecidableEq σ] (put : Int→Int→σ→β)
structure InvG (s : Mg σ β) (gs : List (Grp σ)) (c : Int) : Prop where
  done : s.done = Kb put gs
  can : CanG (gs ++ curG s)
  le : ∀ g∈gs ++ curG s,g.hi≤c
  gap : s.sec = []→∀ g∈gs,g.hi = c→False
theorem qpx {s : Mg σ β} {gs : List (Grp σ)} {a b : Int} {c : List σ} (hab : a < b) (hi : InvG put s gs a) :
    ∃ gs',InvG put (addM put s a b c) gs' b∧∀ x,secG (gs' ++ curG (addM put s a b c)) x = if a≤x∧x < b then c else secG (gs ++ curG s) x:=by
  rcases Uf put s a b c with ⟨h1,h2,h3,h4⟩ | ⟨h1,h4⟩
  · rw [h4]
    have hs : s.sec≠[]:=h2 ▸ h1
    have c1 : curG s = [⟨s.lo,s.hi,s.sec⟩]:=by unfold curG;rw [if_neg hs]
    have c2 : curG (⟨s.done,s.sec,s.lo,b⟩ : Mg σ β) = [⟨s.lo,b,s.sec⟩]:=by unfold curG;rw [if_neg hs]
    have hcan:=hi.can
    rw [c1] at hcan
    have hlo : s.lo < s.hi:=(hcan.1 ⟨s.lo,s.hi,s.sec⟩ (by simp)).1
    refine ⟨gs,⟨hi.done,?_,?_,fun h=>absurd h hs⟩,?_⟩
    · rw [c2]
      refine ⟨fun g hg=>?_,?_⟩
      · rcases List.mem_append.1 hg with hg | hg
        · exact hcan.1 g (by simp [hg])
        · obtain rfl:=List.mem_singleton.1 hg;exact ⟨by simp only;omega,hs⟩
      · have:=List.pairwise_append.1 hcan.2
        refine List.pairwise_append.2 ⟨this.1,by simp,fun g hg k hk=>?_⟩
        obtain rfl:=List.mem_singleton.1 hk
        exact this.2.2 g hg ⟨s.lo,s.hi,s.sec⟩ (by simp)
    · rw [c2]
      intro g hg
      rcases List.mem_append.1 hg with hg | hg
      · have:=hi.le g (by simp [hg]);omega
      · obtain rfl:=List.mem_singleton.1 hg;exact Int.le_refl _
    · intro x
      rw [c1,c2]
      have hg0 : ∀ g∈gs,g.hi≤s.lo:=fun g hg=>((List.pairwise_append.1 hcan.2).2.2 g hg ⟨s.lo,s.hi,s.sec⟩ (by simp)).1
      have hgn : ∀ g∈gs,g.sec≠[]:=fun g hg=>(hcan.1 g (by simp [hg])).2
      by_cases hx : x < s.lo
      · rw [if_neg (by omega),qet (y:=s.lo) (by simp) hx,qet (y:=s.lo) (by simp) hx]
      · have e : secG gs x = []:=q5p hg0 (by omega)
        rw [q87 e hgn,q87 e hgn]
        simp only [secG]
        by_cases hx2 : x < s.hi
        · rw [if_pos ⟨by omega,by omega⟩,if_neg (by omega),if_pos ⟨by omega,hx2⟩]
        · by_cases hx3 : x < b
          · rw [if_pos ⟨by omega,hx3⟩,if_pos ⟨by omega,hx3⟩,h2]
          · rw [if_neg (by omega),if_neg (by omega),if_neg (by omega)]
  · rw [h4]
    have hd : s.flat put = Kb put (gs ++ curG s):=qhf put s gs hi.done
    refine ⟨gs ++ curG s,⟨hd,?_,?_,?_⟩,?_⟩
    · by_cases hc : c = []
      · have : curG (⟨s.flat put,c,a,b⟩ : Mg σ β) = []:=by unfold curG;rw [if_pos hc]
        rw [this,List.append_nil];exact hi.can
      · have : curG (⟨s.flat put,c,a,b⟩ : Mg σ β) = [⟨a,b,c⟩]:=by unfold curG;rw [if_neg hc]
        rw [this]
        refine ⟨fun g hg=>?_,List.pairwise_append.2 ⟨hi.can.2,by simp,fun g hg k hk=>?_⟩⟩
        · rcases List.mem_append.1 hg with hg | hg
          · exact hi.can.1 g hg
          · obtain rfl:=List.mem_singleton.1 hg;exact ⟨hab,hc⟩
        · obtain rfl:=List.mem_singleton.1 hk
          refine ⟨hi.le g hg,fun he hsec=>?_⟩
          rcases List.mem_append.1 hg with hg' | hg'
          · by_cases hs : s.sec = []
            · exact hi.gap hs g hg' he
            · have h5 : (⟨s.lo,s.hi,s.sec⟩ : Grp σ)∈curG s:=by unfold curG;rw [if_neg hs];simp
              have h6:=((List.pairwise_append.1 hi.can.2).2.2 g hg' _ h5).1
              have h7:=(hi.can.1 _ (List.mem_append.2 (.inr h5))).1
              have h8:=hi.le _ (List.mem_append.2 (.inr h5))
              simp only at he h6 h7 h8
              omega
          · obtain ⟨hs,rfl⟩:=qaq hg'
            exact h1 ⟨hc,hsec.symm,he⟩
    · intro g hg
      rcases List.mem_append.1 hg with hg | hg
      · have:=hi.le g hg;omega
      · obtain ⟨_,rfl⟩:=qaq hg;exact Int.le_refl _
    · intro hc g hg he
      have:=hi.le g hg;omega
    · intro x
      by_cases hx : a≤x∧x < b
      · rw [if_pos hx,q87 (q5p hi.le hx.1) fun g hg=>(hi.can.1 g hg).2]
        unfold curG
        split
        · rename_i hc;simp only at hc;rw [hc];rfl
        · simp only [secG];rw [if_pos hx]
      · rw [if_neg hx]
        by_cases hxa : x < a
        · exact qet (y:=a) (fun g hg=>by obtain ⟨_,rfl⟩:=qaq hg;exact Int.le_refl _) hxa
        · have e:=q5p (x:=x) hi.le (by omega)
          rw [q87 e fun g hg=>(hi.can.1 g hg).2,e]
          exact q5p (y:=b) (fun g hg=>by obtain ⟨_,rfl⟩:=qaq hg;exact Int.le_refl _) (by omega)
theorem qkl (sec : Int→List σ) : ∀ (cuts : List Int) (c : Int) (s : Mg σ β) (gs : List (Grp σ)),(c::cuts).Pairwise (· < ·)→InvG put s gs c→
    ∃ gs',(runM put sec s (c::cuts)).flat put = Kb put gs'∧CanG gs'∧∀ x,secG gs' x = if x < c then secG (gs ++ curG s) x else secC sec (c::cuts) x
  | [],c,s,gs,_,hi=>by
    refine ⟨gs ++ curG s,qhf put s gs hi.done,hi.can,fun x=>?_⟩
    by_cases hx : x < c
    · rw [if_pos hx]
    · rw [if_neg hx];exact q5p hi.le (by omega)
  | b::cuts,a,s,gs,hp,hi=>by
    have hab : a < b:=(List.pairwise_cons.1 hp).1 b (by simp)
    obtain ⟨gs',hi',hs'⟩:=qpx (b:=b) (c:=sec a) put hab hi
    obtain ⟨gs2,e1,e2,e3⟩:=qkl sec cuts b _ gs' (List.pairwise_cons.1 hp).2 hi'
    refine ⟨gs2,e1,e2,fun x=>?_⟩
    rw [e3 x]
    by_cases hx : x < a
    · rw [if_pos (by omega),if_pos hx,hs',if_neg (by omega)]
    · rw [if_neg hx]
      simp only [secC]
      by_cases hxb : x < b
      · rw [if_pos hxb,hs',if_pos ⟨by omega,hxb⟩,if_pos ⟨by omega,hxb⟩]
      · rw [if_neg hxb,if_neg (by omega)]
theorem qj2 (sec : Int→List σ) {cuts : List Int} (hc : cuts.Pairwise (· < ·)) :
    ∃ gs,(Qj put Qh (Y2 cuts sec)).flat put = Kb put gs∧CanG gs∧∀ x,secG gs x = secC sec cuts x:=by
  rw [qhi]
  cases cuts with
  | nil=>exact ⟨[],rfl,⟨by simp,by simp⟩,fun x=>rfl⟩
  | cons c cuts=>
    obtain ⟨gs,e1,e2,e3⟩:=qkl put sec cuts c (Qh : Mg σ β) [] hc ⟨rfl,⟨by simp [curG,Qh],by simp [curG,Qh]⟩,by simp [curG,Qh],by simp⟩
    refine ⟨gs,e1,e2,fun x=>?_⟩
    rw [e3 x]
    split
    · rename_i hx
      have : ∀ (cuts : List Int) (c : Int),(c::cuts).Pairwise (· < ·)→x < c→secC sec (c::cuts) x = []:=by
        intro cuts
        induction cuts with
        | nil=>intros;rfl
        | cons b r ih=>
          intro c hp hx
          rw [secC,if_neg (by omega)]
          exact ih b (List.pairwise_cons.1 hp).2 (by have:=(List.pairwise_cons.1 hp).1 b (by simp);omega)
      rw [this cuts c hc hx];rfl
    · rfl
end
end Go.Sh
namespace Go.Sh
open Go Go.Am
section
variable {σ : Type}
theorem qev {x : Int} : ∀ (gs : List (Grp σ)),secG gs x = []∨∃ g∈gs,g.lo≤x∧x < g.hi∧secG gs x = g.sec
  | []=>.inl rfl
  | g::r=>by
    by_cases hx : g.lo≤x∧x < g.hi
    · exact .inr ⟨g,by simp,hx.1,hx.2,by rw [secG,if_pos hx]⟩
    · rw [secG,if_neg hx]
      rcases qev r with h | ⟨k,hk,h⟩
      · exact .inl h
      · exact .inr ⟨k,by simp [hk],h⟩
theorem qeu : ∀ {gs : List (Grp σ)},CanG gs→∀ g∈gs,∀ x,g.lo≤x→x < g.hi→secG gs x = g.sec
  | k::r,h,g,hg,x,h1,h2=>by
    rcases List.mem_cons.1 hg with rfl | hg
    · exact q26 h1 h2
    · have:=(h.nxt g hg).1
      rw [secG,if_neg (by omega)]
      exact qeu h.tail g hg x h1 h2
end
theorem qih (kind : Int) : Zh kind [] [] = []:=by
  have hj:=(q4q kind [] [] (by simp) (by simp)).2
  refine q4c hj.can ⟨by simp,by simp⟩ fun x=>?_
  rw [hj.pts]
  have:=Us x
  unfold Qt;simp [this]
theorem qol (a b : List qg) (x : Int) : covS (a ++ b) x = covS a x ++ covS b x:=by simp [covS]
theorem qom (s : List qh) (lo hi x : Int) : covS (s.map (putR lo hi)) x = if lo≤x∧x < hi then s else []:=by
  induction s with
  | nil=>simp [covS]
  | cons t s ih=>
    have e : covS (List.map (putR lo hi) (t::s)) x = (if covR x (putR lo hi t) = true then [t] else []) ++ covS (s.map (putR lo hi)) x:=rfl
    rw [e,ih]
    have : covR x (putR lo hi t) = (decide (lo≤x) && decide (x < hi)):=rfl
    rw [this]
    by_cases h1 : lo≤x <;> by_cases h2 : x < hi <;> simp [h1,h2]
theorem q7b : ∀ {gs : List (Grp qh)},CanG gs→∀ x,covS (Kb putR gs) x = secG gs x
  | [],_,x=>rfl
  | g::r,h,x=>by
    have e : Kb putR (g::r) = g.sec.map (putR g.lo g.hi) ++ Kb putR r:=rfl
    rw [e,qol,qom,q7b h.tail x]
    by_cases hx : g.lo≤x∧x < g.hi
    · rw [if_pos hx,secG,if_pos hx,q27 (y:=g.hi) (fun m hm=>(h.nxt m hm).1) hx.2,List.append_nil]
    · rw [if_neg hx,secG,if_neg hx,List.nil_append]
theorem qgr {l : List qg} {a x : Int} (h : ∀ r∈l,covR a r = covR x r) : covS l a = covS l x:=by
  induction l with
  | nil=>rfl
  | cons r l ih=>
    have e : ∀ y,covS (r::l) y = (if covR y r = true then [ysp r] else []) ++ covS l y:=fun _=>rfl
    rw [e,e,h r (by simp),ih fun k hk=>h k (by simp [hk])]
theorem qa8 {l : List qg} {x : Int} (h : ∀ r∈l,covR x r = false) : covS l x = []:=by
  induction l with
  | nil=>rfl
  | cons r l ih=>
    have e : covS (r::l) x = (if covR x r = true then [ysp r] else []) ++ covS l x:=rfl
    rw [e,h r (by simp),ih fun k hk=>h k (by simp [hk])];rfl
theorem q4f {x : Int} {r : qg} : covR x r = true↔r.X0≤x∧x < r.X1:=by simp [covR]
theorem qj0 {p q : List qg} {r : qg} (h : r∈p∨r∈q) : r.X0∈xsOf p ++ xsOf q∧r.X1∈xsOf p ++ xsOf q:=by
  unfold xsOf
  simp only [List.mem_append,List.mem_flatMap]
  rcases h with h | h
  · exact ⟨.inl ⟨r,h,by simp⟩,.inl ⟨r,h,by simp⟩⟩
  · exact ⟨.inr ⟨r,h,by simp⟩,.inr ⟨r,h,by simp⟩⟩
theorem qj7 (kind : Int) {p q : List qg} (h : p.length + q.length≤100000) :
    ∃ gs,mrgR kind p q = Kb putR gs∧CanG gs∧∀ x,secG gs x = secJ kind p q x:=by
  have l1:=Je p
  have l2:=Je q
  have hs:=(J2 (l:=xsOf p ++ xsOf q) (by simp;omega)).2.1
  obtain ⟨gs,e1,e2,e3⟩:=qj2 putR (secJ kind p q) hs.1
  refine ⟨gs,e1,e2,fun x=>?_⟩
  rw [e3]
  have hm : ∀ r,(r∈p∨r∈q)→r.X0∈Qf (xsOf p ++ xsOf q)∧r.X1∈Qf (xsOf p ++ xsOf q):=fun r hr=>
    ⟨(hs.2 _).2 (qj0 hr).1,(hs.2 _).2 (qj0 hr).2⟩
  refine qbg _ hs.1 (fun a _ hax hall=>?_) (fun hall=>?_) (fun hall=>?_)
  · have hc : ∀ r,(r∈p∨r∈q)→covR a r = covR x r:=fun r hr=>by
      have h1:=hall _ (hm r hr).1
      have h2:=hall _ (hm r hr).2
      rw [Bool.eq_iff_iff,q4f,q4f];omega
    unfold secJ
    rw [qgr fun r hr=>hc r (.inl hr),qgr fun r hr=>hc r (.inr hr)]
  · have hc : ∀ r,(r∈p∨r∈q)→covR x r = false:=fun r hr=>by
      have h1:=hall _ (hm r hr).1
      rw [← Bool.not_eq_true,q4f];omega
    unfold secJ
    rw [qa8 fun r hr=>hc r (.inl hr),qa8 fun r hr=>hc r (.inr hr),qih]
  · have hc : ∀ r,(r∈p∨r∈q)→covR x r = false:=fun r hr=>by
      have h1:=hall _ (hm r hr).2
      rw [← Bool.not_eq_true,q4f];omega
    unfold secJ
    rw [qa8 fun r hr=>hc r (.inl hr),qa8 fun r hr=>hc r (.inr hr),qih]
def CanR (l : List qg) : Prop:=∃ gs : List (Grp qh),l = Kb putR gs∧CanG gs∧∀ g∈gs,Can g.sec
theorem qnd : Can []:=⟨by simp,by simp⟩
theorem CanR.nil : CanR []:=⟨[],rfl,⟨by simp,by simp⟩,by simp⟩
theorem CanR.cov {l : List qg} (h : CanR l) (x : Int) : Can (covS l x):=by
  obtain ⟨gs,rfl,h1,h2⟩:=h
  rw [q7b h1]
  rcases qev (x:=x) gs with e | ⟨g,hg,_,_,e⟩
  · rw [e];exact qnd
  · rw [e];exact h2 g hg
theorem qcu {a b : List qg} (ha : CanR a) (hb : CanR b) (h : ∀ x y,hasR a x y↔hasR b x y) : a = b:=by
  have hc : ∀ x,covS a x = covS b x:=fun x=>q4c (ha.cov x) (hb.cov x) fun y=>by rw [U6,U6];exact h x y
  obtain ⟨ga,rfl,h1,_⟩:=ha
  obtain ⟨gb,rfl,h2,_⟩:=hb
  rw [qct h1 h2 fun x=>by rw [← q7b h1,← q7b h2];exact hc x]
theorem qks (kind : Int) {p q : List qg} (h : p.length + q.length≤100000) (x : Int) : qci kind (covS p x) (covS q x) (secJ kind p q x):=by
  have h1:=Ju p x
  have h2:=Ju q x
  exact (q4q kind (covS p x) (covS q x) (by omega) (by omega)).2
theorem qau (kind : Int) {p q : List qg} (h : p.length + q.length≤100000) : CanR (mrgR kind p q):=by
  obtain ⟨gs,e1,e2,e3⟩:=qj7 kind h
  refine ⟨gs,e1,e2,fun g hg=>?_⟩
  have:=e3 g.lo
  rw [qeu e2 g hg _ (Int.le_refl _) (e2.1 g hg).1] at this
  rw [this];exact (qks kind h _).can
theorem qgs (kind : Int) {p q : List qg} (h : p.length + q.length≤100000) (x : Int) : covS (mrgR kind p q) x = secJ kind p q x:=by
  obtain ⟨gs,e1,e2,e3⟩:=qj7 kind h
  rw [e1,q7b e2,e3]
theorem qah (kind : Int) {p q : List qg} (h : p.length + q.length≤100000) (x y : Int) : hasR (mrgR kind p q) x y↔Qt kind (hasR p x y) (hasR q x y):=by
  rw [← U6,qgs kind h,(qks kind h x).pts,U6,U6]
theorem qdi (x y : Int) : ¬ hasR [] x y:=by rintro ⟨r,h,_⟩;cases h
theorem q7n {a b : Prop} : Qt 2 a b↔a∨b:=by unfold Qt;simp
theorem qaj {a b : Prop} : Qt 1 a b↔a∧b:=by unfold Qt;simp
theorem qi9 {a b : Prop} : Qt 3 a b↔a∧¬ b:=by unfold Qt;simp
theorem qpp {l : List qg} (h : l.length≤100000) (x y : Int) : hasR (mrgR 2 l []) x y↔hasR l x y:=by
  rw [qah 2 (by simpa using h),q7n];simp [qdi]
theorem qj8 {l : List qg} (hl : l.length≤100000) (h : CanR l) : mrgR 2 l [] = l:=
  qcu (qau 2 (by simpa using hl)) h fun x y=>qpp hl x y
theorem qiy {σ β : Type} {put : Int→Int→σ→β} {gs : List (Grp σ)} {r : β} : r∈Kb put gs↔∃ g∈gs,∃ t∈g.sec,r = put g.lo g.hi t:=by
  unfold Kb
  simp only [List.mem_flatMap,List.mem_map]
  exact ⟨fun ⟨g,hg,t,ht,e⟩=>⟨g,hg,t,ht,e.symm⟩,fun ⟨g,hg,t,ht,e⟩=>⟨g,hg,t,ht,e.symm⟩⟩
theorem CanR.lt {l : List qg} (h : CanR l) : ∀ r∈l,r.X0 < r.X1∧r.Y0 < r.Y1:=by
  obtain ⟨gs,rfl,h1,h2⟩:=h
  intro r hr
  obtain ⟨g,hg,t,ht,rfl⟩:=qiy.1 hr
  exact ⟨(h1.1 g hg).1,(h2 g hg).1 t ht⟩
def InR (l : List qg) : Prop:=∀ x y,hasR l x y→(-1000000≤x∧x < 1000000)∧(-1000000≤y∧y < 1000000)
theorem CanR.vR {l : List qg} (h : CanR l) (hi : InR l) : ∀ r∈l,vR r:=by
  intro r hr
  have h1:=h.lt r hr
  have h2:=hi r.X0 r.Y0 ⟨r,hr,by omega⟩
  have h3:=hi (r.X1 - 1) (r.Y1 - 1) ⟨r,hr,by omega⟩
  unfold Go.Sh.vR;omega
theorem InR.mrg {kind : Int} {p q : List qg} (h : p.length + q.length≤100000) (hp : InR p) (hq : InR q) : InR (mrgR kind p q):=fun x y hh=>by
  rcases qdl ((qah kind h x y).1 hh) with h1 | h1
  · exact hp x y h1
  · exact hq x y h1
theorem InR.nil : InR []:=fun x y h=>absurd h (qdi x y)
theorem q77 {l : List qg} : Kq l = 0↔l.length≤400∧(∀ r∈l,vR r)∧CanR l:=by
  constructor
  · intro h
    obtain ⟨h1,h2,h3⟩:=qo1 h
    exact ⟨h1,h2,h3 ▸ qau 2 (by simp;omega)⟩
  · rintro ⟨h1,h2,h3⟩
    unfold Kq
    rw [if_neg (by omega),if_pos h2,if_pos (qj8 (by omega) h3)]
end Go.Sh
namespace Go.Sh
open Go Go.Am
def hasB (l : List qf) (x y z : Int) : Prop:=∃ b∈l,(b.Lo.X≤x∧x < b.Hi.X)∧(b.Lo.Y≤y∧y < b.Hi.Y)∧(b.Lo.Z≤z∧z < b.Hi.Z)
theorem q1f {z : Int} {b : qf} : covB z b = true↔b.Lo.Z≤z∧z < b.Hi.Z:=by simp [covB]
theorem qe0 {l : List qf} {z : Int} {r : qg} : r∈atB l z↔∃ b∈l,(b.Lo.Z≤z∧z < b.Hi.Z)∧r = Zo b:=by
  unfold atB
  rw [List.mem_flatMap]
  constructor
  · rintro ⟨b,hb,h⟩
    split at h
    · rename_i hc;exact ⟨b,hb,q1f.1 hc,by simpa using h⟩
    · cases h
  · rintro ⟨b,hb,hc,rfl⟩
    exact ⟨b,hb,by rw [if_pos (q1f.2 hc)];simp⟩
theorem q2v {l : List qf} {x y z : Int} : hasR (atB l z) x y↔hasB l x y z:=by
  constructor
  · rintro ⟨r,hr,h1,h2,h3,h4⟩
    obtain ⟨b,hb,hz,rfl⟩:=qe0.1 hr
    exact ⟨b,hb,⟨h1,h2⟩,⟨h3,h4⟩,hz⟩
  · rintro ⟨b,hb,⟨h1,h2⟩,⟨h3,h4⟩,hz⟩
    exact ⟨Zo b,qe0.2 ⟨b,hb,hz,rfl⟩,h1,h2,h3,h4⟩
theorem q4l (x y z : Int) : ¬ hasB [] x y z:=by rintro ⟨r,h,_⟩;cases h
theorem qn1 (a b : List qf) (z : Int) : atB (a ++ b) z = atB a z ++ atB b z:=by simp [atB]
theorem qn2 (s : List qg) (lo hi z : Int) : atB (s.map (putB lo hi)) z = if lo≤z∧z < hi then s else []:=by
  induction s with
  | nil=>simp [atB]
  | cons t s ih=>
    have e : atB (List.map (putB lo hi) (t::s)) z = (if covB z (putB lo hi t) = true then [t] else []) ++ atB (s.map (putB lo hi)) z:=rfl
    rw [e,ih]
    have : covB z (putB lo hi t) = (decide (lo≤z) && decide (z < hi)):=rfl
    rw [this]
    by_cases h1 : lo≤z <;> by_cases h2 : z < hi <;> simp [h1,h2]
theorem q75 : ∀ {gs : List (Grp qg)},CanG gs→∀ z,atB (Kb putB gs) z = secG gs z
  | [],_,z=>rfl
  | g::r,h,z=>by
    have e : Kb putB (g::r) = g.sec.map (putB g.lo g.hi) ++ Kb putB r:=rfl
    rw [e,qn1,qn2,q75 h.tail z]
    by_cases hx : g.lo≤z∧z < g.hi
    · rw [if_pos hx,secG,if_pos hx,q27 (y:=g.hi) (fun m hm=>(h.nxt m hm).1) hx.2,List.append_nil]
    · rw [if_neg hx,secG,if_neg hx,List.nil_append]
theorem qg1 {l : List qf} {a x : Int} (h : ∀ r∈l,covB a r = covB x r) : atB l a = atB l x:=by
  induction l with
  | nil=>rfl
  | cons r l ih=>
    have e : ∀ y,atB (r::l) y = (if covB y r = true then [Zo r] else []) ++ atB l y:=fun _=>rfl
    rw [e,e,h r (by simp),ih fun k hk=>h k (by simp [hk])]
theorem qa3 {l : List qf} {x : Int} (h : ∀ r∈l,covB x r = false) : atB l x = []:=by
  induction l with
  | nil=>rfl
  | cons r l ih=>
    have e : atB (r::l) x = (if covB x r = true then [Zo r] else []) ++ atB l x:=rfl
    rw [e,h r (by simp),ih fun k hk=>h k (by simp [hk])];rfl
theorem qj1 {p q : List qf} {r : qf} (h : r∈p∨r∈q) : r.Lo.Z∈zsOf p ++ zsOf q∧r.Hi.Z∈zsOf p ++ zsOf q:=by
  unfold zsOf
  simp only [List.mem_append,List.mem_flatMap]
  rcases h with h | h
  · exact ⟨.inl ⟨r,h,by simp⟩,.inl ⟨r,h,by simp⟩⟩
  · exact ⟨.inr ⟨r,h,by simp⟩,.inr ⟨r,h,by simp⟩⟩
theorem qe4 (kind : Int) : mrgR kind [] [] = []:=by
  refine qcu (qau kind (by simp)) .nil fun x y=>?_
  rw [qah kind (by simp)]
  have:=qdi x y
  unfold Qt;simp [this]
theorem qj4 (kind : Int) {p q : List qf} (h : p.length + q.length≤100000) :
    ∃ gs,mrgB kind p q = Kb putB gs∧CanG gs∧∀ z,secG gs z = secB kind p q z:=by
  have l1:=Yv p
  have l2:=Yv q
  have hs:=(J2 (l:=zsOf p ++ zsOf q) (by simp;omega)).2.1
  obtain ⟨gs,e1,e2,e3⟩:=qj2 putB (secB kind p q) hs.1
  refine ⟨gs,e1,e2,fun x=>?_⟩
  rw [e3]
  have hm : ∀ r,(r∈p∨r∈q)→r.Lo.Z∈Qf (zsOf p ++ zsOf q)∧r.Hi.Z∈Qf (zsOf p ++ zsOf q):=fun r hr=>
    ⟨(hs.2 _).2 (qj1 hr).1,(hs.2 _).2 (qj1 hr).2⟩
  refine qbg _ hs.1 (fun a _ hax hall=>?_) (fun hall=>?_) (fun hall=>?_)
  · have hc : ∀ r,(r∈p∨r∈q)→covB a r = covB x r:=fun r hr=>by
      have h1:=hall _ (hm r hr).1
      have h2:=hall _ (hm r hr).2
      rw [Bool.eq_iff_iff,q1f,q1f];omega
    unfold secB
    rw [qg1 fun r hr=>hc r (.inl hr),qg1 fun r hr=>hc r (.inr hr)]
  · have hc : ∀ r,(r∈p∨r∈q)→covB x r = false:=fun r hr=>by
      have h1:=hall _ (hm r hr).1
      rw [← Bool.not_eq_true,q1f];omega
    unfold secB
    rw [qa3 fun r hr=>hc r (.inl hr),qa3 fun r hr=>hc r (.inr hr),qe4]
  · have hc : ∀ r,(r∈p∨r∈q)→covB x r = false:=fun r hr=>by
      have h1:=hall _ (hm r hr).2
      rw [← Bool.not_eq_true,q1f];omega
    unfold secB
    rw [qa3 fun r hr=>hc r (.inl hr),qa3 fun r hr=>hc r (.inr hr),qe4]
def CanB (l : List qf) : Prop:=∃ gs : List (Grp qg),l = Kb putB gs∧CanG gs∧∀ g∈gs,CanR g.sec
theorem CanB.nil : CanB []:=⟨[],rfl,⟨by simp,by simp⟩,by simp⟩
theorem CanB.at {l : List qf} (h : CanB l) (z : Int) : CanR (atB l z):=by
  obtain ⟨gs,rfl,h1,h2⟩:=h
  rw [q75 h1]
  rcases qev (x:=z) gs with e | ⟨g,hg,_,_,e⟩
  · rw [e];exact .nil
  · rw [e];exact h2 g hg
theorem qg7 {a b : List qf} (ha : CanB a) (hb : CanB b) (h : ∀ x y z,hasB a x y z↔hasB b x y z) : a = b:=by
  have hc : ∀ z,atB a z = atB b z:=fun z=>qcu (ha.at z) (hb.at z) fun x y=>by rw [q2v,q2v];exact h x y z
  obtain ⟨ga,rfl,h1,_⟩:=ha
  obtain ⟨gb,rfl,h2,_⟩:=hb
  rw [qct h1 h2 fun x=>by rw [← q75 h1,← q75 h2];exact hc x]
theorem qg3 {p q : List qf} (h : p.length + q.length≤100000) (z : Int) : (atB p z).length + (atB q z).length≤100000:=by
  have:=Ji p z;have:=Ji q z;omega
theorem qat (kind : Int) {p q : List qf} (h : p.length + q.length≤100000) : CanB (mrgB kind p q):=by
  obtain ⟨gs,e1,e2,e3⟩:=qj4 kind h
  refine ⟨gs,e1,e2,fun g hg=>?_⟩
  have:=e3 g.lo
  rw [qeu e2 g hg _ (Int.le_refl _) (e2.1 g hg).1] at this
  rw [this];exact qau kind (qg3 h _)
theorem qg2 (kind : Int) {p q : List qf} (h : p.length + q.length≤100000) (z : Int) : atB (mrgB kind p q) z = secB kind p q z:=by
  obtain ⟨gs,e1,e2,e3⟩:=qj4 kind h
  rw [e1,q75 e2,e3]
theorem q4k (kind : Int) {p q : List qf} (h : p.length + q.length≤100000) (x y z : Int) : hasB (mrgB kind p q) x y z↔Qt kind (hasB p x y z) (hasB q x y z):=by
  rw [← q2v,qg2 kind h,secB,qah kind (qg3 h z),q2v,q2v]
theorem qpo {l : List qf} (h : l.length≤100000) (x y z : Int) : hasB (mrgB 2 l []) x y z↔hasB l x y z:=by
  rw [q4k 2 (by simpa using h),q7n];simp [q4l]
theorem qj6 {l : List qf} (hl : l.length≤100000) (h : CanB l) : mrgB 2 l [] = l:=
  qg7 (qat 2 (by simpa using hl)) h fun x y z=>qpo hl x y z
theorem CanB.lt {l : List qf} (h : CanB l) : ∀ b∈l,b.Lo.X < b.Hi.X∧b.Lo.Y < b.Hi.Y∧b.Lo.Z < b.Hi.Z:=by
  obtain ⟨gs,rfl,h1,h2⟩:=h
  intro r hr
  obtain ⟨g,hg,t,ht,rfl⟩:=qiy.1 hr
  have:=(h2 g hg).lt t ht
  exact ⟨this.1,this.2,(h1.1 g hg).1⟩
def vB (b : qf) : Prop:=(b.Lo.X < b.Hi.X∧b.Lo.Y < b.Hi.Y∧b.Lo.Z < b.Hi.Z)∧(-1000000≤b.Lo.X∧-1000000≤b.Lo.Y∧-1000000≤b.Lo.Z)∧b.Hi.X≤1000000∧b.Hi.Y≤1000000∧b.Hi.Z≤1000000
instance (b : qf) : Decidable (vB b):=by unfold vB;infer_instance
def InB (l : List qf) : Prop:=∀ x y z,hasB l x y z→(-1000000≤x∧x < 1000000)∧(-1000000≤y∧y < 1000000)∧(-1000000≤z∧z < 1000000)
theorem qmb {l : List qf} (h : ∀ r∈l,vB r) : InB l:=by
  rintro x y z ⟨r,hr,h1⟩
  have:=h r hr
  unfold vB at this;omega
theorem CanB.vB {l : List qf} (h : CanB l) (hi : InB l) : ∀ r∈l,vB r:=by
  intro r hr
  have h1:=h.lt r hr
  have h2:=hi r.Lo.X r.Lo.Y r.Lo.Z ⟨r,hr,by omega⟩
  have h3:=hi (r.Hi.X - 1) (r.Hi.Y - 1) (r.Hi.Z - 1) ⟨r,hr,by omega⟩
  unfold Go.Sh.vB;omega
theorem InB.mrg {kind : Int} {p q : List qf} (h : p.length + q.length≤100000) (hp : InB p) (hq : InB q) : InB (mrgB kind p q):=fun x y z hh=>by
  rcases qdl ((q4k kind h x y z).1 hh) with h1 | h1
  · exact hp x y z h1
  · exact hq x y z h1
theorem InB.nil : InB []:=fun x y z h=>absurd h (q4l x y z)
theorem qme {l : List qf} (h : ∀ b∈l,vB b) (z : Int) : ∀ r∈atB l z,vR r:=by
  intro r hr
  obtain ⟨b,hb,_,rfl⟩:=qe0.1 hr
  have:=h b hb
  unfold vB at this;unfold vR Zo;simp only;omega
theorem InB.at {l : List qf} (h : InB l) (z : Int) : InR (atB l z):=fun x y hh=>by
  have:=h x y z (q2v.1 hh);exact ⟨this.1,this.2.1⟩
noncomputable def Qi (l : List qf) : Int:=if 400 < l.length then 4 else if ∀ b∈l,vB b then (if mrgB 2 l [] = l then 0 else 8) else 8
theorem Ke {l : List qf} : Qi l = 0↔l.length≤400∧(∀ b∈l,vB b)∧CanB l:=by
  unfold Qi
  constructor
  · intro h
    split at h
    · exact absurd h (by decide)
    · rename_i h1
      split at h
      · rename_i h2
        split at h
        · rename_i h3
          exact ⟨by omega,h2,h3 ▸ qat 2 (by simp;omega)⟩
        · exact absurd h (by decide)
      · exact absurd h (by decide)
  · rintro ⟨h1,h2,h3⟩
    rw [if_neg (by omega),if_pos h2,if_pos (qj6 (by omega) h3)]
theorem qbf (kind : Int) {p q : List qf} (h : p.length + q.length≤100000) (z : Int) : (secB kind p q z).length≤(mrgB kind p q).length:=by
  rw [← qg2 kind h];exact Ji _ _
theorem qux (kind : Int) {p q : List qg} (h : p.length + q.length≤100000) (x : Int) : (secJ kind p q x).length≤(mrgR kind p q).length:=by
  rw [← qgs kind h];exact Ju _ _
noncomputable def mkB (l : List qf) : List qf × Int:=if 400 < l.length then ([],4) else if ∀ b∈l,vB b then (if 400 < (mrgB 2 l []).length then ([],4) else (mrgB 2 l [],0)) else ([],8)
noncomputable def jB (kind : Int) (p q : List qf) : List qf × Int:=
  if Qi p≠0 then ([],Qi p) else if Qi q≠0 then ([],Qi q) else if 400 < (mrgB kind p q).length then ([],4) else (mrgB kind p q,0)
noncomputable def mkR (l : List qg) : List qg × Int:=if 400 < l.length then ([],4) else if ∀ b∈l,vR b then (if 400 < (mrgR 2 l []).length then ([],4) else (mrgR 2 l [],0)) else ([],8)
noncomputable def jR (kind : Int) (p q : List qg) : List qg × Int:=
  if Kq p≠0 then ([],Kq p) else if Kq q≠0 then ([],Kq q) else if 400 < (mrgR kind p q).length then ([],4) else (mrgR kind p q,0)
end Go.Sh
namespace Go.Sh
open Go Go.Am
theorem qao {α β : Type} {f : α→Option (α ⊕ β)} (st : Nat→α) (n : Nat) (ok : Nat→Prop) (b e : β)
    (step : ∀ k,k < n→(∀ j,j≤k→ok j)→f (st k) = some (.inl (st (k + 1))))
    (bad : ∀ k,k < n→(∀ j,j < k→ok j)→¬ ok k→f (st k) = some (.inr e))
    (done : (∀ j,j < n→ok j)→f (st n) = some (.inr b)) :
    ((∀ j,j < n→ok j)∧loop f (st 0) = some b)∨(∃ j,j < n∧¬ ok j∧loop f (st 0) = some e):=by
  by_cases h : ∀ j,j < n→ok j
  · exact .inl ⟨h,Zj st n b (fun k hk=>step k hk fun j hj=>h j (by omega)) (done h) (Nat.zero_le _)⟩
  · refine .inr ?_
    have h2 : ∃ k,(k < n∧¬ ok k)∧∀ j,j < k→ok j:=by
      have : ∃ k,k < n∧¬ ok k:=by
        refine Classical.byContradiction fun hn=>h fun k hk=>?_
        exact Classical.byContradiction fun h=>hn ⟨k,hk,h⟩
      obtain ⟨k,hk⟩:=this
      induction k using Nat.strongRecOn with
      | _ k ih=>
        by_cases hj : ∃ j,j < k∧(j < n∧¬ ok j)
        · obtain ⟨j,h1,h2⟩:=hj;exact ih j h1 h2
        · exact ⟨k,hk,fun j h1=>Classical.byContradiction fun h=>hj ⟨j,h1,by omega,h⟩⟩
    obtain ⟨K,⟨hK,hb⟩,hmin⟩:=h2
    exact ⟨K,hK,hb,Zj st K e (fun k hk=>step k (by omega) fun j hj=>hmin j (by omega)) (bad K hK hmin hb) (Nat.zero_le _)⟩
theorem qf7 (xs : List Int) (h : xs.length≤1000000) :
    ((Ja xs).bind fun e127=>(Qm e127.length xs.length).bind fun _=>(U9 e127).bind fun e132=>(Qm e132.2.length e127.length).bind fun _=>(Ud e132.2.length e132.1).bind fun _=>some ((e132.2.drop e132.1.1).take e132.1.2)) = some (Qf xs):=by
  obtain ⟨ys,s1,s2,s3⟩:=qlk xs h
  have hys : ys.length = xs.length:=s2.length_eq
  obtain ⟨w,a,c1,c2,c3,c4⟩:=qgo s3 (by omega)
  obtain ⟨_,d2,_⟩:=J2 h
  have huniq : a.take w = Qf xs:=by
    refine qll (l:=xs) ⟨c4.1,fun x=>?_⟩ d2
    rw [c4.2 x];exact s2.mem_iff
  simp only [Option.bind_some,s1,Qm,hys,if_true,c1,c2,Ud]
  rw [if_pos (by omega)]
  simp only [Option.bind_some,List.drop_zero,huniq]
theorem qmp (l : List qg) (o : List Int) (hl : l.length≤400) (ho : o.length≤10000) : loop (Z7 l) (0,o) = some (o ++ xsOf l):=
  Zy l (by omega) (fun r=>[r.X0,r.X1]) o (fun o=>o) (Z7 l) (fun k hk o' ho'=>by
    have h8 : o'.length = o.length + 2 * k:=by
      rw [ho',List.length_append];have:=Je (l.take k);rw [List.length_take,Nat.min_eq_left (by omega)] at this
      unfold xsOf at this;omega
    simp only [Z7,dlt hk,cond_true,Qk hk,Option.bind_some,w64s hk (by omega)]
    rw [Kl (by simp;omega)]
    rfl) (fun o=>by simp only [Z7,dnl,cond_false])
theorem qta (l : List qg) (hl : l.length≤1000000) : q8b l (fun x0=>q23 x0) = some (decide (¬ ∀ r∈l,vR r)):=by
  have hs : ∀ (k : Nat) (h : k < l.length),q3j l (fun x0=>q23 x0) (k : Int) = some (if (fun r=>!decide (vR r)) l[k] = true then .inr (.inr (k : Int)) else .inl ((k + 1 : Nat) : Int)):=by
    intro k h
    simp only [q3j,dlt h,cond_true,Qk h,Option.bind_some,w64s h hl,q23,qmf]
    by_cases hv : vR l[k] <;> simp [hv]
  have hd : q3j l (fun x0=>q23 x0) (l.length : Int) = some (.inr (.inl ())):=by simp only [q3j,dnl,cond_false]
  unfold q8b qbm
  rcases q1g l (fun r=>!decide (vR r)) (fun k _=>(k : Int)) () _ hs hd with ⟨h1,h2⟩ | ⟨k,hk,hc,_,h2⟩
  · rw [h2]
    have : ∀ r∈l,vR r:=fun r hr=>by simpa using h1 r hr
    simp []
    omega
  · rw [h2]
    have : ¬ ∀ r∈l,vR r:=fun h=>by simp [h _ (List.getElem_mem hk)] at hc
    simp only [Option.bind_some]
    rw [decide_eq_true this,decide_eq_true (by omega)]
theorem qk9 (l : List qg) : Uy l = some (mkR l):=by
  unfold Uy mkR
  by_cases h4 : 400 < l.length
  · rw [decide_eq_true (by omega : (l.length : Int) > 400),cond_true,if_pos h4]
  rw [decide_eq_false (by omega : ¬ (l.length : Int) > 400),cond_false,if_neg h4,qta l (by omega),Option.bind_some]
  by_cases hv : ∀ r∈l,vR r
  · rw [decide_eq_false (fun h=>h hv),cond_false,qiu l (by omega) hv,if_pos hv];rfl
  · rw [decide_eq_true hv,cond_true,if_neg hv]
theorem qt7 (p q : List qg) : q83 p q = some (if Kq p≠0 then Kq p else Kq q):=by
  unfold q83
  simp only [qsz,Option.bind_some]
  by_cases h : Kq p = 0
  · simp [h]
  · have : (Kq p != 0) = true:=by simpa using h
    simp [h,this]
theorem rj1 : qba = Z7:=rfl
theorem rj2 : qbb = Z7:=rfl
theorem rj4 : qbc = Jr:=rfl
theorem rj5 : qbd = Jr:=rfl
theorem qgc {p : List qg} (h : Kq p = 0) (x : Int) : Kx (covS p x) = 0∧Good (covS p x):=by
  obtain ⟨h1,h2,h3⟩:=q77.1 h
  have hg : Good (covS p x):=⟨qgt h2 x,(h3.cov x).2⟩
  have:=Ju p x
  refine ⟨?_,hg⟩
  unfold Kx
  rw [if_neg (by omega),if_pos hg]
theorem qjg (kind : Int) {p q : List qg} (hp : Kq p = 0) (hq : Kq q = 0) (x : Int) : opS kind (covS p x) (covS q x) = if 400 < (secJ kind p q x).length then ([],4) else (secJ kind p q x,0):=by
  unfold opS
  rw [if_neg (by simp [(qgc hp x).1]),if_neg (by simp [(qgc hq x).1])]
  rfl
theorem qem (kind : Int) (f : List qh→List qh→Option (List qh × Int)) (hf : ∀ a b,f a b = some (opS kind a b)) (p q : List qg) : q3f p q f = some (jR kind p q):=by
  unfold q3f jR
  rw [qt7,Option.bind_some]
  by_cases hp : ¬ Kq p = 0
  · rw [if_pos hp,if_pos hp]
    have : (Kq p != 0) = true:=by simpa using hp
    rw [this,cond_true]
  replace hp:=Classical.not_not.1 hp
  by_cases hq : ¬ Kq q = 0
  · rw [if_neg (by simp [hp]),if_neg (by simp [hp]),if_pos hq]
    have : (Kq q != 0) = true:=by simpa using hq
    rw [this,cond_true]
  replace hq:=Classical.not_not.1 hq
  rw [if_neg (by simp [hp]),if_neg (by simp [hp]),if_neg (by simp [hq]),hq]
  obtain ⟨lp,vp,cp⟩:=q77.1 hp
  obtain ⟨lq,vq,cq⟩:=q77.1 hq
  have hx1:=Je p
  have hx2:=Je q
  rw [show ((0 : Int) != 0) = false from rfl,cond_false]
  simp only [show idx [p,q] 0 = some p from rfl,show idx [p,q] 1 = some q from rfl,Option.bind_some,rj1,rj2,qmp p [] lp (by simp),List.nil_append,qmp q (xsOf p) lq (by omega)]
  rw [qf7 _ (by simp;omega)]
  simp only [Option.bind_some]
  obtain ⟨_,hso,hlen⟩:=J2 (l:=xsOf p ++ xsOf q) (by simp;omega)
  have hlen : (Qf (xsOf p ++ xsOf q)).length≤1600:=by simp at hlen;omega
  have hle : ∀ x,(secJ kind p q x).length≤(mrgR kind p q).length:=fun x=>qux kind (by omega) x
  have hmr : mrgR kind p q = (Qj putR Qh (Y2 (Qf (xsOf p ++ xsOf q)) (secJ kind p q))).flat putR:=rfl
  rw [hmr] at hle ⊢
  generalize Qf (xsOf p ++ xsOf q) = xs at hso hlen hle ⊢
  generalize hst : Y2 xs (secJ kind p q) = steps at hle ⊢
  have hsl : steps.length = xs.length - 1:=by rw [← hst];exact q72 _ _
  have hgk : ∀ k (hk : k < steps.length),steps[k] = (xs[k]'(by omega),xs[k + 1]'(by omega),secJ kind p q (xs[k]'(by omega))):=fun k hk=>by subst hst;exact q71 hk (by omega)
  have hml : ∀ k,k≤steps.length→(∀ j,j < k→∀ t,steps[j]? = some t→t.2.2.length≤400)→((Qj putR Qh (steps.take k)).flat putR).length≤1600 * 400:=fun k hk hj=>by
    have h1:=qaf putR (s0:=Qh) (M:=400) (steps:=steps.take k) (fun t ht=>by
      obtain ⟨i,hi,rfl⟩:=List.getElem_of_mem ht
      rw [List.length_take] at hi
      rw [List.getElem_take]
      exact hj i (by omega) _ (List.getElem?_eq_getElem (by omega)))
    have h2 : (steps.take k).length≤1600:=by rw [List.length_take];omega
    have h3 : (Qh.flat putR : List qg).length = 0:=rfl
    have h4 : (steps.take k).length * 400≤1600 * 400:=Nat.mul_le_mul_right _ h2
    omega
  have hcov : ∀ x,loop (Jr p x) (0,[]) = some (covS p x):=fun x=>qdv p lp x
  have hcoq : ∀ x,loop (Jr q x) (0,[]) = some (covS q x):=fun x=>qdv q lq x
  have main:=qao (f:=q3g xs p q f) (fun k=>(((k + 1 : Nat) : Int),(Qj putR Qh (steps.take k)).sec,((Qj putR Qh (steps.take k)).done.length : Int),(Qj putR Qh (steps.take k)).hi,(Qj putR Qh (steps.take k)).flat putR))
    steps.length (fun j=>∀ t,steps[j]? = some t→t.2.2.length≤400) (.inl ((Qj putR Qh steps).sec,((Qj putR Qh steps).done.length : Int),(Qj putR Qh steps).hi,(Qj putR Qh steps).flat putR)) (.inr ([],4))
    (fun k hk hj=>by
      have hk1 : k + 1 < xs.length:=by omega
      have hk0 : k < xs.length:=by omega
      have i1 : idx xs (w64 (((k + 1 : Nat) : Int) - 1)) = some xs[k]:=by rw [Q0 (by omega)];exact Zg (by omega) (by omega)
      have hc:=hj k (Nat.le_refl _) _ (List.getElem?_eq_getElem hk)
      have hm:=hml k (by omega) fun j hjk=>hj j (by omega)
      rw [q2r putR hk,hgk k hk] at *
      simp only at hc
      have hb:=qg4 (Qj putR Qh (steps.take k)) xs[k] xs[k + 1] (secJ kind p q xs[k]) (by omega)
      have ho : f (covS p xs[k]) (covS q xs[k]) = some (secJ kind p q xs[k],0):=by rw [hf,qjg kind hp hq,if_neg (by omega)]
      simp only [q3g,dlt hk1,cond_true,i1,Qk hk1,Option.bind_some,show idx [p,q] 0 = some p from rfl,show idx [p,q] 1 = some q from rfl,rj4,rj5,hcov,hcoq,ho,show ((0 : Int) != 0) = false from rfl,cond_false,hb]
      rw [w64s hk1 (by omega)])
    (fun k hk hj hbad=>by
      have hk1 : k + 1 < xs.length:=by omega
      have hk0 : k < xs.length:=by omega
      have i1 : idx xs (w64 (((k + 1 : Nat) : Int) - 1)) = some xs[k]:=by rw [Q0 (by omega)];exact Zg (by omega) (by omega)
      have hc : 400 < (secJ kind p q xs[k]).length:=by
        refine Nat.lt_of_not_le fun h=>hbad fun t ht=>?_
        rw [List.getElem?_eq_getElem hk,hgk k hk] at ht
        cases ht;exact h
      have ho : f (covS p xs[k]) (covS q xs[k]) = some ([],4):=by rw [hf,qjg kind hp hq,if_pos hc]
      simp only [q3g,dlt hk1,cond_true,i1,Qk hk1,Option.bind_some,show idx [p,q] 0 = some p from rfl,show idx [p,q] 1 = some q from rfl,rj4,rj5,hcov,hcoq,ho,show ((4 : Int) != 0) = true from rfl,cond_true])
    (fun _=>by
      have : decide (((steps.length + 1 : Nat) : Int) < (xs.length : Int)) = false:=decide_eq_false (by omega)
      simp only [List.take_length,q3g,this,cond_false])
  have h00 : ((((0 + 1 : Nat) : Int),(Qj putR Qh (steps.take 0)).sec,((Qj putR Qh (steps.take 0)).done.length : Int),(Qj putR Qh (steps.take 0)).hi,(Qj putR Qh (steps.take 0)).flat putR) : Int × List qh × Int × Int × List qg) = (1,[],0,0,[]):=rfl
  rw [h00] at main
  rcases main with ⟨_,h2⟩ | ⟨j,hj,hbad,h2⟩
  · rw [h2]
    simp only [Option.bind_some]
    by_cases h4 : 400 < ((Qj putR Qh steps).flat putR).length
    · rw [decide_eq_true (by omega : (((Qj putR Qh steps).flat putR).length : Int) > 400),if_pos h4];rfl
    · rw [decide_eq_false (by omega : ¬ (((Qj putR Qh steps).flat putR).length : Int) > 400),if_neg h4];rfl
  · rw [h2]
    have hj0 : j < xs.length:=by omega
    have h5 : 400 < (secJ kind p q xs[j]).length:=by
      refine Nat.lt_of_not_le fun h=>hbad fun t ht=>?_
      rw [List.getElem?_eq_getElem hj,hgk j hj] at ht
      cases ht;exact h
    have h6:=hle xs[j]
    have h4 : 400 < ((Qj putR Qh steps).flat putR).length:=Nat.lt_of_lt_of_le h5 h6
    rw [if_pos h4];rfl
theorem qt5 (p q : List qg) : q5h p q = some (jR 2 p q):=by
  unfold q5h;rw [qem 2 _ (fun a b=>qzh a b)];rfl
theorem qt1 (p q : List qg) : q5f p q = some (jR 1 p q):=by
  unfold q5f;rw [qem 1 _ (fun a b=>qqi a b)];rfl
theorem qt3 (p q : List qg) : q5g p q = some (jR 3 p q):=by
  unfold q5g;rw [qem 3 _ (fun a b=>qqk a b)];rfl
end Go.Sh
namespace Go.Sh
open Go Go.Am
theorem qya (v : qy) : q6t v = some (decide ((-1000000≤v.X∧-1000000≤v.Y∧-1000000≤v.Z)∧v.X≤1000000∧v.Y≤1000000∧v.Z≤1000000)):=by
  unfold q6t
  by_cases h1 : min (min v.X v.Y) v.Z ≥ -1000000
  · by_cases h2 : max (max v.X v.Y) v.Z≤1000000
    · rw [decide_eq_true h1,decide_eq_true h2,cond_true,Option.bind_some];congr 1;exact (decide_eq_true (by omega)).symm
    · rw [decide_eq_true h1,decide_eq_false h2,cond_true,Option.bind_some];congr 1;exact (decide_eq_false (by omega)).symm
  · rw [decide_eq_false h1,cond_false,Option.bind_some];congr 1;exact (decide_eq_false (by omega)).symm
theorem qlg (b : qf) : q6v b = some (decide (vB b)):=by
  unfold q6v vB
  simp only [qya,Option.bind_some]
  by_cases h1 : b.Lo.X < b.Hi.X
  · by_cases h2 : b.Lo.Y < b.Hi.Y
    · by_cases h3 : b.Lo.Z < b.Hi.Z
      · simp only [h1,h2,h3,decide_true,cond_true,Option.bind_some,true_and]
        by_cases h4 : (-1000000≤b.Lo.X∧-1000000≤b.Lo.Y∧-1000000≤b.Lo.Z)∧b.Lo.X≤1000000∧b.Lo.Y≤1000000∧b.Lo.Z≤1000000
        · rw [decide_eq_true h4]
          simp only [cond_true,Option.bind_some]
          congr 1
          exact decide_eq_decide.2 (by omega)
        · rw [decide_eq_false h4]
          simp only [cond_false,Option.bind_some]
          congr 1
          exact (decide_eq_false (by omega)).symm
      · simp [h1,h2,h3]
    · simp [h1,h2]
  · simp [h1]
theorem qsm (v : qy) (n : Int) : q58 v n = some (decide ((n≤v.X∧n≤v.Y∧n≤v.Z)∧v.X≤1000000∧v.Y≤1000000∧v.Z≤1000000)):=by
  unfold q58
  by_cases h1 : v.X ≥ n <;> by_cases h2 : v.Y ≥ n <;> by_cases h3 : v.Z ≥ n <;> by_cases h4 : v.X≤1000000 <;> by_cases h5 : v.Y≤1000000 <;> by_cases h6 : v.Z≤1000000 <;>
    simp [h1,h2,h3,h4,h5,h6] <;> omega
theorem qsu (b : qf) : q82 b = some (decide (vB b)):=by
  unfold q82 vB
  simp only [qsm,Option.bind_some]
  by_cases h4 : (-1000000≤b.Lo.X∧-1000000≤b.Lo.Y∧-1000000≤b.Lo.Z)∧b.Lo.X≤1000000∧b.Lo.Y≤1000000∧b.Lo.Z≤1000000
  · rw [decide_eq_true h4]
    simp only [cond_true,Option.bind_some]
    by_cases h5 : (-1000000≤b.Hi.X∧-1000000≤b.Hi.Y∧-1000000≤b.Hi.Z)∧b.Hi.X≤1000000∧b.Hi.Y≤1000000∧b.Hi.Z≤1000000
    · rw [decide_eq_true h5]
      by_cases h1 : b.Lo.X < b.Hi.X <;> by_cases h2 : b.Lo.Y < b.Hi.Y <;> by_cases h3 : b.Lo.Z < b.Hi.Z <;> simp [h1,h2,h3] <;> omega
    · rw [decide_eq_false h5]
      simp only [cond_false,Option.bind_some]
      congr 1
      exact (decide_eq_false (by omega)).symm
  · rw [decide_eq_false h4]
    simp only [cond_false,Option.bind_some]
    congr 1
    exact (decide_eq_false (by omega)).symm
theorem qy9 (l : List qf) (hl : l.length≤1000000) : q8a l (fun x0=>q2e x0) = some (decide (¬ ∀ r∈l,vB r)):=by
  have hs : ∀ (k : Nat) (h : k < l.length),q3i l (fun x0=>q2e x0) (k : Int) = some (if (fun r=>!decide (vB r)) l[k] = true then .inr (.inr (k : Int)) else .inl ((k + 1 : Nat) : Int)):=by
    intro k h
    simp only [q3i,dlt h,cond_true,Qk h,Option.bind_some,w64s h hl,q2e,qlg]
    by_cases hv : vB l[k] <;> simp [hv]
  have hd : q3i l (fun x0=>q2e x0) (l.length : Int) = some (.inr (.inl ())):=by simp only [q3i,dnl,cond_false]
  unfold q8a qbl
  rcases q1g l (fun r=>!decide (vB r)) (fun k _=>(k : Int)) () _ hs hd with ⟨h1,h2⟩ | ⟨k,hk,hc,_,h2⟩
  · rw [h2]
    have : ∀ r∈l,vB r:=fun r hr=>by simpa using h1 r hr
    simp []
    omega
  · rw [h2]
    have : ¬ ∀ r∈l,vB r:=fun h=>by simp [h _ (List.getElem_mem hk)] at hc
    simp only [Option.bind_some]
    rw [decide_eq_true this,decide_eq_true (by omega)]
theorem qy8 (l : List qf) (hl : l.length≤1000000) : q3h l (fun x0=>q2c x0) = some (decide (¬ ∀ r∈l,vB r)):=by
  have hs : ∀ (k : Nat) (h : k < l.length),Ua l (fun x0=>q2c x0) (k : Int) = some (if (fun r=>!decide (vB r)) l[k] = true then .inr (.inr (k : Int)) else .inl ((k + 1 : Nat) : Int)):=by
    intro k h
    simp only [Ua,dlt h,cond_true,Qk h,Option.bind_some,w64s h hl,q2c,qlg]
    by_cases hv : vB l[k] <;> simp [hv]
  have hd : Ua l (fun x0=>q2c x0) (l.length : Int) = some (.inr (.inl ())):=by simp only [Ua,dnl,cond_false]
  unfold q3h q8f
  rcases q1g l (fun r=>!decide (vB r)) (fun k _=>(k : Int)) () _ hs hd with ⟨h1,h2⟩ | ⟨k,hk,hc,_,h2⟩
  · rw [h2]
    have : ∀ r∈l,vB r:=fun r hr=>by simpa using h1 r hr
    simp []
    omega
  · rw [h2]
    have : ¬ ∀ r∈l,vB r:=fun h=>by simp [h _ (List.getElem_mem hk)] at hc
    simp only [Option.bind_some]
    rw [decide_eq_true this,decide_eq_true (by omega)]
theorem qlc (s : Mg qg qf) (a b : Int) (c : List qg) (hl : (s.flat putB).length + c.length≤1000000) :
    q6q (s.flat putB) s.sec (s.done.length : Int) s.hi a b c = some ((addM putB s a b c).sec,((addM putB s a b c).done.length : Int),(addM putB s a b c).hi,(addM putB s a b c).flat putB):=by
  have hfl : (s.flat putB).length = s.done.length + s.sec.length:=by simp [Mg.flat]
  have hsec : s.sec.length≤1000000:=by omega
  unfold q6q
  rcases Uf putB s a b c with ⟨h1,h2,h3,h4⟩ | ⟨h1,h4⟩
  · have hb : decide ((c.length : Int) > 0) = true:=decide_eq_true (by have:=List.length_pos_iff.2 h1;omega)
    have he : (s.hi == a) = true:=by simpa using h3
    rw [h2] at hb
    rw [h4,h2]
    simp only [hb,cond_true,he,Option.bind_some,qd7 _ _ hsec,decide_true]
    have:=qac (fun v : qf=>({Lo:=v.Lo,Hi:=({X:=v.Hi.X,Y:=v.Hi.Y,Z:=b} : qy)} : qf)) s.done (s.sec.map (putB s.lo s.hi)) (by simp;omega) (q6r b) (fun k o hk ho=>by
      have h5 : (s.done ++ s.sec.map (putB s.lo s.hi)).length = (s.flat putB).length:=rfl
      simp only [q6r,dlt hk,cond_true,Qk hk,Option.bind_some,w64s hk (by omega),Int.toNat_natCast]) (fun o=>by simp only [q6r,dnl,cond_false])
    rw [show s.flat putB = s.done ++ s.sec.map (putB s.lo s.hi) from rfl,this]
    simp only [Option.bind_some,Mg.flat,List.map_map]
    rfl
  · rw [h4]
    have hc : ((cond (decide ((c.length : Int) > 0)) (some (s.hi == a)) (some false)).bind fun c101=>(cond c101 ((q5q s.sec c).bind fun r121=>some r121) (some false))) = some false:=by
      by_cases h5 : c = []
      · subst h5;simp
      · have hb : decide ((c.length : Int) > 0) = true:=decide_eq_true (by have:=List.length_pos_iff.2 h5;omega)
        simp only [hb,cond_true,Option.bind_some,qd7 _ _ hsec]
        by_cases h6 : s.hi = a
        · have h7 : s.sec≠c:=fun h=>h1 ⟨h5,h.symm,h6⟩
          simp [h6,h7]
        · have : (s.hi == a) = false:=by simpa using h6
          simp [this]
    have hap:=q7p c (putB a b) (s.flat putB) (fun o=>(c,((s.flat putB).length : Int),b,o)) (q6s c a b (s.flat putB)) (fun k hk o ho=>by
      simp only [q6s,dlt hk,cond_true,Qk hk,Option.bind_some,w64s hk (by omega)]
      rw [Kl (by simp;omega)]
      rfl) (fun o=>by simp only [q6s,dnl,cond_false])
    rw [← Option.bind_assoc,hc]
    simp only [Option.bind_some,cond_false,hap]
    simp [Mg.flat]
theorem qfm (l : List qf) (o : List Int) (hl : l.length≤400) (ho : o.length≤10000) : loop (q15 l) (0,o) = some (o ++ zsOf l):=
  Zy l (by omega) (fun r=>[r.Lo.Z,r.Hi.Z]) o (fun o=>o) (q15 l) (fun k hk o' ho'=>by
    have h8 : o'.length = o.length + 2 * k:=by
      rw [ho',List.length_append];have:=Yv (l.take k);rw [List.length_take,Nat.min_eq_left (by omega)] at this
      unfold zsOf at this;omega
    simp only [q15,dlt hk,cond_true,Qk hk,Option.bind_some,w64s hk (by omega)]
    rw [Kl (by simp;omega)]
    rfl) (fun o=>by simp only [q15,dnl,cond_false])
theorem q4a (l : List qf) (hl : l.length≤400) (x : Int) : loop (q16 l x) (0,[]) = some (atB l x):=by
  have:=Zy l (by omega) (fun r=>if covB x r = true then [Zo r] else []) [] (fun o=>o) (q16 l x) (fun k hk o ho=>by
    have h8 : o.length≤k:=by rw [ho,List.nil_append];have:=Ji (l.take k) x;rw [List.length_take,Nat.min_eq_left (by omega)] at this;exact this
    simp only [q16,dlt hk,cond_true,Qk hk,Option.bind_some,w64s hk (by omega)]
    by_cases h1 : l[k].Lo.Z≤x
    · by_cases h2 : x < l[k].Hi.Z
      · simp only [h1,h2,decide_true,cond_true,Option.bind_some,covB,Bool.and_self,if_true]
        rw [Kl (by simp;omega)]
        rfl
      · simp only [h1,h2,decide_true,decide_false,cond_true,cond_false,Option.bind_some,covB,Bool.and_false,if_false,Bool.false_eq_true,List.append_nil]
    · simp only [h1,decide_false,cond_false,Option.bind_some,covB,Bool.false_and,if_false,Bool.false_eq_true,List.append_nil]) (fun o=>by simp only [q16,dnl,cond_false])
  rw [List.nil_append] at this
  exact this
theorem qkx {kind : Int} {p q : List qf} {xs : List Int} (hxs : Qf (zsOf p ++ zsOf q) = xs) (h : p.length + q.length≤800) (F : Int × List qg × Int × Int × List qf→Option ((Int × List qg × Int × Int × List qf) ⊕ ((List qg × Int × Int × List qf) ⊕ (List qf × Int))))
    (hgo : ∀ (a b : Int) (k : Nat) (s : Mg qg qf),(s.flat putB).length + 400≤1000000→(h1 : k + 1 < xs.length)→a = xs[k]'(by omega)→b = xs[k + 1]'h1→(secB kind p q a).length≤400→
      F (((k + 1 : Nat) : Int),s.sec,(s.done.length : Int),s.hi,s.flat putB) = some (.inl (((k + 1 + 1 : Nat) : Int),(addM putB s a b (secB kind p q a)).sec,((addM putB s a b (secB kind p q a)).done.length : Int),(addM putB s a b (secB kind p q a)).hi,(addM putB s a b (secB kind p q a)).flat putB)))
    (hbad : ∀ (a : Int) (k : Nat) (s : Mg qg qf),(h1 : k + 1 < xs.length)→a = xs[k]'(by omega)→400 < (secB kind p q a).length→
      F (((k + 1 : Nat) : Int),s.sec,(s.done.length : Int),s.hi,s.flat putB) = some (.inr (.inr ([],4))))
    (hend : ∀ (k : Nat) (s : Mg qg qf),xs.length≤k + 1→F (((k + 1 : Nat) : Int),s.sec,(s.done.length : Int),s.hi,s.flat putB) = some (.inr (.inl (s.sec,(s.done.length : Int),s.hi,s.flat putB)))) :
    (∃ a b c,loop F (1,[],0,0,[]) = some (.inl (a,b,c,mrgB kind p q)))∨(400 < (mrgB kind p q).length∧loop F (1,[],0,0,[]) = some (.inr ([],4))):=by
  have hx1:=Yv p
  have hx2:=Yv q
  obtain ⟨_,hso,hlen⟩:=J2 (l:=zsOf p ++ zsOf q) (by simp;omega)
  have hlen : (Qf (zsOf p ++ zsOf q)).length≤1600:=by simp at hlen;omega
  have hle : ∀ x,(secB kind p q x).length≤(mrgB kind p q).length:=fun x=>qbf kind (by omega) x
  have hmr : mrgB kind p q = (Qj putB Qh (Y2 (Qf (zsOf p ++ zsOf q)) (secB kind p q))).flat putB:=rfl
  rw [hmr] at hle ⊢
  rw [hxs] at hso hlen hle ⊢
  generalize hst : Y2 xs (secB kind p q) = steps at hle ⊢
  have hsl : steps.length = xs.length - 1:=by rw [← hst];exact q72 _ _
  have hgk : ∀ k (hk : k < steps.length),steps[k] = (xs[k]'(by omega),xs[k + 1]'(by omega),secB kind p q (xs[k]'(by omega))):=fun k hk=>by subst hst;exact q71 hk (by omega)
  have hml : ∀ k,k≤steps.length→(∀ j,j < k→∀ t,steps[j]? = some t→t.2.2.length≤400)→((Qj putB Qh (steps.take k)).flat putB).length≤1600 * 400:=fun k hk hj=>by
    have h1:=qaf putB (s0:=Qh) (M:=400) (steps:=steps.take k) (fun t ht=>by
      obtain ⟨i,hi,rfl⟩:=List.getElem_of_mem ht
      rw [List.length_take] at hi
      rw [List.getElem_take]
      exact hj i (by omega) _ (List.getElem?_eq_getElem (by omega)))
    have h2 : (steps.take k).length≤1600:=by rw [List.length_take];omega
    have h3 : (Qh.flat putB : List qf).length = 0:=rfl
    have h4 : (steps.take k).length * 400≤1600 * 400:=Nat.mul_le_mul_right _ h2
    omega
  have main:=qao (f:=F) (fun k=>(((k + 1 : Nat) : Int),(Qj putB Qh (steps.take k)).sec,((Qj putB Qh (steps.take k)).done.length : Int),(Qj putB Qh (steps.take k)).hi,(Qj putB Qh (steps.take k)).flat putB))
    steps.length (fun j=>∀ t,steps[j]? = some t→t.2.2.length≤400) (.inl ((Qj putB Qh steps).sec,((Qj putB Qh steps).done.length : Int),(Qj putB Qh steps).hi,(Qj putB Qh steps).flat putB)) (.inr ([],4))
    (fun k hk hj=>by
      have hk1 : k + 1 < xs.length:=by omega
      have hc:=hj k (Nat.le_refl _) _ (List.getElem?_eq_getElem hk)
      have hm:=hml k (by omega) fun j hjk=>hj j (by omega)
      rw [q2r putB hk,hgk k hk] at *
      simp only at hc
      exact hgo _ _ k (Qj putB Qh (steps.take k)) (by omega) hk1 rfl rfl hc)
    (fun k hk hj hb=>by
      have hk1 : k + 1 < xs.length:=by omega
      have hk0 : k < xs.length:=by omega
      refine hbad _ k (Qj putB Qh (steps.take k)) hk1 rfl ?_
      refine Nat.lt_of_not_le fun h=>hb fun t ht=>?_
      rw [List.getElem?_eq_getElem hk,hgk k hk] at ht
      cases ht;exact h)
    (fun _=>by
      rw [List.take_length]
      exact hend steps.length _ (by omega))
  have h00 : ((((0 + 1 : Nat) : Int),(Qj putB Qh (steps.take 0)).sec,((Qj putB Qh (steps.take 0)).done.length : Int),(Qj putB Qh (steps.take 0)).hi,(Qj putB Qh (steps.take 0)).flat putB) : Int × List qg × Int × Int × List qf) = (1,[],0,0,[]):=rfl
  rw [h00] at main
  rcases main with ⟨_,h2⟩ | ⟨j,hj,hb,h2⟩
  · exact .inl ⟨_,_,_,h2⟩
  · refine .inr ⟨?_,h2⟩
    have hj0 : j < xs.length:=by omega
    have h5 : 400 < (secB kind p q xs[j]).length:=by
      refine Nat.lt_of_not_le fun h=>hb fun t ht=>?_
      rw [List.getElem?_eq_getElem hj,hgk j hj] at ht
      cases ht;exact h
    exact Nat.lt_of_lt_of_le h5 (hle xs[j])
theorem qkk (l : List qf) (hl : l.length≤400) (hv : ∀ b∈l,vB b) : q6w l = some (if 400 < (mrgB 2 l []).length then ([],4) else (mrgB 2 l [],0)):=by
  unfold q6w
  have hx1:=Yv l
  simp only [show idx [l] 0 = some l from rfl,Option.bind_some,qfm l [] hl (by simp),List.nil_append]
  rw [qf7 _ (by omega)]
  simp only [Option.bind_some]
  have hz : zsOf l = zsOf l ++ zsOf []:=by simp [zsOf]
  obtain ⟨_,hso,hlen⟩:=J2 (l:=zsOf l ++ zsOf []) (by rw [← hz];omega)
  have hlen : (Qf (zsOf l ++ zsOf [])).length≤800:=by rw [← hz] at hlen ⊢;omega
  have hmk : ∀ z,Uy (atB l z) = some (if 400 < (secB 2 l [] z).length then ([],4) else (secB 2 l [] z,0)):=fun z=>by
    have:=Ji l z
    rw [qk9,mkR,if_neg (by omega),if_pos (qme hv z)];rfl
  rw [hz]
  have:=qkx (kind:=2) (p:=l) (q:=[]) rfl (by simp;omega) (q40 (Qf (zsOf l ++ zsOf [])) l)
    (fun a b k s hs h1 ha hb hc=>by
      have h0 : k < (Qf (zsOf l ++ zsOf [])).length:=by omega
      have i1 : idx (Qf (zsOf l ++ zsOf [])) (w64 (((k + 1 : Nat) : Int) - 1)) = some a:=by rw [Q0 (by omega),ha];exact Zg (by omega) (by omega)
      have i2 : idx (Qf (zsOf l ++ zsOf [])) ((k + 1 : Nat) : Int) = some b:=by rw [hb];exact Qk h1
      have hm:=hmk a
      rw [if_neg (by omega)] at hm
      simp only [q40,dlt h1,cond_true,i1,i2,Option.bind_some,show idx [l] 0 = some l from rfl,q4a l hl,hm,show ((0 : Int) != 0) = false from rfl,cond_false,qlc s a b (secB 2 l [] a) (by omega)]
      rw [w64s h1 (by omega)])
    (fun a k s h1 ha hc=>by
      have i1 : idx (Qf (zsOf l ++ zsOf [])) (w64 (((k + 1 : Nat) : Int) - 1)) = some a:=by rw [Q0 (by omega),ha];exact Zg (by omega) (by omega)
      have hm:=hmk a
      rw [if_pos hc] at hm
      simp only [q40,dlt h1,cond_true,i1,Qk h1,Option.bind_some,show idx [l] 0 = some l from rfl,q4a l hl,hm,show ((4 : Int) != 0) = true from rfl])
    (fun k s h1=>by
      have : decide (((k + 1 : Nat) : Int) < ((Qf (zsOf l ++ zsOf [])).length : Int)) = false:=decide_eq_false (by omega)
      simp only [q40,this,cond_false])
  rcases this with ⟨a,b,c,h2⟩ | ⟨h4,h2⟩
  · rw [h2]
    simp only [Option.bind_some]
    by_cases h4 : 400 < (mrgB 2 l []).length
    · rw [decide_eq_true (by omega : ((mrgB 2 l []).length : Int) > 400),if_pos h4];rfl
    · rw [decide_eq_false (by omega : ¬ ((mrgB 2 l []).length : Int) > 400),if_neg h4];rfl
  · rw [h2,if_pos h4];rfl
theorem ql9 (l : List qf) : q6o l = some (mkB l):=by
  unfold q6o mkB
  by_cases h4 : 400 < l.length
  · rw [decide_eq_true (by omega : (l.length : Int) > 400),cond_true,if_pos h4]
  rw [decide_eq_false (by omega : ¬ (l.length : Int) > 400),cond_false,if_neg h4,qy9 l (by omega),Option.bind_some]
  by_cases hv : ∀ r∈l,vB r
  · rw [decide_eq_false (fun h=>h hv),cond_false,qkk l (by omega) hv,if_pos hv];rfl
  · rw [decide_eq_true hv,cond_true,if_neg hv]
theorem qot (p q : List qf) (hl : p.length≤1000000) : qbj p q = some (decide (p = q)):=sameBox p q hl
theorem q98 (l : List qf) : Jb l = some (Qi l):=by
  unfold Jb Qi
  by_cases h4 : 400 < l.length
  · rw [decide_eq_true (by omega : (l.length : Int) > 400),cond_true,if_pos h4]
  rw [decide_eq_false (by omega : ¬ (l.length : Int) > 400),cond_false,if_neg h4,qy8 l (by omega),Option.bind_some]
  by_cases hv : ∀ r∈l,vB r
  · rw [decide_eq_false (fun h=>h hv),cond_false,qkk l (by omega) hv,if_pos hv,Option.bind_some]
    by_cases hm : 400 < (mrgB 2 l []).length
    · have hne : mrgB 2 l []≠l:=fun h=>by rw [h] at hm;exact h4 hm
      rw [if_pos hm,if_neg hne];rfl
    · rw [if_neg hm]
      simp only [qot (mrgB 2 l []) l (by omega)]
      by_cases he : mrgB 2 l [] = l <;> simp [he]
  · rw [decide_eq_true hv,cond_true,if_neg hv]
end Go.Sh
namespace Go.Sh
open Go Go.Am
theorem sj1 : qbu = q15:=rfl
theorem sj2 : qbv = q15:=rfl
theorem sj4 : qbw = q16:=rfl
theorem sj5 : qbx = q16:=rfl
theorem qcy {p : List qf} (h : Qi p = 0) (z : Int) : Kq (atB p z) = 0:=by
  obtain ⟨h1,h2,h3⟩:=Ke.1 h
  have:=Ji p z
  exact q77.2 ⟨by omega,qme h2 z,h3.at z⟩
theorem qas {p : List qf} (h : Qi p = 0) (z : Int) : Uy (atB p z) = some (atB p z,0):=by
  obtain ⟨h1,h2,h3⟩:=q77.1 (qcy h z)
  rw [qk9,mkR,if_neg (by omega),if_pos h2,qj8 (by omega) h3,if_neg (by omega)]
theorem qtp (kind : Int) (g : List qg→List qg→Option (List qg × Int)) (hg : ∀ a b,g a b = some (jR kind a b)) (p q : List qf) (hp : Qi p = 0) (hq : Qi q = 0) :
    q9d g p q = some (if 400 < (mrgB kind p q).length then ([],4) else (mrgB kind p q,0)):=by
  obtain ⟨lp,vp,cp⟩:=Ke.1 hp
  obtain ⟨lq,vq,cq⟩:=Ke.1 hq
  unfold q9d
  have hx1:=Yv p
  have hx2:=Yv q
  simp only [show idx [p,q] 0 = some p from rfl,show idx [p,q] 1 = some q from rfl,Option.bind_some,sj1,sj2,qfm p [] lp (by simp),List.nil_append,qfm q (zsOf p) lq (by omega)]
  rw [qf7 _ (by simp;omega)]
  simp only [Option.bind_some]
  obtain ⟨_,hso,hlen⟩:=J2 (l:=zsOf p ++ zsOf q) (by simp;omega)
  have hlen : (Qf (zsOf p ++ zsOf q)).length≤1600:=by simp at hlen;omega
  have hj : ∀ z,g (atB p z) (atB q z) = some (if 400 < (secB kind p q z).length then ([],4) else (secB kind p q z,0)):=fun z=>by
    rw [hg,jR,if_neg (by simp [qcy hp z]),if_neg (by simp [qcy hq z])];rfl
  have:=qkx (kind:=kind) (p:=p) (q:=q) rfl (by omega) (q3z (Qf (zsOf p ++ zsOf q)) p q g)
    (fun a b k s hs h1 ha hb hc=>by
      have h0 : k < (Qf (zsOf p ++ zsOf q)).length:=by omega
      have i1 : idx (Qf (zsOf p ++ zsOf q)) (w64 (((k + 1 : Nat) : Int) - 1)) = some a:=by rw [Q0 (by omega),ha];exact Zg (by omega) (by omega)
      have i2 : idx (Qf (zsOf p ++ zsOf q)) ((k + 1 : Nat) : Int) = some b:=by rw [hb];exact Qk h1
      have hm:=hj a
      rw [if_neg (by omega)] at hm
      simp only [q3z,dlt h1,cond_true,i1,i2,Option.bind_some,show idx [p,q] 0 = some p from rfl,show idx [p,q] 1 = some q from rfl,sj4,sj5,q4a p lp,q4a q lq,qas hp,qas hq,show ((0 : Int) == 0) = true from rfl,hm,show ((0 : Int) != 0) = false from rfl,cond_false,qlc s a b (secB kind p q a) (by omega)]
      rw [w64s h1 (by omega)])
    (fun a k s h1 ha hc=>by
      have i1 : idx (Qf (zsOf p ++ zsOf q)) (w64 (((k + 1 : Nat) : Int) - 1)) = some a:=by rw [Q0 (by omega),ha];exact Zg (by omega) (by omega)
      have hm:=hj a
      rw [if_pos hc] at hm
      simp only [q3z,dlt h1,cond_true,i1,Qk h1,Option.bind_some,show idx [p,q] 0 = some p from rfl,show idx [p,q] 1 = some q from rfl,sj4,sj5,q4a p lp,q4a q lq,qas hp,qas hq,show ((0 : Int) == 0) = true from rfl,hm,show ((4 : Int) != 0) = true from rfl])
    (fun k s h1=>by
      have : decide (((k + 1 : Nat) : Int) < ((Qf (zsOf p ++ zsOf q)).length : Int)) = false:=decide_eq_false (by omega)
      simp only [q3z,this,cond_false])
  rcases this with ⟨a,b,c,h2⟩ | ⟨h4,h2⟩
  · rw [h2]
    simp only [Option.bind_some]
    by_cases h4 : 400 < (mrgB kind p q).length
    · rw [decide_eq_true (by omega : ((mrgB kind p q).length : Int) > 400),if_pos h4];rfl
    · rw [decide_eq_false (by omega : ¬ ((mrgB kind p q).length : Int) > 400),if_neg h4];rfl
  · rw [h2,if_pos h4];rfl
theorem qdr (kind : Int) (g : List qg→List qg→Option (List qg × Int)) (hg : ∀ a b,g a b = some (jR kind a b)) (p q : List qf) : q3y p q g = some (jB kind p q):=by
  unfold q3y jB
  simp only [q98,Option.bind_some]
  by_cases hp : ¬ Qi p = 0
  · rw [if_pos hp]
    have : (Qi p != 0) = true:=by simpa using hp
    rw [this,cond_true]
  replace hp:=Classical.not_not.1 hp
  by_cases hq : ¬ Qi q = 0
  · rw [if_neg (by simp [hp]),if_pos hq,hp]
    have : (Qi q != 0) = true:=by simpa using hq
    rw [this];rfl
  replace hq:=Classical.not_not.1 hq
  rw [if_neg (by simp [hp]),if_neg (by simp [hq]),qtp kind g hg p q hp hq,hp,hq]
  rfl
theorem qf5 (p q : List qf) : q2g p q = some (jB 2 p q):=by
  unfold q2g;rw [qdr 2 _ (fun a b=>qt5 a b)];rfl
theorem qf2 (p q : List qf) : q2f p q = some (jB 1 p q):=by
  unfold q2f;rw [qdr 1 _ (fun a b=>qt1 a b)];rfl
theorem qf3 (p q : List qf) : q3u p q = some (jB 3 p q):=by
  unfold q3u;rw [qdr 3 _ (fun a b=>qt3 a b)];rfl
def q48 (kind : Int) (p q : List qf) (z : Int) : Prop:=400 < (secB kind p q z).length∨400 < (secB 2 p [] z).length∨400 < (secB 2 q [] z).length
theorem qq0 (kind : Int) {p q : List qf} (h : p.length + q.length≤400) {xs : List Int} (hx : xs.length≤1000000) {i : Nat} (hi : i + 1 < xs.length) (hb : q48 kind p q (xs[i]'(by omega))) (a : Int) (c : List qg) (o : List qf) :
    Ux xs p q kind (c,a,(i : Int),o) = some (.inr (.inr ([],false))):=by
  have hi0 : i < xs.length:=by omega
  have hw : w64 ((i : Int) + 1) = ((i + 1 : Nat) : Int):=w64s hi0 hx
  have n1:=Ji p xs[i]
  have n2:=Ji q xs[i]
  have ap : J9 p xs[i] = some (atB p xs[i]):=qb6 p (by omega) _
  have aq : J9 q xs[i] = some (atB q xs[i]):=qb6 q (by omega) _
  have jj : Zn kind (atB p xs[i]) (atB q xs[i]) = some (secB kind p q xs[i]):=q56 kind (by omega)
  have jp : Zn 2 (atB p xs[i]) [] = some (secB 2 p [] xs[i]):=q56 2 (by simp;omega)
  have jq : Zn 2 (atB q xs[i]) [] = some (secB 2 q [] xs[i]):=q56 2 (by simp;omega)
  unfold Ux
  simp only [hw,dlt hi,cond_true,Qk hi0,ap,aq,jj,jp,jq,Option.bind_some]
  by_cases h1 : 400 < (secB kind p q xs[i]).length
  · have d1 : decide (((secB kind p q xs[i]).length : Int) > 400) = true:=decide_eq_true (by omega)
    simp only [d1,cond_true,Option.bind_some]
  have d1 : decide (((secB kind p q xs[i]).length : Int) > 400) = false:=decide_eq_false (by omega)
  by_cases h2 : 400 < (secB 2 p [] xs[i]).length
  · have d2 : decide (((secB 2 p [] xs[i]).length : Int) > 400) = true:=decide_eq_true (by omega)
    simp only [d1,d2,cond_true,cond_false,Option.bind_some]
  have d2 : decide (((secB 2 p [] xs[i]).length : Int) > 400) = false:=decide_eq_false (by omega)
  have h3 : 400 < (secB 2 q [] xs[i]).length:=by rcases hb with h | h | h <;> first | exact absurd h h1 | exact absurd h h2 | exact h
  have d3 : decide (((secB 2 q [] xs[i]).length : Int) > 400) = true:=decide_eq_true (by omega)
  simp only [d1,d2,d3,cond_true,cond_false,Option.bind_some]
theorem qst (kind : Int) {p q : List qf} (h : p.length + q.length≤400) :
    q21 kind p q = some (mrgB kind p q,decide (((mrgB kind p q).length : Int)≤400))∨(q21 kind p q = some ([],false)∧∃ z,q48 kind p q z):=by
  unfold q21
  rw [qso (by omega)]
  simp only [Option.bind_some]
  have hx1:=Yv p
  have hx2:=Yv q
  obtain ⟨_,hso,hlen⟩:=J2 (l:=zsOf p ++ zsOf q) (by simp;omega)
  have hcl : (Qf (zsOf p ++ zsOf q)).length≤800:=by simp at hlen;omega
  unfold mrgB
  generalize Qf (zsOf p ++ zsOf q) = xs at hcl ⊢
  generalize hst : Y2 xs (secB kind p q) = steps
  have hsl : steps.length = xs.length - 1:=by rw [← hst];exact q72 _ _
  have hgk : ∀ k (hk : k < steps.length),steps[k] = (xs[k]'(by omega),xs[k + 1]'(by omega),secB kind p q (xs[k]'(by omega))):=fun k hk=>by subst hst;exact q71 hk (by omega)
  have hml : ∀ k,k≤steps.length→(∀ j,j < k→∀ t,steps[j]? = some t→¬ q48 kind p q t.1)→((Qj putB Qh (steps.take k)).flat putB).length≤800 * 400:=fun k hk hj=>by
    have h1:=qaf putB (s0:=Qh) (M:=400) (steps:=steps.take k) (fun t ht=>by
      obtain ⟨i,hi,rfl⟩:=List.getElem_of_mem ht
      rw [List.length_take] at hi
      rw [List.getElem_take]
      have:=hj i (by omega) _ (List.getElem?_eq_getElem (by omega))
      rw [hgk i (by omega)] at this ⊢
      exact Nat.le_of_not_lt fun h=>this (.inl h))
    have h2 : (steps.take k).length≤800:=by rw [List.length_take];omega
    have h3 : (Qh.flat putB : List qf).length = 0:=rfl
    have h4 : (steps.take k).length * 400≤800 * 400:=Nat.mul_le_mul_right _ h2
    omega
  have main:=qao (f:=Ux xs p q kind) (fun k=>((Qj putB Qh (steps.take k)).sec,((Qj putB Qh (steps.take k)).done.length : Int),(k : Int),(Qj putB Qh (steps.take k)).flat putB))
    steps.length (fun j=>∀ t,steps[j]? = some t→¬ q48 kind p q t.1) (.inl ((Qj putB Qh steps).flat putB)) (.inr ([],false)) (fun k hk hj=>by
      have hk1 : k + 1 < xs.length:=by omega
      have hc:=hj k (Nat.le_refl _) _ (List.getElem?_eq_getElem hk)
      have hm:=hml k (by omega) fun j hjk=>hj j (by omega)
      rw [hgk k hk] at hc
      have hsec : qfo kind p q xs[k]:=by
        have n1:=Ji p xs[k]
        have n2:=Ji q xs[k]
        refine ⟨by omega,?_,?_,?_⟩
        · exact Nat.le_of_not_lt fun h=>hc (.inl h)
        · exact Nat.le_of_not_lt fun h=>hc (.inr (.inl h))
        · exact Nat.le_of_not_lt fun h=>hc (.inr (.inr h))
      have:=qq1 kind (by omega) (xs:=xs) (by omega) hk1 hsec (Qj putB Qh (steps.take k)) (by omega) (fun h0=>by subst h0;rfl) (fun hpos=>by
        obtain ⟨m,rfl⟩ : ∃ m,k = m + 1:=⟨k - 1,by omega⟩
        rw [q2r putB (by omega),qfp,hgk m (by omega)])
      rw [this,q2r putB hk,hgk k hk])
    (fun k hk _ hb=>by
      have hk1 : k + 1 < xs.length:=by omega
      have hk0 : k < xs.length:=by omega
      refine qq0 kind h (by omega) hk1 ?_ _ _ _
      refine Classical.byContradiction fun hn=>hb fun t ht=>?_
      rw [List.getElem?_eq_getElem hk,hgk k hk] at ht
      cases ht;exact hn)
    (fun _=>by
      rw [List.take_length]
      have hb : decide (w64 ((steps.length : Int) + 1) < (xs.length : Int)) = false:=by
        rw [Q0 (by omega)];exact decide_eq_false (by omega)
      unfold Ux
      simp only [hb,cond_false])
  have h00 : (((Qj putB Qh (steps.take 0)).sec,((Qj putB Qh (steps.take 0)).done.length : Int),((0 : Nat) : Int),(Qj putB Qh (steps.take 0)).flat putB) : List qg × Int × Int × List qf) = ([],0,0,[]):=rfl
  rw [h00] at main
  rcases main with ⟨h1,h2⟩ | ⟨j,hj,hb,h2⟩
  · exact .inl (by rw [h2];rfl)
  · refine .inr ⟨by rw [h2];rfl,?_⟩
    have hj0 : j < xs.length:=by omega
    refine ⟨xs[j],?_⟩
    refine Classical.byContradiction fun hn=>hb fun t ht=>?_
    rw [List.getElem?_eq_getElem hj,hgk j hj] at ht
    cases ht;exact hn
theorem quv (kind : Int) (z : Int) : secB kind [] [] z = []:=qe4 kind
theorem qk6 (kind : Int) {p q : List qf} (h : p.length + q.length≤400) (hs : ∀ z,q48 kind p q z→400 < (mrgB kind p q).length) :
    ∃ o,q21 kind p q = some (o,decide ((mrgB kind p q).length≤400))∧((mrgB kind p q).length≤400→o = mrgB kind p q):=by
  rcases qst kind h with h1 | ⟨h1,z,hz⟩
  · refine ⟨_,?_,fun _=>rfl⟩
    rw [h1]
    have : decide (((mrgB kind p q).length : Int)≤400) = decide ((mrgB kind p q).length≤400):=decide_eq_decide.2 (by omega)
    rw [this]
  · have:=hs z hz
    refine ⟨[],?_,fun h=>absurd h (by omega)⟩
    rw [h1,decide_eq_false (by omega)]
theorem quz {l : List qf} (h : l.length≤100000) : ∀ z,q48 2 l [] z→400 < (mrgB 2 l []).length:=by
  intro z hz
  have h1:=qbf 2 (p:=l) (q:=[]) (by simpa using h) z
  rcases hz with hz | hz | hz
  · omega
  · omega
  · rw [quv] at hz;simp at hz
theorem qsw (l : List qf) (_ : l.length≤1000000) {γ : Type} (f : Int→Option (Int ⊕ (Unit ⊕ γ))) (e : γ) (hf : ∀ k (h : k < l.length),f (k : Int) = some (if (fun r=>!decide (vB r)) l[k] = true then .inr (.inr e) else .inl ((k + 1 : Nat) : Int))) (hd : f (l.length : Int) = some (.inr (.inl ()))) :
    loop f 0 = some (if ∀ b∈l,vB b then .inl () else .inr e):=by
  rcases q1g l (fun r=>!decide (vB r)) (fun k _=>e) () f hf hd with ⟨h1,h2⟩ | ⟨k,hk,hc,_,h2⟩
  · have : ∀ r∈l,vB r:=fun r hr=>by simpa using h1 r hr
    rw [if_pos this];exact h2
  · have : ¬ ∀ r∈l,vB r:=fun h=>by simp [h _ (List.getElem_mem hk)] at hc
    rw [if_neg this];exact h2
theorem qsn (l : List qf) : q39 l = some (Qi l):=by
  unfold q39 Qi
  by_cases h4 : 400 < l.length
  · rw [decide_eq_true (by omega : (l.length : Int) > 400),cond_true,if_pos h4]
  rw [decide_eq_false (by omega : ¬ (l.length : Int) > 400),cond_false,if_neg h4]
  rw [qsw l (by omega) (q5a l) 8 (fun k hk=>by
    simp only [q5a,dlt hk,cond_true,Qk hk,Option.bind_some,qsu,w64s hk (by omega)]
    by_cases hv : vB l[k] <;> simp [hv]) (by simp only [q5a,dnl,cond_false])]
  by_cases hv : ∀ r∈l,vB r
  · rw [if_pos hv,if_pos hv]
    obtain ⟨o,h1,h2⟩:=qk6 2 (p:=l) (q:=[]) (by simp;omega) (quz (by omega))
    simp only [Option.bind_some,h1]
    by_cases h5 : 400 < (mrgB 2 l []).length
    · have hne : mrgB 2 l []≠l:=fun h=>by rw [h] at h5;exact h4 h5
      rw [decide_eq_false (by omega),if_neg hne];rfl
    · rw [decide_eq_true (by omega),h2 (by omega),sameBox _ l (by omega)]
      by_cases he : mrgB 2 l [] = l <;> simp [he]
  · rw [if_neg hv,if_neg hv];rfl
theorem qk3 (p q : List qf) : q38 p q = some (if Qi p≠0 then Qi p else Qi q):=by
  unfold q38
  simp only [qsn,Option.bind_some]
  by_cases h : Qi p = 0
  · simp [h]
  · have : (Qi p != 0) = true:=by simpa using h
    simp [h,this]
theorem qss (kind : Int) (p q : List qf) (h : Qi p = 0→Qi q = 0→p.length + q.length≤400) : q3c kind p q = some (jB kind p q):=by
  unfold q3c jB
  simp only [qk3,Option.bind_some]
  by_cases hp : ¬ Qi p = 0
  · have : (Qi p != 0) = true:=by simpa using hp
    rw [if_pos hp,if_pos hp,this,cond_true]
  replace hp:=Classical.not_not.1 hp
  rw [if_neg (by simp [hp]),if_neg (by simp [hp])]
  by_cases hq : ¬ Qi q = 0
  · have : (Qi q != 0) = true:=by simpa using hq
    rw [if_pos hq,this,cond_true]
  replace hq:=Classical.not_not.1 hq
  obtain ⟨lp,vp,cp⟩:=Ke.1 hp
  obtain ⟨lq,vq,cq⟩:=Ke.1 hq
  rw [if_neg (by simp [hq]),hq,show ((0 : Int) != 0) = false from rfl,cond_false]
  have hself : ∀ {l : List qf},l.length≤400→CanB l→∀ z,(secB 2 l [] z).length≤400:=fun {l} hl hc z=>by
    have:=qbf 2 (p:=l) (q:=[]) (by simp;omega) z
    rw [qj6 (by omega) hc] at this;omega
  obtain ⟨o,h1,h2⟩:=qk6 kind (h hp hq) (fun z hz=>by
    have h1:=qbf kind (p:=p) (q:=q) (by omega) z
    have h2:=hself lp cp z
    have h3:=hself lq cq z
    rcases hz with hz | hz | hz <;> omega)
  simp only [Option.bind_some,h1]
  by_cases h5 : 400 < (mrgB kind p q).length
  · rw [decide_eq_false (by omega),if_pos h5];rfl
  · rw [decide_eq_true (by omega),if_neg h5,h2 (by omega)];rfl
end Go.Sh
namespace Go.Sh
open Go Go.Am
def sumN : Nat→(Int→Int)→Int
  | 0,_=>0
  | n + 1,f=>sumN n f + f n
theorem qm0 {f g : Int→Int} : ∀ {n : Nat},(∀ k : Nat,k < n→f k = g k)→sumN n f = sumN n g
  | 0,_=>rfl
  | n + 1,h=>by rw [sumN,sumN,qm0 (n:=n) fun k hk=>h k (by omega),h n (by omega)]
theorem qlz {f g : Int→Int} : ∀ {n : Nat},sumN n (fun x=>f x + g x) = sumN n f + sumN n g
  | 0=>rfl
  | n + 1=>by rw [sumN,sumN,sumN,qlz (n:=n)];omega
theorem qm4 {f g : Int→Int} : ∀ {n : Nat},sumN n (fun x=>f x - g x) = sumN n f - sumN n g
  | 0=>rfl
  | n + 1=>by rw [sumN,sumN,sumN,qm4 (n:=n)];omega
theorem qm3 {c : Int} {f : Int→Int} : ∀ {n : Nat},sumN n (fun x=>c * f x) = c * sumN n f
  | 0=>by simp [sumN]
  | n + 1=>by rw [sumN,sumN,qm3 (n:=n),Int.mul_add]
theorem qm5 : ∀ {n : Nat},sumN n (fun _=>0) = 0
  | 0=>rfl
  | n + 1=>by rw [sumN,qm5 (n:=n)];rfl
theorem qm2 {f g : Int→Int} : ∀ {n : Nat},(∀ k : Nat,k < n→f k≤g k)→sumN n f≤sumN n g
  | 0,_=>Int.le_refl _
  | n + 1,h=>by have:=qm2 (n:=n) fun k hk=>h k (by omega);have:=h n (by omega);rw [sumN,sumN];omega
noncomputable def ind (p : Prop) : Int:=by classical exact if p then 1 else 0
theorem q4o {p : Prop} (h : p) : ind p = 1:=by unfold ind;simp [h]
theorem J3 {p : Prop} (h : ¬ p) : ind p = 0:=by unfold ind;simp [h]
theorem Ut {p q : Prop} (h : p↔q) : ind p = ind q:=by rw [propext h]
theorem q4m {p q : Prop} : ind (p∧q) = ind p * ind q:=by
  by_cases hp : p <;> by_cases hq : q
  · rw [q4o ⟨hp,hq⟩,q4o hp,q4o hq];rfl
  · rw [J3 (fun h=>hq h.2),J3 hq];simp
  · rw [J3 (fun h=>hp h.1),J3 hp];simp
  · rw [J3 (fun h=>hp h.1),J3 hp];simp
theorem qid {p q : Prop} : ind (p∨q) = ind p + ind q - ind (p∧q):=by
  by_cases hp : p <;> by_cases hq : q <;> simp [ind,hp,hq]
theorem qps {p : Prop} : ind (¬ p) = 1 - ind p:=by by_cases hp : p <;> simp [ind,hp]
theorem q4n {p : Prop} : 0≤ind p∧ind p≤1:=by by_cases hp : p <;> simp [ind,hp]
theorem qm1 (a b : Int) : ∀ {n : Nat},sumN n (fun x=>ind (a≤x∧x < b)) = max 0 (min b n - max a 0)
  | 0=>by rw [sumN];omega
  | n + 1=>by
    rw [sumN,qm1 a b (n:=n)]
    by_cases h : a≤(n : Int)∧(n : Int) < b
    · rw [q4o h];omega
    · rw [J3 h];omega
def sumZ (N : Nat) (f : Int→Int) : Int:=sumN (2 * N) fun k=>f (k - N)
theorem qfb {N : Nat} {f g : Int→Int} (h : ∀ x : Int,-(N : Int)≤x→x < N→f x = g x) : sumZ N f = sumZ N g:=
  qm0 fun k hk=>h _ (by omega) (by omega)
theorem q45 {N : Nat} {f g : Int→Int} : sumZ N (fun x=>f x + g x) = sumZ N f + sumZ N g:=qlz
theorem qz3 {N : Nat} {f g : Int→Int} : sumZ N (fun x=>f x - g x) = sumZ N f - sumZ N g:=qm4
theorem q1a {N : Nat} {c : Int} {f : Int→Int} : sumZ N (fun x=>c * f x) = c * sumZ N f:=qm3
theorem qff {N : Nat} : sumZ N (fun _=>0) = 0:=qm5
theorem qc7 {N : Nat} {f g : Int→Int} (h : ∀ x : Int,-(N : Int)≤x→x < N→f x≤g x) : sumZ N f≤sumZ N g:=
  qm2 fun k hk=>h _ (by omega) (by omega)
theorem qc6 {N : Nat} {a b : Int} (h1 : -N≤a) (h2 : a≤b) (h3 : b≤N) : sumZ N (fun x=>ind (a≤x∧x < b)) = b - a:=by
  unfold sumZ
  have : (fun k : Int=>ind (a≤k - N∧k - N < b)) = fun k=>ind (a + N≤k∧k < b + N):=by
    funext k;exact Ut ⟨fun h=>by omega,fun h=>by omega⟩
  simp only [this]
  rw [qm1];omega
theorem qfd {N : Nat} {f : Int→Int} (h : ∀ x : Int,-(N : Int)≤x→x < N→0≤f x) : 0≤sumZ N f:=by
  rw [← qff (N:=N)];exact qc7 h
theorem qfc {N : Nat} {c : Int} : sumZ N (fun _=>c) = 2 * N * c:=by
  have : ∀ n : Nat,sumN n (fun _=>c) = n * c:=by
    intro n
    induction n with
    | zero=>simp [sumN]
    | succ n ih=>rw [sumN,ih,Int.natCast_succ,Int.add_mul,Int.one_mul]
  unfold sumZ;rw [this];simp
noncomputable def cnt3 (N : Nat) (P : Int→Int→Int→Prop) : Int:=sumZ N fun x=>sumZ N fun y=>sumZ N fun z=>ind (P x y z)
theorem qgg {N : Nat} {P Q : Int→Int→Int→Prop} (h : ∀ x y z : Int,-(N : Int)≤x∧x < N→-(N : Int)≤y∧y < N→-(N : Int)≤z∧z < N→(P x y z↔Q x y z)) : cnt3 N P = cnt3 N Q:=
  qfb fun x h1 h2=>qfb fun y h3 h4=>qfb fun z h5 h6=>Ut (h x y z ⟨h1,h2⟩ ⟨h3,h4⟩ ⟨h5,h6⟩)
def sumL {α : Type} (f : α→Int) : List α→Int
  | []=>0
  | a::r=>f a + sumL f r
theorem q9m {α : Type} (f : α→Int) (a b : List α) : sumL f (a ++ b) = sumL f a + sumL f b:=by
  induction a with
  | nil=>simp [sumL]
  | cons x a ih=>rw [List.cons_append,sumL,sumL,ih];omega
theorem q19 {α : Type} {f g : α→Int} {l : List α} (h : ∀ a∈l,f a = g a) : sumL f l = sumL g l:=by
  induction l with
  | nil=>rfl
  | cons a l ih=>rw [sumL,sumL,h a (by simp),ih fun b hb=>h b (by simp [hb])]
theorem qc4 {α : Type} (c : Int) (f : α→Int) (l : List α) : sumL (fun a=>c * f a) l = c * sumL f l:=by
  induction l with
  | nil=>simp [sumL]
  | cons a l ih=>rw [sumL,sumL,ih,Int.mul_add]
theorem qfa {α : Type} (f g : α→Int) (l : List α) : sumL (fun a=>f a + g a) l = sumL f l + sumL g l:=by
  induction l with
  | nil=>rfl
  | cons a l ih=>rw [sumL,sumL,sumL,ih];omega
theorem qlx {α : Type} (f g : α→Int) (l : List α) : sumL (fun a=>f a - g a) l = sumL f l - sumL g l:=by
  induction l with
  | nil=>rfl
  | cons a l ih=>rw [sumL,sumL,sumL,ih];omega
theorem qly {α : Type} (l : List α) : sumL (fun _ : α=>0) l = 0:=by
  induction l with
  | nil=>rfl
  | cons a l ih=>rw [sumL,ih];rfl
theorem qc5 {α : Type} {N : Nat} (f : α→Int→Int) (l : List α) : sumL (fun a=>sumZ N (f a)) l = sumZ N fun x=>sumL (fun a=>f a x) l:=by
  induction l with
  | nil=>exact qff.symm
  | cons a l ih=>
    have : (fun x=>sumL (fun a=>f a x) (a::l)) = fun x=>f a x + (fun x=>sumL (fun a=>f a x) l) x:=rfl
    rw [sumL,ih,this,q45]
def inB (b : qf) (x y z : Int) : Prop:=(b.Lo.X≤x∧x < b.Hi.X)∧(b.Lo.Y≤y∧y < b.Hi.Y)∧(b.Lo.Z≤z∧z < b.Hi.Z)
def inR (r : qg) (x y : Int) : Prop:=(r.X0≤x∧x < r.X1)∧(r.Y0≤y∧y < r.Y1)
def inS (t : qh) (x : Int) : Prop:=t.Lo≤x∧x < t.Hi
def volB (b : qf) : Int:=(b.Hi.X - b.Lo.X) * (b.Hi.Y - b.Lo.Y) * (b.Hi.Z - b.Lo.Z)
theorem qzj {N : Nat} {b : qf} (h : (b.Lo.X≤b.Hi.X∧b.Lo.Y≤b.Hi.Y∧b.Lo.Z≤b.Hi.Z)∧(-(N : Int)≤b.Lo.X∧-(N : Int)≤b.Lo.Y∧-(N : Int)≤b.Lo.Z)∧b.Hi.X≤N∧b.Hi.Y≤N∧b.Hi.Z≤N) :
    volB b = cnt3 N (inB b):=by
  obtain ⟨⟨h1,h2,h3⟩,⟨h4,h5,h6⟩,h7,h8,h9⟩:=h
  unfold cnt3
  have e : ∀ x y,(sumZ N fun z=>ind (inB b x y z)) = ind (b.Lo.X≤x∧x < b.Hi.X) * (ind (b.Lo.Y≤y∧y < b.Hi.Y) * (b.Hi.Z - b.Lo.Z)):=fun x y=>by
    have : (fun z=>ind (inB b x y z)) = fun z=>ind (b.Lo.X≤x∧x < b.Hi.X) * (ind (b.Lo.Y≤y∧y < b.Hi.Y) * ind (b.Lo.Z≤z∧z < b.Hi.Z)):=by
      funext z;unfold inB;rw [q4m (p:=_∧_) (q:=(_∧_)∧_),q4m (p:=_∧_) (q:=_∧_)]
    rw [this,q1a,q1a,qc6 h6 h3 h9]
  have e2 : ∀ x,(sumZ N fun y=>sumZ N fun z=>ind (inB b x y z)) = ind (b.Lo.X≤x∧x < b.Hi.X) * ((b.Hi.Y - b.Lo.Y) * (b.Hi.Z - b.Lo.Z)):=fun x=>by
    have : (fun y=>sumZ N fun z=>ind (inB b x y z)) = fun y=>ind (b.Lo.X≤x∧x < b.Hi.X) * ((b.Hi.Z - b.Lo.Z) * ind (b.Lo.Y≤y∧y < b.Hi.Y)):=by
      funext y;rw [e,Int.mul_comm (b.Hi.Z - b.Lo.Z)]
    rw [this,q1a,q1a,qc6 h5 h2 h8,Int.mul_comm (b.Hi.Z - b.Lo.Z)]
  have : (fun x=>sumZ N fun y=>sumZ N fun z=>ind (inB b x y z)) = fun x=>((b.Hi.Y - b.Lo.Y) * (b.Hi.Z - b.Lo.Z)) * ind (b.Lo.X≤x∧x < b.Hi.X):=by
    funext x;rw [e2,Int.mul_comm]
  rw [this,q1a,qc6 h4 h1 h7,volB]
  simp only [Int.mul_assoc,Int.mul_comm]
noncomputable def cntS (s : List qh) (y : Int) : Int:=sumL (fun t=>ind (inS t y)) s
noncomputable def cntR (l : List qg) (x y : Int) : Int:=sumL (fun t=>ind (inR t x y)) l
noncomputable def cntB (l : List qf) (x y z : Int) : Int:=sumL (fun t=>ind (inB t x y z)) l
theorem qgh : ∀ {s : List qh},Can s→∀ y,cntS s y = ind (has s y)
  | [],_,y=>by rw [J3 (Us y)];rfl
  | a::s,h,y=>by
    have ih:=qgh h.tail y
    unfold cntS at ih ⊢
    rw [sumL,ih,Ut (Yu (a:=a) (s:=s) (x:=y)),qid]
    have : ¬ ((a.Lo≤y∧y < a.Hi)∧has s y):=fun ⟨h1,h2⟩=>by have:=h.tail_gt h2;omega
    rw [J3 this];unfold inS;omega
theorem qo8 (l : List qg) (x y : Int) : cntR l x y = cntS (covS l x) y:=by
  unfold cntR cntS
  induction l with
  | nil=>rfl
  | cons r l ih=>
    have e : covS (r::l) x = (if covR x r = true then [ysp r] else []) ++ covS l x:=rfl
    rw [sumL,ih,e,q9m]
    congr 1
    by_cases hc : covR x r = true
    · rw [if_pos hc]
      have:=q4f.1 hc
      simp only [sumL,Int.add_zero]
      exact Ut ⟨fun h=>h.2,fun h=>⟨this,h⟩⟩
    · rw [if_neg hc]
      rw [q4f] at hc
      exact J3 fun h=>hc h.1
theorem qo7 (l : List qf) (x y z : Int) : cntB l x y z = cntR (atB l z) x y:=by
  unfold cntB cntR
  induction l with
  | nil=>rfl
  | cons r l ih=>
    have e : atB (r::l) z = (if covB z r = true then [Zo r] else []) ++ atB l z:=rfl
    rw [sumL,ih,e,q9m]
    congr 1
    by_cases hc : covB z r = true
    · rw [if_pos hc]
      have:=q1f.1 hc
      simp only [sumL,Int.add_zero]
      exact Ut ⟨fun h=>⟨h.1,h.2.1⟩,fun h=>⟨h.1,h.2,this⟩⟩
    · rw [if_neg hc]
      rw [q1f] at hc
      exact J3 fun h=>hc h.2.2
theorem CanR.cnt {l : List qg} (h : CanR l) (x y : Int) : cntR l x y = ind (hasR l x y):=by
  rw [qo8,qgh (h.cov x),Ut U6]
theorem CanB.cnt {l : List qf} (h : CanB l) (x y z : Int) : cntB l x y z = ind (hasB l x y z):=by
  rw [qo7,(h.at z).cnt,Ut q2v]
def volL (l : List qf) : Int:=sumL volB l
theorem qmh {N : Nat} {l : List qf} (hc : ∀ x y z,cntB l x y z = ind (hasB l x y z)) (h : ∀ b∈l,(b.Lo.X≤b.Hi.X∧b.Lo.Y≤b.Hi.Y∧b.Lo.Z≤b.Hi.Z)∧(-(N : Int)≤b.Lo.X∧-(N : Int)≤b.Lo.Y∧-(N : Int)≤b.Lo.Z)∧b.Hi.X≤N∧b.Hi.Y≤N∧b.Hi.Z≤N) :
    volL l = cnt3 N (hasB l):=by
  unfold volL
  rw [q19 fun b hb=>qzj (h b hb)]
  unfold cnt3
  rw [qc5]
  congr 1;funext x
  rw [qc5]
  congr 1;funext y
  rw [qc5]
  congr 1;funext z
  exact hc x y z
theorem q9t {l : List qf} (hc : CanB l) (h : ∀ b∈l,vB b) : volL l = cnt3 1000000 (hasB l):=
  qmh hc.cnt fun b hb=>by have:=h b hb;unfold vB at this;omega
theorem qo6 {N : Nat} (P Q : Int→Int→Int→Prop) : cnt3 N (fun x y z=>P x y z∨Q x y z) + cnt3 N (fun x y z=>P x y z∧Q x y z) = cnt3 N P + cnt3 N Q:=by
  unfold cnt3
  rw [← q45,← q45]
  congr 1;funext x
  rw [← q45,← q45]
  congr 1;funext y
  rw [← q45,← q45]
  congr 1;funext z
  show ind (P x y z∨Q x y z) + ind (P x y z∧Q x y z) = ind (P x y z) + ind (Q x y z)
  rw [qid];omega
end Go.Sh
