/- Qa1 Qa2 Qa3 Rs1 Rs2 Rs3 Qb1 Rs4 -/
import Derived.Test.YtjjmcdlnadkjbaaGreatK11
namespace Go.Sh
open Go Go.Am
structure Grp (σ : Type) where
  lo : Int
  hi : Int
  sec : List σ
section
variable {σ β : Type}
def CanG (gs : List (Grp σ)) : Prop:=(∀ g∈gs,g.lo < g.hi∧g.sec≠[])∧gs.Pairwise (fun g h=>g.hi≤h.lo∧(g.hi = h.lo→g.sec≠h.sec))
def secG : List (Grp σ)→Int→List σ
  | [],_=>[]
  | g::r,x=>if g.lo≤x∧x < g.hi then g.sec else secG r x
def Ke (put : Int→Int→σ→β) (gs : List (Grp σ)) : List β:=gs.flatMap fun g=>g.sec.map (put g.lo g.hi)
theorem qoh (put : Int→Int→σ→β) (a b : List (Grp σ)) : Ke put (a ++ b) = Ke put a ++ Ke put b:=by simp [Ke]
theorem q1w {y x : Int} : ∀ {r : List (Grp σ)},(∀ h∈r,y≤h.lo)→x < y→secG r x = []
  | [],_,_=>rfl
  | g::r,h,hx=>by
    have:=h g (by simp)
    rw [secG,if_neg (by omega)]
    exact q1w (fun k hk=>h k (by simp [hk])) hx
theorem q5f {y x : Int} : ∀ {r : List (Grp σ)},(∀ h∈r,h.hi≤y)→y≤x→secG r x = []
  | [],_,_=>rfl
  | g::r,h,hx=>by
    have:=h g (by simp)
    rw [secG,if_neg (by omega)]
    exact q5f (fun k hk=>h k (by simp [hk])) hx
theorem q7z {x : Int} : ∀ {a b : List (Grp σ)},secG a x = []→(∀ g∈a,g.sec≠[])→secG (a ++ b) x = secG b x
  | [],_,_,_=>rfl
  | g::a,b,h,hne=>by
    rw [secG] at h
    split at h
    · exact absurd h (hne g (by simp))
    · rename_i hx
      rw [List.cons_append,secG,if_neg hx]
      exact q7z h fun k hk=>hne k (by simp [hk])
theorem qe5 {y x : Int} {a b : List (Grp σ)} (hb : ∀ h∈b,y≤h.lo) (hx : x < y) : secG (a ++ b) x = secG a x:=by
  induction a with
  | nil=>exact q1w hb hx
  | cons g a ih=>simp only [List.cons_append,secG,ih]
theorem CanG.tail {g : Grp σ} {r : List (Grp σ)} (h : CanG (g::r)) : CanG r:=⟨fun k hk=>h.1 k (by simp [hk]),(List.pairwise_cons.1 h.2).2⟩
theorem CanG.nxt {g : Grp σ} {r : List (Grp σ)} (h : CanG (g::r)) : ∀ k∈r,g.hi≤k.lo∧(g.hi = k.lo→g.sec≠k.sec):=(List.pairwise_cons.1 h.2).1
theorem q1v {g : Grp σ} {r : List (Grp σ)} {x : Int} (h1 : g.lo≤x) (h2 : x < g.hi) : secG (g::r) x = g.sec:=by rw [secG,if_pos ⟨h1,h2⟩]
theorem qug {g : Grp σ} {r : List (Grp σ)} (h : CanG (g::r)) : secG (g::r) g.hi≠g.sec:=by
  rw [secG,if_neg (by omega)]
  cases r with
  | nil=>exact fun e=>(h.1 g (by simp)).2 e.symm
  | cons k r=>
    have hk:=h.nxt k (by simp)
    have hk2:=h.tail.1 k (by simp)
    by_cases he : g.hi = k.lo
    · rw [q1v (by omega) (by omega)];exact fun e=>hk.2 he e.symm
    · rw [secG,if_neg (by omega),q1w (y:=k.hi) (fun m hm=>(h.tail.nxt m hm).1) (by omega)]
      exact fun e=>(h.1 g (by simp)).2 e.symm
theorem qc1 : ∀ {a b : List (Grp σ)},CanG a→CanG b→(∀ x,secG a x = secG b x)→a = b
  | [],[],_,_,_=>rfl
  | [],g::r,_,hb,h=>by
    have:=h g.lo
    rw [q1v (Int.le_refl _) (hb.1 g (by simp)).1] at this
    exact absurd this.symm (hb.1 g (by simp)).2
  | g::r,[],ha,_,h=>by
    have:=h g.lo
    rw [q1v (Int.le_refl _) (ha.1 g (by simp)).1] at this
    exact absurd this (ha.1 g (by simp)).2
  | g::r,k::s,ha,hb,h=>by
    have hg:=ha.1 g (by simp)
    have hk:=hb.1 k (by simp)
    have low : ∀ {g k : Grp σ} {r s : List (Grp σ)},CanG (g::r)→CanG (k::s)→(∀ x,secG (g::r) x = secG (k::s) x)→k.lo≤g.lo:=by
      intro g k r s ha hb h
      refine Int.not_lt.1 fun hlt=>?_
      have h1:=h g.lo
      rw [q1v (Int.le_refl _) (ha.1 g (by simp)).1,q1w (y:=k.lo) (fun m hm=>?_) hlt] at h1
      · exact (ha.1 g (by simp)).2 h1
      · rcases List.mem_cons.1 hm with rfl | hm
        · exact Int.le_refl _
        · have:=(hb.nxt m hm).1;have:=(hb.1 k (by simp)).1;omega
    have e1 : g.lo = k.lo:=Int.le_antisymm (low hb ha fun x=>(h x).symm) (low ha hb h)
    have e2 : g.sec = k.sec:=by
      have h1:=h g.lo
      rwa [q1v (Int.le_refl _) hg.1,q1v (by omega) (by omega)] at h1
    have hi : ∀ {g k : Grp σ} {r s : List (Grp σ)},CanG (g::r)→CanG (k::s)→(∀ x,secG (g::r) x = secG (k::s) x)→g.lo = k.lo→g.sec = k.sec→k.hi≤g.hi:=by
      intro g k r s ha hb h e1 e2
      refine Int.not_lt.1 fun hlt=>?_
      have h1:=h g.hi
      have:=(ha.1 g (by simp)).1
      rw [q1v (g:=k) (by omega) hlt,← e2] at h1
      exact qug ha h1
    have e3 : g.hi = k.hi:=Int.le_antisymm (hi hb ha (fun x=>(h x).symm) e1.symm e2.symm) (hi ha hb h e1 e2)
    have e : g = k:=by cases g;cases k;simp at e1 e2 e3;simp [e1,e2,e3]
    subst e
    have : r = s:=qc1 ha.tail hb.tail fun x=>by
      by_cases hx : x < g.hi
      · rw [q1w (y:=g.hi) (fun m hm=>(ha.nxt m hm).1) hx,q1w (y:=g.hi) (fun m hm=>(hb.nxt m hm).1) hx]
      · have h1:=h x
        rwa [secG,secG,if_neg (by omega),if_neg (by omega)] at h1
    rw [this]
def curG (s : Mg σ β) : List (Grp σ):=if s.sec = [] then [] else [⟨s.lo,s.hi,s.sec⟩]
def secC (sec : Int→List σ) : List Int→Int→List σ
  | a::b::r,x=>if a≤x∧x < b then sec a else secC sec (b::r) x
  | _,_=>[]
theorem qgt (put : Int→Int→σ→β) (s : Mg σ β) (gs : List (Grp σ)) (h : s.done = Ke put gs) : s.flat put = Ke put (gs ++ curG s):=by
  rw [qoh,Mg.flat,h]
  unfold curG
  split
  · rename_i h1;simp [h1,Ke]
  · simp [Ke]
theorem qac {s : Mg σ β} {g : Grp σ} (h : g∈curG s) : s.sec≠[]∧g = ⟨s.lo,s.hi,s.sec⟩:=by
  unfold curG at h;split at h
  · cases h
  · rename_i hn;exact ⟨hn,by simpa using h⟩
theorem qb0 (sec : Int→List σ) {x : Int} : ∀ {cuts : List Int},cuts.Pairwise (· < ·)→
    (∀ a∈cuts,a≤x→(∀ c∈cuts,c≤a∨x < c)→sec a = sec x)→((∀ c∈cuts,x < c)→sec x = [])→((∀ c∈cuts,c≤x)→sec x = [])→secC sec cuts x = sec x
  | [],_,_,h2,_=>(h2 (by simp)).symm
  | [a],_,_,h2,h3=>by
    rw [secC]
    · by_cases hx : x < a
      · exact (h2 (by simpa using hx)).symm
      · exact (h3 (by simpa using hx)).symm
    · intro a b r h;simp at h
  | a::b::r,hp,h1,h2,h3=>by
    have hab : a < b:=(List.pairwise_cons.1 hp).1 b (by simp)
    have hbr:=(List.pairwise_cons.1 (List.pairwise_cons.1 hp).2).1
    rw [secC]
    split
    · rename_i hx
      refine h1 a (by simp) hx.1 fun c hc=>?_
      rcases List.mem_cons.1 hc with rfl | hc
      · exact .inl (Int.le_refl _)
      · rcases List.mem_cons.1 hc with rfl | hc
        · exact .inr hx.2
        · have:=hbr c hc;exact .inr (by omega)
    · rename_i hx
      by_cases hxa : x < a
      · have e : sec x = []:=h2 fun c hc=>by
          rcases List.mem_cons.1 hc with rfl | hc
          · exact hxa
          · have:=(List.pairwise_cons.1 hp).1 c hc;omega
        have:=qb0 sec (x:=x) (List.pairwise_cons.1 hp).2 (fun a' ha' hle _=>by
          exfalso;have:=(List.pairwise_cons.1 hp).1 a' ha';omega) (fun _=>e) (fun _=>e)
        exact this
      · have hbx : b≤x:=by omega
        exact qb0 sec (List.pairwise_cons.1 hp).2 (fun a' ha' hle hall=>h1 a' (by simp [ha']) hle fun c hc=>by
          rcases List.mem_cons.1 hc with rfl | hc
          · have:=(List.pairwise_cons.1 hp).1 a' ha';exact .inl (by omega)
          · exact hall c hc) (fun hall=>by have:=hall b (by simp);omega) (fun hall=>h3 fun c hc=>by
          rcases List.mem_cons.1 hc with rfl | hc
          · omega
          · exact hall c hc)
variable [DecidableEq σ] (put : Int→Int→σ→β)
structure InvG (s : Mg σ β) (gs : List (Grp σ)) (c : Int) : Prop where
  done : s.done = Ke put gs
  can : CanG (gs ++ curG s)
  le : ∀ g∈gs ++ curG s,g.hi≤c
  gap : s.sec = []→∀ g∈gs,g.hi = c→False
theorem qpa {s : Mg σ β} {gs : List (Grp σ)} {a b : Int} {c : List σ} (hab : a < b) (hi : InvG put s gs a) :
    ∃ gs',InvG put (addM put s a b c) gs' b∧∀ x,secG (gs' ++ curG (addM put s a b c)) x = if a≤x∧x < b then c else secG (gs ++ curG s) x:=by
  rcases Ue put s a b c with ⟨h1,h2,h3,h4⟩ | ⟨h1,h4⟩
  · rw [h4]
    have hs : s.sec≠[]:=h2 ▸ h1
    have c1 : curG s = [⟨s.lo,s.hi,s.sec⟩]:=by unfold curG;rw [if_neg hs]
    have c2 : curG (⟨s.done,s.sec,s.lo,b⟩ : Mg σ β) = [⟨s.lo,b,s.sec⟩]:=by unfold curG;rw [if_neg hs]
    have hcan:=hi.can
    rw [c1] at hcan
    have hlo : s.lo < s.hi:=(hcan.1 ⟨s.lo,s.hi,s.sec⟩ (by simp)).1
    refine ⟨gs,⟨hi.done,?_,?_,fun h=>absurd h hs⟩,?_⟩
    · rw [c2]
      refine ⟨fun g hg=>?_,?_⟩
      · rcases List.mem_append.1 hg with hg | hg
        · exact hcan.1 g (by simp [hg])
        · obtain rfl:=List.mem_singleton.1 hg;exact ⟨by simp only;omega,hs⟩
      · have:=List.pairwise_append.1 hcan.2
        refine List.pairwise_append.2 ⟨this.1,by simp,fun g hg k hk=>?_⟩
        obtain rfl:=List.mem_singleton.1 hk
        exact this.2.2 g hg ⟨s.lo,s.hi,s.sec⟩ (by simp)
    · rw [c2]
      intro g hg
      rcases List.mem_append.1 hg with hg | hg
      · have:=hi.le g (by simp [hg]);omega
      · obtain rfl:=List.mem_singleton.1 hg;exact Int.le_refl _
    · intro x
      rw [c1,c2]
      have hg0 : ∀ g∈gs,g.hi≤s.lo:=fun g hg=>((List.pairwise_append.1 hcan.2).2.2 g hg ⟨s.lo,s.hi,s.sec⟩ (by simp)).1
      have hgn : ∀ g∈gs,g.sec≠[]:=fun g hg=>(hcan.1 g (by simp [hg])).2
      by_cases hx : x < s.lo
      · rw [if_neg (by omega),qe5 (y:=s.lo) (by simp) hx,qe5 (y:=s.lo) (by simp) hx]
      · have e : secG gs x = []:=q5f hg0 (by omega)
        rw [q7z e hgn,q7z e hgn]
        simp only [secG]
        by_cases hx2 : x < s.hi
        · rw [if_pos ⟨by omega,by omega⟩,if_neg (by omega),if_pos ⟨by omega,hx2⟩]
        · by_cases hx3 : x < b
          · rw [if_pos ⟨by omega,hx3⟩,if_pos ⟨by omega,hx3⟩,h2]
          · rw [if_neg (by omega),if_neg (by omega),if_neg (by omega)]
  · rw [h4]
    have hd : s.flat put = Ke put (gs ++ curG s):=qgt put s gs hi.done
    refine ⟨gs ++ curG s,⟨hd,?_,?_,?_⟩,?_⟩
    · by_cases hc : c = []
      · have : curG (⟨s.flat put,c,a,b⟩ : Mg σ β) = []:=by unfold curG;rw [if_pos hc]
        rw [this,List.append_nil];exact hi.can
      · have : curG (⟨s.flat put,c,a,b⟩ : Mg σ β) = [⟨a,b,c⟩]:=by unfold curG;rw [if_neg hc]
        rw [this]
        refine ⟨fun g hg=>?_,List.pairwise_append.2 ⟨hi.can.2,by simp,fun g hg k hk=>?_⟩⟩
        · rcases List.mem_append.1 hg with hg | hg
          · exact hi.can.1 g hg
          · obtain rfl:=List.mem_singleton.1 hg;exact ⟨hab,hc⟩
        · obtain rfl:=List.mem_singleton.1 hk
          refine ⟨hi.le g hg,fun he hsec=>?_⟩
          rcases List.mem_append.1 hg with hg' | hg'
          · by_cases hs : s.sec = []
            · exact hi.gap hs g hg' he
            · have h5 : (⟨s.lo,s.hi,s.sec⟩ : Grp σ)∈curG s:=by unfold curG;rw [if_neg hs];simp
              have h6:=((List.pairwise_append.1 hi.can.2).2.2 g hg' _ h5).1
              have h7:=(hi.can.1 _ (List.mem_append.2 (.inr h5))).1
              have h8:=hi.le _ (List.mem_append.2 (.inr h5))
              simp only at he h6 h7 h8
              omega
          · obtain ⟨hs,rfl⟩:=qac hg'
            exact h1 ⟨hc,hsec.symm,he⟩
    · intro g hg
      rcases List.mem_append.1 hg with hg | hg
      · have:=hi.le g hg;omega
      · obtain ⟨_,rfl⟩:=qac hg;exact Int.le_refl _
    · intro hc g hg he
      have:=hi.le g hg;omega
    · intro x
      by_cases hx : a≤x∧x < b
      · rw [if_pos hx,q7z (q5f hi.le hx.1) fun g hg=>(hi.can.1 g hg).2]
        unfold curG
        split
        · rename_i hc;simp only at hc;rw [hc];rfl
        · simp only [secG];rw [if_pos hx]
      · rw [if_neg hx]
        by_cases hxa : x < a
        · exact qe5 (y:=a) (fun g hg=>by obtain ⟨_,rfl⟩:=qac hg;exact Int.le_refl _) hxa
        · have e:=q5f (x:=x) hi.le (by omega)
          rw [q7z e fun g hg=>(hi.can.1 g hg).2,e]
          exact q5f (y:=b) (fun g hg=>by obtain ⟨_,rfl⟩:=qac hg;exact Int.le_refl _) (by omega)
theorem qjp (sec : Int→List σ) : ∀ (cuts : List Int) (c : Int) (s : Mg σ β) (gs : List (Grp σ)),(c::cuts).Pairwise (· < ·)→InvG put s gs c→
    ∃ gs',(runM put sec s (c::cuts)).flat put = Ke put gs'∧CanG gs'∧∀ x,secG gs' x = if x < c then secG (gs ++ curG s) x else secC sec (c::cuts) x
  | [],c,s,gs,_,hi=>by
    refine ⟨gs ++ curG s,qgt put s gs hi.done,hi.can,fun x=>?_⟩
    by_cases hx : x < c
    · rw [if_pos hx]
    · rw [if_neg hx];exact q5f hi.le (by omega)
  | b::cuts,a,s,gs,hp,hi=>by
    have hab : a < b:=(List.pairwise_cons.1 hp).1 b (by simp)
    obtain ⟨gs',hi',hs'⟩:=qpa (b:=b) (c:=sec a) put hab hi
    obtain ⟨gs2,e1,e2,e3⟩:=qjp sec cuts b _ gs' (List.pairwise_cons.1 hp).2 hi'
    refine ⟨gs2,e1,e2,fun x=>?_⟩
    rw [e3 x]
    by_cases hx : x < a
    · rw [if_pos (by omega),if_pos hx,hs',if_neg (by omega)]
    · rw [if_neg hx]
      simp only [secC]
      by_cases hxb : x < b
      · rw [if_pos hxb,hs',if_pos ⟨by omega,hxb⟩,if_pos ⟨by omega,hxb⟩]
      · rw [if_neg hxb,if_neg (by omega)]
theorem qid (sec : Int→List σ) {cuts : List Int} (hc : cuts.Pairwise (· < ·)) :
    ∃ gs,(Qs put Qq (Y6 cuts sec)).flat put = Ke put gs∧CanG gs∧∀ x,secG gs x = secC sec cuts x:=by
  rw [qgw]
  cases cuts with
  | nil=>exact ⟨[],rfl,⟨by simp,by simp⟩,fun x=>rfl⟩
  | cons c cuts=>
    obtain ⟨gs,e1,e2,e3⟩:=qjp put sec cuts c (Qq : Mg σ β) [] hc ⟨rfl,⟨by simp [curG,Qq],by simp [curG,Qq]⟩,by simp [curG,Qq],by simp⟩
    refine ⟨gs,e1,e2,fun x=>?_⟩
    rw [e3 x]
    split
    · rename_i hx
      have : ∀ (cuts : List Int) (c : Int),(c::cuts).Pairwise (· < ·)→x < c→secC sec (c::cuts) x = []:=by
        intro cuts
        induction cuts with
        | nil=>intros;rfl
        | cons b r ih=>
          intro c hp hx
          rw [secC,if_neg (by omega)]
          exact ih b (List.pairwise_cons.1 hp).2 (by have:=(List.pairwise_cons.1 hp).1 b (by simp);omega)
      rw [this cuts c hc hx];rfl
    · rfl
end
end Go.Sh
namespace Go.Sh
open Go Go.Am
section
variable {σ : Type}
theorem qe7 {x : Int} : ∀ (gs : List (Grp σ)),secG gs x = []∨∃ g∈gs,g.lo≤x∧x < g.hi∧secG gs x = g.sec
  | []=>.inl rfl
  | g::r=>by
    by_cases hx : g.lo≤x∧x < g.hi
    · exact .inr ⟨g,by simp,hx.1,hx.2,by rw [secG,if_pos hx]⟩
    · rw [secG,if_neg hx]
      rcases qe7 r with h | ⟨k,hk,h⟩
      · exact .inl h
      · exact .inr ⟨k,by simp [hk],h⟩
theorem qe6 : ∀ {gs : List (Grp σ)},CanG gs→∀ g∈gs,∀ x,g.lo≤x→x < g.hi→secG gs x = g.sec
  | k::r,h,g,hg,x,h1,h2=>by
    rcases List.mem_cons.1 hg with rfl | hg
    · exact q1v h1 h2
    · have:=(h.nxt g hg).1
      rw [secG,if_neg (by omega)]
      exact qe6 h.tail g hg x h1 h2
end
theorem qhu (kind : Int) : q2p kind [] [] = []:=by
  have hj:=(q77 kind [] [] (by simp) (by simp)).2
  refine q6q hj.can ⟨by simp,by simp⟩ fun x=>?_
  rw [hj.pts]
  have:=Us x
  unfold Kl;simp [this]
theorem qnv (a b : List qi) (x : Int) : covS (a ++ b) x = covS a x ++ covS b x:=by simp [covS]
theorem qnx (s : List qk) (lo hi x : Int) : covS (s.map (putR lo hi)) x = if lo≤x∧x < hi then s else []:=by
  induction s with
  | nil=>simp [covS]
  | cons t s ih=>
    have e : covS (List.map (putR lo hi) (t::s)) x = (if covR x (putR lo hi t) = true then [t] else []) ++ covS (s.map (putR lo hi)) x:=rfl
    rw [e,ih]
    have : covR x (putR lo hi t) = (decide (lo≤x) && decide (x < hi)):=rfl
    rw [this]
    by_cases h1 : lo≤x <;> by_cases h2 : x < hi <;> simp [h1,h2]
theorem q6u : ∀ {gs : List (Grp qk)},CanG gs→∀ x,covS (Ke putR gs) x = secG gs x
  | [],_,x=>rfl
  | g::r,h,x=>by
    have e : Ke putR (g::r) = g.sec.map (putR g.lo g.hi) ++ Ke putR r:=rfl
    rw [e,qnv,qnx,q6u h.tail x]
    by_cases hx : g.lo≤x∧x < g.hi
    · rw [if_pos hx,secG,if_pos hx,q1w (y:=g.hi) (fun m hm=>(h.nxt m hm).1) hx.2,List.append_nil]
    · rw [if_neg hx,secG,if_neg hx,List.nil_append]
theorem qg7 {l : List qi} {a x : Int} (h : ∀ r∈l,covR a r = covR x r) : covS l a = covS l x:=by
  induction l with
  | nil=>rfl
  | cons r l ih=>
    have e : ∀ y,covS (r::l) y = (if covR y r = true then [ysp r] else []) ++ covS l y:=fun _=>rfl
    rw [e,e,h r (by simp),ih fun k hk=>h k (by simp [hk])]
theorem q9w {l : List qi} {x : Int} (h : ∀ r∈l,covR x r = false) : covS l x = []:=by
  induction l with
  | nil=>rfl
  | cons r l ih=>
    have e : covS (r::l) x = (if covR x r = true then [ysp r] else []) ++ covS l x:=rfl
    rw [e,h r (by simp),ih fun k hk=>h k (by simp [hk])];rfl
theorem q4b {x : Int} {r : qi} : covR x r = true↔r.X0≤x∧x < r.X1:=by simp [covR]
theorem qib {p q : List qi} {r : qi} (h : r∈p∨r∈q) : r.X0∈xsOf p ++ xsOf q∧r.X1∈xsOf p ++ xsOf q:=by
  unfold xsOf
  simp only [List.mem_append,List.mem_flatMap]
  rcases h with h | h
  · exact ⟨.inl ⟨r,h,by simp⟩,.inl ⟨r,h,by simp⟩⟩
  · exact ⟨.inr ⟨r,h,by simp⟩,.inr ⟨r,h,by simp⟩⟩
theorem qih (kind : Int) {p q : List qi} (h : p.length + q.length≤100000) :
    ∃ gs,mrgR kind p q = Ke putR gs∧CanG gs∧∀ x,secG gs x = secJ kind p q x:=by
  have l1:=q15 p
  have l2:=q15 q
  have hs:=(Jo (l:=xsOf p ++ xsOf q) (by simp;omega)).2.1
  obtain ⟨gs,e1,e2,e3⟩:=qid putR (secJ kind p q) hs.1
  refine ⟨gs,e1,e2,fun x=>?_⟩
  rw [e3]
  have hm : ∀ r,(r∈p∨r∈q)→r.X0∈Qi (xsOf p ++ xsOf q)∧r.X1∈Qi (xsOf p ++ xsOf q):=fun r hr=>
    ⟨(hs.2 _).2 (qib hr).1,(hs.2 _).2 (qib hr).2⟩
  refine qb0 _ hs.1 (fun a _ hax hall=>?_) (fun hall=>?_) (fun hall=>?_)
  · have hc : ∀ r,(r∈p∨r∈q)→covR a r = covR x r:=fun r hr=>by
      have h1:=hall _ (hm r hr).1
      have h2:=hall _ (hm r hr).2
      rw [Bool.eq_iff_iff,q4b,q4b];omega
    unfold secJ
    rw [qg7 fun r hr=>hc r (.inl hr),qg7 fun r hr=>hc r (.inr hr)]
  · have hc : ∀ r,(r∈p∨r∈q)→covR x r = false:=fun r hr=>by
      have h1:=hall _ (hm r hr).1
      rw [← Bool.not_eq_true,q4b];omega
    unfold secJ
    rw [q9w fun r hr=>hc r (.inl hr),q9w fun r hr=>hc r (.inr hr),qhu]
  · have hc : ∀ r,(r∈p∨r∈q)→covR x r = false:=fun r hr=>by
      have h1:=hall _ (hm r hr).2
      rw [← Bool.not_eq_true,q4b];omega
    unfold secJ
    rw [q9w fun r hr=>hc r (.inl hr),q9w fun r hr=>hc r (.inr hr),qhu]
def CanR (l : List qi) : Prop:=∃ gs : List (Grp qk),l = Ke putR gs∧CanG gs∧∀ g∈gs,Can g.sec
theorem qml : Can []:=⟨by simp,by simp⟩
theorem CanR.nil : CanR []:=⟨[],rfl,⟨by simp,by simp⟩,by simp⟩
theorem CanR.cov {l : List qi} (h : CanR l) (x : Int) : Can (covS l x):=by
  obtain ⟨gs,rfl,h1,h2⟩:=h
  rw [q6u h1]
  rcases qe7 (x:=x) gs with e | ⟨g,hg,_,_,e⟩
  · rw [e];exact qml
  · rw [e];exact h2 g hg
theorem qfm {a b : List qi} (ha : CanR a) (hb : CanR b) (h : ∀ x y,hasR a x y↔hasR b x y) : a = b:=by
  have hc : ∀ x,covS a x = covS b x:=fun x=>q6q (ha.cov x) (hb.cov x) fun y=>by rw [U0,U0];exact h x y
  obtain ⟨ga,rfl,h1,_⟩:=ha
  obtain ⟨gb,rfl,h2,_⟩:=hb
  rw [qc1 h1 h2 fun x=>by rw [← q6u h1,← q6u h2];exact hc x]
theorem qjx (kind : Int) {p q : List qi} (h : p.length + q.length≤100000) (x : Int) : qbp kind (covS p x) (covS q x) (secJ kind p q x):=by
  have h1:=q18 p x
  have h2:=q18 q x
  exact (q77 kind (covS p x) (covS q x) (by omega) (by omega)).2
theorem qig (kind : Int) {p q : List qi} (h : p.length + q.length≤100000) : CanR (mrgR kind p q):=by
  obtain ⟨gs,e1,e2,e3⟩:=qih kind h
  refine ⟨gs,e1,e2,fun g hg=>?_⟩
  have:=e3 g.lo
  rw [qe6 e2 g hg _ (Int.le_refl _) (e2.1 g hg).1] at this
  rw [this];exact (qjx kind h _).can
theorem qnw (kind : Int) {p q : List qi} (h : p.length + q.length≤100000) (x : Int) : covS (mrgR kind p q) x = secJ kind p q x:=by
  obtain ⟨gs,e1,e2,e3⟩:=qih kind h
  rw [e1,q6u e2,e3]
theorem qcr (kind : Int) {p q : List qi} (h : p.length + q.length≤100000) (x y : Int) : hasR (mrgR kind p q) x y↔Kl kind (hasR p x y) (hasR q x y):=by
  rw [← U0,qnw kind h,(qjx kind h x).pts,U0,U0]
theorem qhk (x y : Int) : ¬ hasR [] x y:=by rintro ⟨r,h,_⟩;cases h
theorem qhn {a b : Prop} : Kl 2 a b↔a∨b:=by unfold Kl;simp
theorem qi9 {σ β : Type} {put : Int→Int→σ→β} {gs : List (Grp σ)} {r : β} : r∈Ke put gs↔∃ g∈gs,∃ t∈g.sec,r = put g.lo g.hi t:=by
  unfold Ke
  simp only [List.mem_flatMap,List.mem_map]
  exact ⟨fun ⟨g,hg,t,ht,e⟩=>⟨g,hg,t,ht,e.symm⟩,fun ⟨g,hg,t,ht,e⟩=>⟨g,hg,t,ht,e.symm⟩⟩
theorem CanR.lt {l : List qi} (h : CanR l) : ∀ r∈l,r.X0 < r.X1∧r.Y0 < r.Y1:=by
  obtain ⟨gs,rfl,h1,h2⟩:=h
  intro r hr
  obtain ⟨g,hg,t,ht,rfl⟩:=qi9.1 hr
  exact ⟨(h1.1 g hg).1,(h2 g hg).1 t ht⟩
def InR (l : List qi) : Prop:=∀ x y,hasR l x y→(-1000000≤x∧x < 1000000)∧(-1000000≤y∧y < 1000000)
theorem CanR.vR {l : List qi} (h : CanR l) (hi : InR l) : ∀ r∈l,vR r:=by
  intro r hr
  have h1:=h.lt r hr
  have h2:=hi r.X0 r.Y0 ⟨r,hr,by omega⟩
  have h3:=hi (r.X1 - 1) (r.Y1 - 1) ⟨r,hr,by omega⟩
  unfold Go.Sh.vR;omega
theorem InR.mrg {kind : Int} {p q : List qi} (h : p.length + q.length≤100000) (hp : InR p) (hq : InR q) : InR (mrgR kind p q):=fun x y hh=>by
  rcases qcu ((qcr kind h x y).1 hh) with h1 | h1
  · exact hp x y h1
  · exact hq x y h1
theorem InR.nil : InR []:=fun x y h=>absurd h (qhk x y)
end Go.Sh
namespace Go.Sh
open Go Go.Am
def hasB (l : List qg) (x y z : Int) : Prop:=∃ b∈l,(b.Lo.X≤x∧x < b.Hi.X)∧(b.Lo.Y≤y∧y < b.Hi.Y)∧(b.Lo.Z≤z∧z < b.Hi.Z)
theorem q17 {z : Int} {b : qg} : covB z b = true↔b.Lo.Z≤z∧z < b.Hi.Z:=by simp [covB]
theorem qd7 {l : List qg} {z : Int} {r : qi} : r∈atB l z↔∃ b∈l,(b.Lo.Z≤z∧z < b.Hi.Z)∧r = Zh b:=by
  unfold atB
  rw [List.mem_flatMap]
  constructor
  · rintro ⟨b,hb,h⟩
    split at h
    · rename_i hc;exact ⟨b,hb,q17.1 hc,by simpa using h⟩
    · cases h
  · rintro ⟨b,hb,hc,rfl⟩
    exact ⟨b,hb,by rw [if_pos (q17.2 hc)];simp⟩
theorem q2n {l : List qg} {x y z : Int} : hasR (atB l z) x y↔hasB l x y z:=by
  constructor
  · rintro ⟨r,hr,h1,h2,h3,h4⟩
    obtain ⟨b,hb,hz,rfl⟩:=qd7.1 hr
    exact ⟨b,hb,⟨h1,h2⟩,⟨h3,h4⟩,hz⟩
  · rintro ⟨b,hb,⟨h1,h2⟩,⟨h3,h4⟩,hz⟩
    exact ⟨Zh b,qd7.2 ⟨b,hb,hz,rfl⟩,h1,h2,h3,h4⟩
theorem q75 (x y z : Int) : ¬ hasB [] x y z:=by rintro ⟨r,h,_⟩;cases h
theorem qm7 (a b : List qg) (z : Int) : atB (a ++ b) z = atB a z ++ atB b z:=by simp [atB]
theorem qm8 (s : List qi) (lo hi z : Int) : atB (s.map (putB lo hi)) z = if lo≤z∧z < hi then s else []:=by
  induction s with
  | nil=>simp [atB]
  | cons t s ih=>
    have e : atB (List.map (putB lo hi) (t::s)) z = (if covB z (putB lo hi t) = true then [t] else []) ++ atB (s.map (putB lo hi)) z:=rfl
    rw [e,ih]
    have : covB z (putB lo hi t) = (decide (lo≤z) && decide (z < hi)):=rfl
    rw [this]
    by_cases h1 : lo≤z <;> by_cases h2 : z < hi <;> simp [h1,h2]
theorem q6o : ∀ {gs : List (Grp qi)},CanG gs→∀ z,atB (Ke putB gs) z = secG gs z
  | [],_,z=>rfl
  | g::r,h,z=>by
    have e : Ke putB (g::r) = g.sec.map (putB g.lo g.hi) ++ Ke putB r:=rfl
    rw [e,qm7,qm8,q6o h.tail z]
    by_cases hx : g.lo≤z∧z < g.hi
    · rw [if_pos hx,secG,if_pos hx,q1w (y:=g.hi) (fun m hm=>(h.nxt m hm).1) hx.2,List.append_nil]
    · rw [if_neg hx,secG,if_neg hx,List.nil_append]
theorem qff {l : List qg} {a x : Int} (h : ∀ r∈l,covB a r = covB x r) : atB l a = atB l x:=by
  induction l with
  | nil=>rfl
  | cons r l ih=>
    have e : ∀ y,atB (r::l) y = (if covB y r = true then [Zh r] else []) ++ atB l y:=fun _=>rfl
    rw [e,e,h r (by simp),ih fun k hk=>h k (by simp [hk])]
theorem q9r {l : List qg} {x : Int} (h : ∀ r∈l,covB x r = false) : atB l x = []:=by
  induction l with
  | nil=>rfl
  | cons r l ih=>
    have e : atB (r::l) x = (if covB x r = true then [Zh r] else []) ++ atB l x:=rfl
    rw [e,h r (by simp),ih fun k hk=>h k (by simp [hk])];rfl
theorem qic {p q : List qg} {r : qg} (h : r∈p∨r∈q) : r.Lo.Z∈zsOf p ++ zsOf q∧r.Hi.Z∈zsOf p ++ zsOf q:=by
  unfold zsOf
  simp only [List.mem_append,List.mem_flatMap]
  rcases h with h | h
  · exact ⟨.inl ⟨r,h,by simp⟩,.inl ⟨r,h,by simp⟩⟩
  · exact ⟨.inr ⟨r,h,by simp⟩,.inr ⟨r,h,by simp⟩⟩
theorem qdb (kind : Int) : mrgR kind [] [] = []:=by
  refine qfm (qig kind (by simp)) .nil fun x y=>?_
  rw [qcr kind (by simp)]
  have:=qhk x y
  unfold Kl;simp [this]
theorem qif (kind : Int) {p q : List qg} (h : p.length + q.length≤100000) :
    ∃ gs,mrgB kind p q = Ke putB gs∧CanG gs∧∀ z,secG gs z = secB kind p q z:=by
  have l1:=Zm p
  have l2:=Zm q
  have hs:=(Jo (l:=zsOf p ++ zsOf q) (by simp;omega)).2.1
  obtain ⟨gs,e1,e2,e3⟩:=qid putB (secB kind p q) hs.1
  refine ⟨gs,e1,e2,fun x=>?_⟩
  rw [e3]
  have hm : ∀ r,(r∈p∨r∈q)→r.Lo.Z∈Qi (zsOf p ++ zsOf q)∧r.Hi.Z∈Qi (zsOf p ++ zsOf q):=fun r hr=>
    ⟨(hs.2 _).2 (qic hr).1,(hs.2 _).2 (qic hr).2⟩
  refine qb0 _ hs.1 (fun a _ hax hall=>?_) (fun hall=>?_) (fun hall=>?_)
  · have hc : ∀ r,(r∈p∨r∈q)→covB a r = covB x r:=fun r hr=>by
      have h1:=hall _ (hm r hr).1
      have h2:=hall _ (hm r hr).2
      rw [Bool.eq_iff_iff,q17,q17];omega
    unfold secB
    rw [qff fun r hr=>hc r (.inl hr),qff fun r hr=>hc r (.inr hr)]
  · have hc : ∀ r,(r∈p∨r∈q)→covB x r = false:=fun r hr=>by
      have h1:=hall _ (hm r hr).1
      rw [← Bool.not_eq_true,q17];omega
    unfold secB
    rw [q9r fun r hr=>hc r (.inl hr),q9r fun r hr=>hc r (.inr hr),qdb]
  · have hc : ∀ r,(r∈p∨r∈q)→covB x r = false:=fun r hr=>by
      have h1:=hall _ (hm r hr).2
      rw [← Bool.not_eq_true,q17];omega
    unfold secB
    rw [q9r fun r hr=>hc r (.inl hr),q9r fun r hr=>hc r (.inr hr),qdb]
def CanB (l : List qg) : Prop:=∃ gs : List (Grp qi),l = Ke putB gs∧CanG gs∧∀ g∈gs,CanR g.sec
theorem CanB.nil : CanB []:=⟨[],rfl,⟨by simp,by simp⟩,by simp⟩
theorem CanB.at {l : List qg} (h : CanB l) (z : Int) : CanR (atB l z):=by
  obtain ⟨gs,rfl,h1,h2⟩:=h
  rw [q6o h1]
  rcases qe7 (x:=z) gs with e | ⟨g,hg,_,_,e⟩
  · rw [e];exact .nil
  · rw [e];exact h2 g hg
theorem qc0 {a b : List qg} (ha : CanB a) (hb : CanB b) (h : ∀ x y z,hasB a x y z↔hasB b x y z) : a = b:=by
  have hc : ∀ z,atB a z = atB b z:=fun z=>qfm (ha.at z) (hb.at z) fun x y=>by rw [q2n,q2n];exact h x y z
  obtain ⟨ga,rfl,h1,_⟩:=ha
  obtain ⟨gb,rfl,h2,_⟩:=hb
  rw [qc1 h1 h2 fun x=>by rw [← q6o h1,← q6o h2];exact hc x]
theorem qfi {p q : List qg} (h : p.length + q.length≤100000) (z : Int) : (atB p z).length + (atB q z).length≤100000:=by
  have:=Jm p z;have:=Jm q z;omega
theorem qae (kind : Int) {p q : List qg} (h : p.length + q.length≤100000) : CanB (mrgB kind p q):=by
  obtain ⟨gs,e1,e2,e3⟩:=qif kind h
  refine ⟨gs,e1,e2,fun g hg=>?_⟩
  have:=e3 g.lo
  rw [qe6 e2 g hg _ (Int.le_refl _) (e2.1 g hg).1] at this
  rw [this];exact qig kind (qfi h _)
theorem qfg (kind : Int) {p q : List qg} (h : p.length + q.length≤100000) (z : Int) : atB (mrgB kind p q) z = secB kind p q z:=by
  obtain ⟨gs,e1,e2,e3⟩:=qif kind h
  rw [e1,q6o e2,e3]
theorem qcq (kind : Int) {p q : List qg} (h : p.length + q.length≤100000) (x y z : Int) : hasB (mrgB kind p q) x y z↔Kl kind (hasB p x y z) (hasB q x y z):=by
  rw [← q2n,qfg kind h,secB,qcr kind (qfi h z),q2n,q2n]
theorem qhi {l : List qg} (h : l.length≤100000) (x y z : Int) : hasB (mrgB 2 l []) x y z↔hasB l x y z:=by
  rw [qcq 2 (by simpa using h),qhn];simp [q75]
theorem qq3 {l : List qg} (hl : l.length≤100000) (h : CanB l) : mrgB 2 l [] = l:=
  qc0 (qae 2 (by simpa using hl)) h fun x y z=>qhi hl x y z
theorem CanB.lt {l : List qg} (h : CanB l) : ∀ b∈l,b.Lo.X < b.Hi.X∧b.Lo.Y < b.Hi.Y∧b.Lo.Z < b.Hi.Z:=by
  obtain ⟨gs,rfl,h1,h2⟩:=h
  intro r hr
  obtain ⟨g,hg,t,ht,rfl⟩:=qi9.1 hr
  have:=(h2 g hg).lt t ht
  exact ⟨this.1,this.2,(h1.1 g hg).1⟩
def vB (b : qg) : Prop:=(b.Lo.X < b.Hi.X∧b.Lo.Y < b.Hi.Y∧b.Lo.Z < b.Hi.Z)∧(-1000000≤b.Lo.X∧-1000000≤b.Lo.Y∧-1000000≤b.Lo.Z)∧b.Hi.X≤1000000∧b.Hi.Y≤1000000∧b.Hi.Z≤1000000
instance (b : qg) : Decidable (vB b):=by unfold vB;infer_instance
def InB (l : List qg) : Prop:=∀ x y z,hasB l x y z→(-1000000≤x∧x < 1000000)∧(-1000000≤y∧y < 1000000)∧(-1000000≤z∧z < 1000000)
theorem qle {l : List qg} (h : ∀ r∈l,vB r) : InB l:=by
  rintro x y z ⟨r,hr,h1⟩
  have:=h r hr
  unfold vB at this;omega
theorem CanB.vB {l : List qg} (h : CanB l) (hi : InB l) : ∀ r∈l,vB r:=by
  intro r hr
  have h1:=h.lt r hr
  have h2:=hi r.Lo.X r.Lo.Y r.Lo.Z ⟨r,hr,by omega⟩
  have h3:=hi (r.Hi.X - 1) (r.Hi.Y - 1) (r.Hi.Z - 1) ⟨r,hr,by omega⟩
  unfold Go.Sh.vB;omega
theorem InB.mrg {kind : Int} {p q : List qg} (h : p.length + q.length≤100000) (hp : InB p) (hq : InB q) : InB (mrgB kind p q):=fun x y z hh=>by
  rcases qcu ((qcq kind h x y z).1 hh) with h1 | h1
  · exact hp x y z h1
  · exact hq x y z h1
theorem InB.nil : InB []:=fun x y z h=>absurd h (q75 x y z)
theorem qyz {l : List qg} (h : ∀ b∈l,vB b) (z : Int) : ∀ r∈atB l z,vR r:=by
  intro r hr
  obtain ⟨b,hb,_,rfl⟩:=qd7.1 hr
  have:=h b hb
  unfold vB at this;unfold vR Zh;simp only;omega
theorem InB.at {l : List qg} (h : InB l) (z : Int) : InR (atB l z):=fun x y hh=>by
  have:=h x y z (q2n.1 hh);exact ⟨this.1,this.2.1⟩
noncomputable def Qy (l : List qg) : Int:=if 400 < l.length then 4 else if ∀ b∈l,vB b then (if mrgB 2 l [] = l then 0 else 8) else 8
theorem Zt {l : List qg} : Qy l = 0↔l.length≤400∧(∀ b∈l,vB b)∧CanB l:=by
  unfold Qy
  constructor
  · intro h
    split at h
    · exact absurd h (by decide)
    · rename_i h1
      split at h
      · rename_i h2
        split at h
        · rename_i h3
          exact ⟨by omega,h2,h3 ▸ qae 2 (by simp;omega)⟩
        · exact absurd h (by decide)
      · exact absurd h (by decide)
  · rintro ⟨h1,h2,h3⟩
    rw [if_neg (by omega),if_pos h2,if_pos (qq3 (by omega) h3)]
theorem qjw (kind : Int) {p q : List qg} (h : p.length + q.length≤100000) (z : Int) : (secB kind p q z).length≤(mrgB kind p q).length:=by
  rw [← qfg kind h];exact Jm _ _
noncomputable def mkB (l : List qg) : List qg × Int:=if 400 < l.length then ([],4) else if ∀ b∈l,vB b then (if 400 < (mrgB 2 l []).length then ([],4) else (mrgB 2 l [],0)) else ([],8)
noncomputable def mkR (l : List qi) : List qi × Int:=if 400 < l.length then ([],4) else if ∀ b∈l,vR b then (if 400 < (mrgR 2 l []).length then ([],4) else (mrgR 2 l [],0)) else ([],8)
end Go.Sh
namespace Go.Sh
open Go Go.Am
theorem qd1 {α β : Type} {f : α→Option (α ⊕ β)} (st : Nat→α) (n : Nat) (ok : Nat→Prop) (b e : β)
    (step : ∀ k,k < n→(∀ j,j≤k→ok j)→f (st k) = some (.inl (st (k + 1))))
    (bad : ∀ k,k < n→(∀ j,j < k→ok j)→¬ ok k→f (st k) = some (.inr e))
    (done : (∀ j,j < n→ok j)→f (st n) = some (.inr b)) :
    ((∀ j,j < n→ok j)∧loop f (st 0) = some b)∨(∃ j,j < n∧¬ ok j∧loop f (st 0) = some e):=by
  by_cases h : ∀ j,j < n→ok j
  · exact .inl ⟨h,Z4 st n b (fun k hk=>step k hk fun j hj=>h j (by omega)) (done h) (Nat.zero_le _)⟩
  · refine .inr ?_
    have h2 : ∃ k,(k < n∧¬ ok k)∧∀ j,j < k→ok j:=by
      have : ∃ k,k < n∧¬ ok k:=by
        refine Classical.byContradiction fun hn=>h fun k hk=>?_
        exact Classical.byContradiction fun h=>hn ⟨k,hk,h⟩
      obtain ⟨k,hk⟩:=this
      induction k using Nat.strongRecOn with
      | _ k ih=>
        by_cases hj : ∃ j,j < k∧(j < n∧¬ ok j)
        · obtain ⟨j,h1,h2⟩:=hj;exact ih j h1 h2
        · exact ⟨k,hk,fun j h1=>Classical.byContradiction fun h=>hj ⟨j,h1,by omega,h⟩⟩
    obtain ⟨K,⟨hK,hb⟩,hmin⟩:=h2
    exact ⟨K,hK,hb,Z4 st K e (fun k hk=>step k (by omega) fun j hj=>hmin j (by omega)) (bad K hK hmin hb) (Nat.zero_le _)⟩
theorem qxt (xs : List Int) (h : xs.length≤1000000) :
    ((U9 xs).bind fun e127=>(Qm e127.length xs.length).bind fun u129=>(q1y e127).bind fun e132=>(Qm e132.2.length e127.length).bind fun u134=>(q27 e132.2.length e132.1).bind fun u137=>some ((e132.2.drop e132.1.1).take e132.1.2)) = some (Qi xs):=by
  obtain ⟨ys,s1,s2,s3⟩:=qko xs h
  have hys : ys.length = xs.length:=s2.length_eq
  obtain ⟨w,a,c1,c2,c3,c4⟩:=qg4 s3 (by omega)
  obtain ⟨_,d2,_⟩:=Jo h
  have huniq : a.take w = Qi xs:=by
    refine qkp (l:=xs) ⟨c4.1,fun x=>?_⟩ d2
    rw [c4.2 x];exact s2.mem_iff
  simp only [Option.bind_some,s1,Qm,hys,if_true,c1,c2,q27]
  rw [if_pos (by omega)]
  simp only [Option.bind_some,List.drop_zero,huniq]
theorem qsu (l : List qi) (hl : l.length≤1000000) : q83 l (fun x0=>q1r x0) = some (decide (¬ ∀ r∈l,vR r)):=by
  have hs : ∀ (k : Nat) (h : k < l.length),q3c l (fun x0=>q1r x0) (k : Int) = some (if (fun r=>!decide (vR r)) l[k] = true then .inr (.inr (k : Int)) else .inl ((k + 1 : Nat) : Int)):=by
    intro k h
    simp only [q3c,dlt h,cond_true,Ql h,Option.bind_some,w64s h hl,q1r,qz0]
    by_cases hv : vR l[k] <;> simp [hv]
  have hd : q3c l (fun x0=>q1r x0) (l.length : Int) = some (.inr (.inl ())):=by simp only [q3c,dnl,cond_false]
  unfold q83 qb5
  rcases q2g l (fun r=>!decide (vR r)) (fun k _=>(k : Int)) () _ hs hd with ⟨h1,h2⟩ | ⟨k,hk,hc,_,h2⟩
  · rw [h2]
    have : ∀ r∈l,vR r:=fun r hr=>by simpa using h1 r hr
    simp []
    omega
  · rw [h2]
    have : ¬ ∀ r∈l,vR r:=fun h=>by simp [h _ (List.getElem_mem hk)] at hc
    simp only [Option.bind_some]
    rw [decide_eq_true this,decide_eq_true (by omega)]
theorem qsr (l : List qi) : q59 l = some (mkR l):=by
  unfold q59 mkR
  by_cases h4 : 400 < l.length
  · rw [decide_eq_true (by omega : (l.length : Int) > 400),cond_true,if_pos h4]
  rw [decide_eq_false (by omega : ¬ (l.length : Int) > 400),cond_false,if_neg h4,qsu l (by omega),Option.bind_some]
  by_cases hv : ∀ r∈l,vR r
  · rw [decide_eq_false (fun h=>h hv),cond_false,qpw l (by omega) hv,if_pos hv];rfl
  · rw [decide_eq_true hv,cond_true,if_neg hv]
end Go.Sh
namespace Go.Sh
open Go Go.Am
theorem qxs (v : qj) : q6h v = some (decide ((-1000000≤v.X∧-1000000≤v.Y∧-1000000≤v.Z)∧v.X≤1000000∧v.Y≤1000000∧v.Z≤1000000)):=by
  unfold q6h
  by_cases h1 : min (min v.X v.Y) v.Z ≥ -1000000
  · by_cases h2 : max (max v.X v.Y) v.Z≤1000000
    · rw [decide_eq_true h1,decide_eq_true h2,cond_true,Option.bind_some];congr 1;exact (decide_eq_true (by omega)).symm
    · rw [decide_eq_true h1,decide_eq_false h2,cond_true,Option.bind_some];congr 1;exact (decide_eq_false (by omega)).symm
  · rw [decide_eq_false h1,cond_false,Option.bind_some];congr 1;exact (decide_eq_false (by omega)).symm
theorem qkk (b : qg) : q6j b = some (decide (vB b)):=by
  unfold q6j vB
  simp only [qxs,Option.bind_some]
  by_cases h1 : b.Lo.X < b.Hi.X
  · by_cases h2 : b.Lo.Y < b.Hi.Y
    · by_cases h3 : b.Lo.Z < b.Hi.Z
      · simp only [h1,h2,h3,decide_true,cond_true,Option.bind_some,true_and]
        by_cases h4 : (-1000000≤b.Lo.X∧-1000000≤b.Lo.Y∧-1000000≤b.Lo.Z)∧b.Lo.X≤1000000∧b.Lo.Y≤1000000∧b.Lo.Z≤1000000
        · rw [decide_eq_true h4]
          simp only [cond_true,Option.bind_some]
          congr 1
          exact decide_eq_decide.2 (by omega)
        · rw [decide_eq_false h4]
          simp only [cond_false,Option.bind_some]
          congr 1
          exact (decide_eq_false (by omega)).symm
      · simp [h1,h2,h3]
    · simp [h1,h2]
  · simp [h1]
theorem qje (v : qj) (n : Int) : Jj v n = some (decide ((n≤v.X∧n≤v.Y∧n≤v.Z)∧v.X≤1000000∧v.Y≤1000000∧v.Z≤1000000)):=by
  unfold Jj
  by_cases h1 : v.X ≥ n <;> by_cases h2 : v.Y ≥ n <;> by_cases h3 : v.Z ≥ n <;> by_cases h4 : v.X≤1000000 <;> by_cases h5 : v.Y≤1000000 <;> by_cases h6 : v.Z≤1000000 <;>
    simp [h1,h2,h3,h4,h5,h6] <;> omega
theorem qsm (b : qg) : q7u b = some (decide (vB b)):=by
  unfold q7u vB
  simp only [qje,Option.bind_some]
  by_cases h4 : (-1000000≤b.Lo.X∧-1000000≤b.Lo.Y∧-1000000≤b.Lo.Z)∧b.Lo.X≤1000000∧b.Lo.Y≤1000000∧b.Lo.Z≤1000000
  · rw [decide_eq_true h4]
    simp only [cond_true,Option.bind_some]
    by_cases h5 : (-1000000≤b.Hi.X∧-1000000≤b.Hi.Y∧-1000000≤b.Hi.Z)∧b.Hi.X≤1000000∧b.Hi.Y≤1000000∧b.Hi.Z≤1000000
    · rw [decide_eq_true h5]
      by_cases h1 : b.Lo.X < b.Hi.X <;> by_cases h2 : b.Lo.Y < b.Hi.Y <;> by_cases h3 : b.Lo.Z < b.Hi.Z <;> simp [h1,h2,h3] <;> omega
    · rw [decide_eq_false h5]
      simp only [cond_false,Option.bind_some]
      congr 1
      exact (decide_eq_false (by omega)).symm
  · rw [decide_eq_false h4]
    simp only [cond_false,Option.bind_some]
    congr 1
    exact (decide_eq_false (by omega)).symm
theorem qxr (l : List qg) (hl : l.length≤1000000) : q82 l (fun x0=>q24 x0) = some (decide (¬ ∀ r∈l,vB r)):=by
  have hs : ∀ (k : Nat) (h : k < l.length),q3b l (fun x0=>q24 x0) (k : Int) = some (if (fun r=>!decide (vB r)) l[k] = true then .inr (.inr (k : Int)) else .inl ((k + 1 : Nat) : Int)):=by
    intro k h
    simp only [q3b,dlt h,cond_true,Ql h,Option.bind_some,w64s h hl,q24,qkk]
    by_cases hv : vB l[k] <;> simp [hv]
  have hd : q3b l (fun x0=>q24 x0) (l.length : Int) = some (.inr (.inl ())):=by simp only [q3b,dnl,cond_false]
  unfold q82 qb4
  rcases q2g l (fun r=>!decide (vB r)) (fun k _=>(k : Int)) () _ hs hd with ⟨h1,h2⟩ | ⟨k,hk,hc,_,h2⟩
  · rw [h2]
    have : ∀ r∈l,vB r:=fun r hr=>by simpa using h1 r hr
    simp []
    omega
  · rw [h2]
    have : ¬ ∀ r∈l,vB r:=fun h=>by simp [h _ (List.getElem_mem hk)] at hc
    simp only [Option.bind_some]
    rw [decide_eq_true this,decide_eq_true (by omega)]
theorem qxq (l : List qg) (hl : l.length≤1000000) : q3a l (fun x0=>q22 x0) = some (decide (¬ ∀ r∈l,vB r)):=by
  have hs : ∀ (k : Nat) (h : k < l.length),U8 l (fun x0=>q22 x0) (k : Int) = some (if (fun r=>!decide (vB r)) l[k] = true then .inr (.inr (k : Int)) else .inl ((k + 1 : Nat) : Int)):=by
    intro k h
    simp only [U8,dlt h,cond_true,Ql h,Option.bind_some,w64s h hl,q22,qkk]
    by_cases hv : vB l[k] <;> simp [hv]
  have hd : U8 l (fun x0=>q22 x0) (l.length : Int) = some (.inr (.inl ())):=by simp only [U8,dnl,cond_false]
  unfold q3a q87
  rcases q2g l (fun r=>!decide (vB r)) (fun k _=>(k : Int)) () _ hs hd with ⟨h1,h2⟩ | ⟨k,hk,hc,_,h2⟩
  · rw [h2]
    have : ∀ r∈l,vB r:=fun r hr=>by simpa using h1 r hr
    simp []
    omega
  · rw [h2]
    have : ¬ ∀ r∈l,vB r:=fun h=>by simp [h _ (List.getElem_mem hk)] at hc
    simp only [Option.bind_some]
    rw [decide_eq_true this,decide_eq_true (by omega)]
theorem qxm (s : Mg qi qg) (a b : Int) (c : List qi) (hl : (s.flat putB).length + c.length≤1000000) :
    q90 (s.flat putB) s.sec (s.done.length : Int) s.hi a b c = some ((addM putB s a b c).sec,((addM putB s a b c).done.length : Int),(addM putB s a b c).hi,(addM putB s a b c).flat putB):=by
  have hfl : (s.flat putB).length = s.done.length + s.sec.length:=by simp [Mg.flat]
  have hsec : s.sec.length≤1000000:=by omega
  unfold q90
  rcases Ue putB s a b c with ⟨h1,h2,h3,h4⟩ | ⟨h1,h4⟩
  · have hb : decide ((c.length : Int) > 0) = true:=decide_eq_true (by have:=List.length_pos_iff.2 h1;omega)
    have he : (s.hi == a) = true:=by simpa using h3
    rw [h2] at hb
    rw [h4,h2]
    simp only [hb,cond_true,he,Option.bind_some,qgh _ _ hsec,decide_true]
    have:=qa0 (fun v : qg=>({Lo:=v.Lo,Hi:=({X:=v.Hi.X,Y:=v.Hi.Y,Z:=b} : qj)} : qg)) s.done (s.sec.map (putB s.lo s.hi)) (by simp;omega) (q6f b) (fun k o hk ho=>by
      have h5 : (s.done ++ s.sec.map (putB s.lo s.hi)).length = (s.flat putB).length:=rfl
      simp only [q6f,dlt hk,cond_true,Ql hk,Option.bind_some,w64s hk (by omega),Int.toNat_natCast]) (fun o=>by simp only [q6f,dnl,cond_false])
    rw [show s.flat putB = s.done ++ s.sec.map (putB s.lo s.hi) from rfl,this]
    simp only [Option.bind_some,Mg.flat,List.map_map]
    rfl
  · rw [h4]
    have hc : ((cond (decide ((c.length : Int) > 0)) (some (s.hi == a)) (some false)).bind fun c101=>(cond c101 ((q85 s.sec c).bind fun r121=>some r121) (some false))) = some false:=by
      by_cases h5 : c = []
      · subst h5;simp
      · have hb : decide ((c.length : Int) > 0) = true:=decide_eq_true (by have:=List.length_pos_iff.2 h5;omega)
        simp only [hb,cond_true,Option.bind_some,qgh _ _ hsec]
        by_cases h6 : s.hi = a
        · have h7 : s.sec≠c:=fun h=>h1 ⟨h5,h.symm,h6⟩
          simp [h6,h7]
        · have : (s.hi == a) = false:=by simpa using h6
          simp [this]
    have hap:=q7a c (putB a b) (s.flat putB) (fun o=>(c,((s.flat putB).length : Int),b,o)) (q6g c a b (s.flat putB)) (fun k hk o ho=>by
      simp only [q6g,dlt hk,cond_true,Ql hk,Option.bind_some,w64s hk (by omega)]
      rw [Kq (by simp;omega)]
      rfl) (fun o=>by simp only [q6g,dnl,cond_false])
    rw [← Option.bind_assoc,hc]
    simp only [Option.bind_some,cond_false,hap]
    simp [Mg.flat]
theorem qzl (l : List qg) (o : List Int) (hl : l.length≤400) (ho : o.length≤10000) : loop (q3s l) (0,o) = some (o ++ zsOf l):=
  J4 l (by omega) (fun r=>[r.Lo.Z,r.Hi.Z]) o (fun o=>o) (q3s l) (fun k hk o' ho'=>by
    have h8 : o'.length = o.length + 2 * k:=by
      rw [ho',List.length_append];have:=Zm (l.take k);rw [List.length_take,Nat.min_eq_left (by omega)] at this
      unfold zsOf at this;omega
    simp only [q3s,dlt hk,cond_true,Ql hk,Option.bind_some,w64s hk (by omega)]
    rw [Kq (by simp;omega)]
    rfl) (fun o=>by simp only [q3s,dnl,cond_false])
theorem qfh (l : List qg) (hl : l.length≤400) (x : Int) : loop (q3u l x) (0,[]) = some (atB l x):=by
  have:=J4 l (by omega) (fun r=>if covB x r = true then [Zh r] else []) [] (fun o=>o) (q3u l x) (fun k hk o ho=>by
    have h8 : o.length≤k:=by rw [ho,List.nil_append];have:=Jm (l.take k) x;rw [List.length_take,Nat.min_eq_left (by omega)] at this;exact this
    simp only [q3u,dlt hk,cond_true,Ql hk,Option.bind_some,w64s hk (by omega)]
    by_cases h1 : l[k].Lo.Z≤x
    · by_cases h2 : x < l[k].Hi.Z
      · simp only [h1,h2,decide_true,cond_true,Option.bind_some,covB,Bool.and_self,if_true]
        rw [Kq (by simp;omega)]
        rfl
      · simp only [h1,h2,decide_true,decide_false,cond_true,cond_false,Option.bind_some,covB,Bool.and_false,if_false,Bool.false_eq_true,List.append_nil]
    · simp only [h1,decide_false,cond_false,Option.bind_some,covB,Bool.false_and,if_false,Bool.false_eq_true,List.append_nil]) (fun o=>by simp only [q3u,dnl,cond_false])
  rw [List.nil_append] at this
  exact this
theorem quj {kind : Int} {p q : List qg} {xs : List Int} (hxs : Qi (zsOf p ++ zsOf q) = xs) (h : p.length + q.length≤800) (F : Int × List qi × Int × Int × List qg→Option ((Int × List qi × Int × Int × List qg) ⊕ ((List qi × Int × Int × List qg) ⊕ (List qg × Int))))
    (hgo : ∀ (a b : Int) (k : Nat) (s : Mg qi qg),(s.flat putB).length + 400≤1000000→(h1 : k + 1 < xs.length)→a = xs[k]'(by omega)→b = xs[k + 1]'h1→(secB kind p q a).length≤400→
      F (((k + 1 : Nat) : Int),s.sec,(s.done.length : Int),s.hi,s.flat putB) = some (.inl (((k + 1 + 1 : Nat) : Int),(addM putB s a b (secB kind p q a)).sec,((addM putB s a b (secB kind p q a)).done.length : Int),(addM putB s a b (secB kind p q a)).hi,(addM putB s a b (secB kind p q a)).flat putB)))
    (hbad : ∀ (a : Int) (k : Nat) (s : Mg qi qg),(h1 : k + 1 < xs.length)→a = xs[k]'(by omega)→400 < (secB kind p q a).length→
      F (((k + 1 : Nat) : Int),s.sec,(s.done.length : Int),s.hi,s.flat putB) = some (.inr (.inr ([],4))))
    (hend : ∀ (k : Nat) (s : Mg qi qg),xs.length≤k + 1→F (((k + 1 : Nat) : Int),s.sec,(s.done.length : Int),s.hi,s.flat putB) = some (.inr (.inl (s.sec,(s.done.length : Int),s.hi,s.flat putB)))) :
    (∃ a b c,loop F (1,[],0,0,[]) = some (.inl (a,b,c,mrgB kind p q)))∨(400 < (mrgB kind p q).length∧loop F (1,[],0,0,[]) = some (.inr ([],4))):=by
  have hx1:=Zm p
  have hx2:=Zm q
  obtain ⟨_,hso,hlen⟩:=Jo (l:=zsOf p ++ zsOf q) (by simp;omega)
  have hlen : (Qi (zsOf p ++ zsOf q)).length≤1600:=by simp at hlen;omega
  have hle : ∀ x,(secB kind p q x).length≤(mrgB kind p q).length:=fun x=>qjw kind (by omega) x
  have hmr : mrgB kind p q = (Qs putB Qq (Y6 (Qi (zsOf p ++ zsOf q)) (secB kind p q))).flat putB:=rfl
  rw [hmr] at hle ⊢
  rw [hxs] at hso hlen hle ⊢
  generalize hst : Y6 xs (secB kind p q) = steps at hle ⊢
  have hsl : steps.length = xs.length - 1:=by rw [← hst];exact q99 _ _
  have hgk : ∀ k (hk : k < steps.length),steps[k] = (xs[k]'(by omega),xs[k + 1]'(by omega),secB kind p q (xs[k]'(by omega))):=fun k hk=>by subst hst;exact q98 hk (by omega)
  have hml : ∀ k,k≤steps.length→(∀ j,j < k→∀ t,steps[j]? = some t→t.2.2.length≤400)→((Qs putB Qq (steps.take k)).flat putB).length≤1600 * 400:=fun k hk hj=>by
    have h1:=qcg putB (s0:=Qq) (M:=400) (steps:=steps.take k) (fun t ht=>by
      obtain ⟨i,hi,rfl⟩:=List.getElem_of_mem ht
      rw [List.length_take] at hi
      rw [List.getElem_take]
      exact hj i (by omega) _ (List.getElem?_eq_getElem (by omega)))
    have h2 : (steps.take k).length≤1600:=by rw [List.length_take];omega
    have h3 : (Qq.flat putB : List qg).length = 0:=rfl
    have h4 : (steps.take k).length * 400≤1600 * 400:=Nat.mul_le_mul_right _ h2
    omega
  have main:=qd1 (f:=F) (fun k=>(((k + 1 : Nat) : Int),(Qs putB Qq (steps.take k)).sec,((Qs putB Qq (steps.take k)).done.length : Int),(Qs putB Qq (steps.take k)).hi,(Qs putB Qq (steps.take k)).flat putB))
    steps.length (fun j=>∀ t,steps[j]? = some t→t.2.2.length≤400) (.inl ((Qs putB Qq steps).sec,((Qs putB Qq steps).done.length : Int),(Qs putB Qq steps).hi,(Qs putB Qq steps).flat putB)) (.inr ([],4))
    (fun k hk hj=>by
      have hk1 : k + 1 < xs.length:=by omega
      have hc:=hj k (Nat.le_refl _) _ (List.getElem?_eq_getElem hk)
      have hm:=hml k (by omega) fun j hjk=>hj j (by omega)
      rw [q4e putB hk,hgk k hk] at *
      simp only at hc
      exact hgo _ _ k (Qs putB Qq (steps.take k)) (by omega) hk1 rfl rfl hc)
    (fun k hk hj hb=>by
      have hk1 : k + 1 < xs.length:=by omega
      have hk0 : k < xs.length:=by omega
      refine hbad _ k (Qs putB Qq (steps.take k)) hk1 rfl ?_
      refine Nat.lt_of_not_le fun h=>hb fun t ht=>?_
      rw [List.getElem?_eq_getElem hk,hgk k hk] at ht
      cases ht;exact h)
    (fun _=>by
      rw [List.take_length]
      exact hend steps.length _ (by omega))
  have h00 : ((((0 + 1 : Nat) : Int),(Qs putB Qq (steps.take 0)).sec,((Qs putB Qq (steps.take 0)).done.length : Int),(Qs putB Qq (steps.take 0)).hi,(Qs putB Qq (steps.take 0)).flat putB) : Int × List qi × Int × Int × List qg) = (1,[],0,0,[]):=rfl
  rw [h00] at main
  rcases main with ⟨_,h2⟩ | ⟨j,hj,hb,h2⟩
  · exact .inl ⟨_,_,_,h2⟩
  · refine .inr ⟨?_,h2⟩
    have hj0 : j < xs.length:=by omega
    have h5 : 400 < (secB kind p q xs[j]).length:=by
      refine Nat.lt_of_not_le fun h=>hb fun t ht=>?_
      rw [List.getElem?_eq_getElem hj,hgk j hj] at ht
      cases ht;exact h
    exact Nat.lt_of_lt_of_le h5 (hle xs[j])
theorem qjo (l : List qg) (hl : l.length≤400) (hv : ∀ b∈l,vB b) : q6k l = some (if 400 < (mrgB 2 l []).length then ([],4) else (mrgB 2 l [],0)):=by
  unfold q6k
  have hx1:=Zm l
  simp only [show idx [l] 0 = some l from rfl,Option.bind_some,qzl l [] hl (by simp),List.nil_append]
  rw [qxt _ (by omega)]
  simp only [Option.bind_some]
  have hz : zsOf l = zsOf l ++ zsOf []:=by simp [zsOf]
  obtain ⟨_,hso,hlen⟩:=Jo (l:=zsOf l ++ zsOf []) (by rw [← hz];omega)
  have hlen : (Qi (zsOf l ++ zsOf [])).length≤800:=by rw [← hz] at hlen ⊢;omega
  have hmk : ∀ z,q59 (atB l z) = some (if 400 < (secB 2 l [] z).length then ([],4) else (secB 2 l [] z,0)):=fun z=>by
    have:=Jm l z
    rw [qsr,mkR,if_neg (by omega),if_pos (qyz hv z)];rfl
  rw [hz]
  have:=quj (kind:=2) (p:=l) (q:=[]) rfl (by simp;omega) (q3t (Qi (zsOf l ++ zsOf [])) l)
    (fun a b k s hs h1 ha hb hc=>by
      have h0 : k < (Qi (zsOf l ++ zsOf [])).length:=by omega
      have i1 : idx (Qi (zsOf l ++ zsOf [])) (w64 (((k + 1 : Nat) : Int) - 1)) = some a:=by rw [qu (by omega),ha];exact Ut (by omega) (by omega)
      have i2 : idx (Qi (zsOf l ++ zsOf [])) ((k + 1 : Nat) : Int) = some b:=by rw [hb];exact Ql h1
      have hm:=hmk a
      rw [if_neg (by omega)] at hm
      simp only [q3t,dlt h1,cond_true,i1,i2,Option.bind_some,show idx [l] 0 = some l from rfl,qfh l hl,hm,show ((0 : Int) != 0) = false from rfl,cond_false,qxm s a b (secB 2 l [] a) (by omega)]
      rw [w64s h1 (by omega)])
    (fun a k s h1 ha hc=>by
      have i1 : idx (Qi (zsOf l ++ zsOf [])) (w64 (((k + 1 : Nat) : Int) - 1)) = some a:=by rw [qu (by omega),ha];exact Ut (by omega) (by omega)
      have hm:=hmk a
      rw [if_pos hc] at hm
      simp only [q3t,dlt h1,cond_true,i1,Ql h1,Option.bind_some,show idx [l] 0 = some l from rfl,qfh l hl,hm,show ((4 : Int) != 0) = true from rfl])
    (fun k s h1=>by
      have : decide (((k + 1 : Nat) : Int) < ((Qi (zsOf l ++ zsOf [])).length : Int)) = false:=decide_eq_false (by omega)
      simp only [q3t,this,cond_false])
  rcases this with ⟨a,b,c,h2⟩ | ⟨h4,h2⟩
  · rw [h2]
    simp only [Option.bind_some]
    by_cases h4 : 400 < (mrgB 2 l []).length
    · rw [decide_eq_true (by omega : ((mrgB 2 l []).length : Int) > 400),if_pos h4];rfl
    · rw [decide_eq_false (by omega : ¬ ((mrgB 2 l []).length : Int) > 400),if_neg h4];rfl
  · rw [h2,if_pos h4];rfl
theorem qke (l : List qg) : q6d l = some (mkB l):=by
  unfold q6d mkB
  by_cases h4 : 400 < l.length
  · rw [decide_eq_true (by omega : (l.length : Int) > 400),cond_true,if_pos h4]
  rw [decide_eq_false (by omega : ¬ (l.length : Int) > 400),cond_false,if_neg h4,qxr l (by omega),Option.bind_some]
  by_cases hv : ∀ r∈l,vB r
  · rw [decide_eq_false (fun h=>h hv),cond_false,qjo l (by omega) hv,if_pos hv];rfl
  · rw [decide_eq_true hv,cond_true,if_neg hv]
theorem qo5 (p q : List qg) (hl : p.length≤1000000) : qb2 p q = some (decide (p = q)):=sameBox p q hl
theorem qee (l : List qg) : q3l l = some (Qy l):=by
  unfold q3l Qy
  by_cases h4 : 400 < l.length
  · rw [decide_eq_true (by omega : (l.length : Int) > 400),cond_true,if_pos h4]
  rw [decide_eq_false (by omega : ¬ (l.length : Int) > 400),cond_false,if_neg h4,qxq l (by omega),Option.bind_some]
  by_cases hv : ∀ r∈l,vB r
  · rw [decide_eq_false (fun h=>h hv),cond_false,qjo l (by omega) hv,if_pos hv,Option.bind_some]
    by_cases hm : 400 < (mrgB 2 l []).length
    · have hne : mrgB 2 l []≠l:=fun h=>by rw [h] at hm;exact h4 hm
      rw [if_pos hm,if_neg hne];rfl
    · rw [if_neg hm]
      simp only [qo5 (mrgB 2 l []) l (by omega)]
      by_cases he : mrgB 2 l [] = l <;> simp [he]
  · rw [decide_eq_true hv,cond_true,if_neg hv]
end Go.Sh
namespace Go.Sh
open Go Go.Am
def q43 (kind : Int) (p q : List qg) (z : Int) : Prop:=400 < (secB kind p q z).length∨400 < (secB 2 p [] z).length∨400 < (secB 2 q [] z).length
theorem qpe (kind : Int) {p q : List qg} (h : p.length + q.length≤400) {xs : List Int} (hx : xs.length≤1000000) {i : Nat} (hi : i + 1 < xs.length) (hb : q43 kind p q (xs[i]'(by omega))) (a : Int) (c : List qi) (o : List qg) :
    Uw xs p q kind (c,a,(i : Int),o) = some (.inr (.inr ([],false))):=by
  have hi0 : i < xs.length:=by omega
  have hw : w64 ((i : Int) + 1) = ((i + 1 : Nat) : Int):=w64s hi0 hx
  have n1:=Jm p xs[i]
  have n2:=Jm q xs[i]
  have ap : J0 p xs[i] = some (atB p xs[i]):=qau p (by omega) _
  have aq : J0 q xs[i] = some (atB q xs[i]):=qau q (by omega) _
  have jj : Zg kind (atB p xs[i]) (atB q xs[i]) = some (secB kind p q xs[i]):=q52 kind (by omega)
  have jp : Zg 2 (atB p xs[i]) [] = some (secB 2 p [] xs[i]):=q52 2 (by simp;omega)
  have jq : Zg 2 (atB q xs[i]) [] = some (secB 2 q [] xs[i]):=q52 2 (by simp;omega)
  unfold Uw
  simp only [hw,dlt hi,cond_true,Ql hi0,ap,aq,jj,jp,jq,Option.bind_some]
  by_cases h1 : 400 < (secB kind p q xs[i]).length
  · have d1 : decide (((secB kind p q xs[i]).length : Int) > 400) = true:=decide_eq_true (by omega)
    simp only [d1,cond_true,Option.bind_some]
  have d1 : decide (((secB kind p q xs[i]).length : Int) > 400) = false:=decide_eq_false (by omega)
  by_cases h2 : 400 < (secB 2 p [] xs[i]).length
  · have d2 : decide (((secB 2 p [] xs[i]).length : Int) > 400) = true:=decide_eq_true (by omega)
    simp only [d1,d2,cond_true,cond_false,Option.bind_some]
  have d2 : decide (((secB 2 p [] xs[i]).length : Int) > 400) = false:=decide_eq_false (by omega)
  have h3 : 400 < (secB 2 q [] xs[i]).length:=by rcases hb with h | h | h <;> first | exact absurd h h1 | exact absurd h h2 | exact h
  have d3 : decide (((secB 2 q [] xs[i]).length : Int) > 400) = true:=decide_eq_true (by omega)
  simp only [d1,d2,d3,cond_true,cond_false,Option.bind_some]
theorem qsj (kind : Int) {p q : List qg} (h : p.length + q.length≤400) :
    q35 kind p q = some (mrgB kind p q,decide (((mrgB kind p q).length : Int)≤400))∨(q35 kind p q = some ([],false)∧∃ z,q43 kind p q z):=by
  unfold q35
  rw [qse (by omega)]
  simp only [Option.bind_some]
  have hx1:=Zm p
  have hx2:=Zm q
  obtain ⟨_,hso,hlen⟩:=Jo (l:=zsOf p ++ zsOf q) (by simp;omega)
  have hcl : (Qi (zsOf p ++ zsOf q)).length≤800:=by simp at hlen;omega
  unfold mrgB
  generalize Qi (zsOf p ++ zsOf q) = xs at hcl ⊢
  generalize hst : Y6 xs (secB kind p q) = steps
  have hsl : steps.length = xs.length - 1:=by rw [← hst];exact q99 _ _
  have hgk : ∀ k (hk : k < steps.length),steps[k] = (xs[k]'(by omega),xs[k + 1]'(by omega),secB kind p q (xs[k]'(by omega))):=fun k hk=>by subst hst;exact q98 hk (by omega)
  have hml : ∀ k,k≤steps.length→(∀ j,j < k→∀ t,steps[j]? = some t→¬ q43 kind p q t.1)→((Qs putB Qq (steps.take k)).flat putB).length≤800 * 400:=fun k hk hj=>by
    have h1:=qcg putB (s0:=Qq) (M:=400) (steps:=steps.take k) (fun t ht=>by
      obtain ⟨i,hi,rfl⟩:=List.getElem_of_mem ht
      rw [List.length_take] at hi
      rw [List.getElem_take]
      have:=hj i (by omega) _ (List.getElem?_eq_getElem (by omega))
      rw [hgk i (by omega)] at this ⊢
      exact Nat.le_of_not_lt fun h=>this (.inl h))
    have h2 : (steps.take k).length≤800:=by rw [List.length_take];omega
    have h3 : (Qq.flat putB : List qg).length = 0:=rfl
    have h4 : (steps.take k).length * 400≤800 * 400:=Nat.mul_le_mul_right _ h2
    omega
  have main:=qd1 (f:=Uw xs p q kind) (fun k=>((Qs putB Qq (steps.take k)).sec,((Qs putB Qq (steps.take k)).done.length : Int),(k : Int),(Qs putB Qq (steps.take k)).flat putB))
    steps.length (fun j=>∀ t,steps[j]? = some t→¬ q43 kind p q t.1) (.inl ((Qs putB Qq steps).flat putB)) (.inr ([],false)) (fun k hk hj=>by
      have hk1 : k + 1 < xs.length:=by omega
      have hc:=hj k (Nat.le_refl _) _ (List.getElem?_eq_getElem hk)
      have hm:=hml k (by omega) fun j hjk=>hj j (by omega)
      rw [hgk k hk] at hc
      have hsec : qf3 kind p q xs[k]:=by
        have n1:=Jm p xs[k]
        have n2:=Jm q xs[k]
        refine ⟨by omega,?_,?_,?_⟩
        · exact Nat.le_of_not_lt fun h=>hc (.inl h)
        · exact Nat.le_of_not_lt fun h=>hc (.inr (.inl h))
        · exact Nat.le_of_not_lt fun h=>hc (.inr (.inr h))
      have:=qpf kind (by omega) (xs:=xs) (by omega) hk1 hsec (Qs putB Qq (steps.take k)) (by omega) (fun h0=>by subst h0;rfl) (fun hpos=>by
        obtain ⟨m,rfl⟩ : ∃ m,k = m + 1:=⟨k - 1,by omega⟩
        rw [q4e putB (by omega),qf4,hgk m (by omega)])
      rw [this,q4e putB hk,hgk k hk])
    (fun k hk _ hb=>by
      have hk1 : k + 1 < xs.length:=by omega
      have hk0 : k < xs.length:=by omega
      refine qpe kind h (by omega) hk1 ?_ _ _ _
      refine Classical.byContradiction fun hn=>hb fun t ht=>?_
      rw [List.getElem?_eq_getElem hk,hgk k hk] at ht
      cases ht;exact hn)
    (fun _=>by
      rw [List.take_length]
      have hb : decide (w64 ((steps.length : Int) + 1) < (xs.length : Int)) = false:=by
        rw [qu (by omega)];exact decide_eq_false (by omega)
      unfold Uw
      simp only [hb,cond_false])
  have h00 : (((Qs putB Qq (steps.take 0)).sec,((Qs putB Qq (steps.take 0)).done.length : Int),((0 : Nat) : Int),(Qs putB Qq (steps.take 0)).flat putB) : List qi × Int × Int × List qg) = ([],0,0,[]):=rfl
  rw [h00] at main
  rcases main with ⟨h1,h2⟩ | ⟨j,hj,hb,h2⟩
  · exact .inl (by rw [h2];rfl)
  · refine .inr ⟨by rw [h2];rfl,?_⟩
    have hj0 : j < xs.length:=by omega
    refine ⟨xs[j],?_⟩
    refine Classical.byContradiction fun hn=>hb fun t ht=>?_
    rw [List.getElem?_eq_getElem hj,hgk j hj] at ht
    cases ht;exact hn
theorem quf (kind : Int) (z : Int) : secB kind [] [] z = []:=qdb kind
theorem qsh (kind : Int) {p q : List qg} (h : p.length + q.length≤400) (hs : ∀ z,q43 kind p q z→400 < (mrgB kind p q).length) :
    ∃ o,q35 kind p q = some (o,decide ((mrgB kind p q).length≤400))∧((mrgB kind p q).length≤400→o = mrgB kind p q):=by
  rcases qsj kind h with h1 | ⟨h1,z,hz⟩
  · refine ⟨_,?_,fun _=>rfl⟩
    rw [h1]
    have : decide (((mrgB kind p q).length : Int)≤400) = decide ((mrgB kind p q).length≤400):=decide_eq_decide.2 (by omega)
    rw [this]
  · have:=hs z hz
    refine ⟨[],?_,fun h=>absurd h (by omega)⟩
    rw [h1,decide_eq_false (by omega)]
theorem qui {l : List qg} (h : l.length≤100000) : ∀ z,q43 2 l [] z→400 < (mrgB 2 l []).length:=by
  intro z hz
  have h1:=qjw 2 (p:=l) (q:=[]) (by simpa using h) z
  rcases hz with hz | hz | hz
  · omega
  · omega
  · rw [quf] at hz;simp at hz
theorem qso (l : List qg) (hl : l.length≤1000000) {γ : Type} (f : Int→Option (Int ⊕ (Unit ⊕ γ))) (e : γ) (hf : ∀ k (h : k < l.length),f (k : Int) = some (if (fun r=>!decide (vB r)) l[k] = true then .inr (.inr e) else .inl ((k + 1 : Nat) : Int))) (hd : f (l.length : Int) = some (.inr (.inl ()))) :
    loop f 0 = some (if ∀ b∈l,vB b then .inl () else .inr e):=by
  rcases q2g l (fun r=>!decide (vB r)) (fun k _=>e) () f hf hd with ⟨h1,h2⟩ | ⟨k,hk,hc,_,h2⟩
  · have : ∀ r∈l,vB r:=fun r hr=>by simpa using h1 r hr
    rw [if_pos this];exact h2
  · have : ¬ ∀ r∈l,vB r:=fun h=>by simp [h _ (List.getElem_mem hk)] at hc
    rw [if_neg this];exact h2
theorem qsd (l : List qg) : q32 l = some (Qy l):=by
  unfold q32 Qy
  by_cases h4 : 400 < l.length
  · rw [decide_eq_true (by omega : (l.length : Int) > 400),cond_true,if_pos h4]
  rw [decide_eq_false (by omega : ¬ (l.length : Int) > 400),cond_false,if_neg h4]
  rw [qso l (by omega) (q56 l) 8 (fun k hk=>by
    simp only [q56,dlt hk,cond_true,Ql hk,Option.bind_some,qsm,w64s hk (by omega)]
    by_cases hv : vB l[k] <;> simp [hv]) (by simp only [q56,dnl,cond_false])]
  by_cases hv : ∀ r∈l,vB r
  · rw [if_pos hv,if_pos hv]
    obtain ⟨o,h1,h2⟩:=qsh 2 (p:=l) (q:=[]) (by simp;omega) (qui (by omega))
    simp only [Option.bind_some,h1]
    by_cases h5 : 400 < (mrgB 2 l []).length
    · have hne : mrgB 2 l []≠l:=fun h=>by rw [h] at h5;exact h4 h5
      rw [decide_eq_false (by omega),if_neg hne];rfl
    · rw [decide_eq_true (by omega),h2 (by omega),sameBox _ l (by omega)]
      by_cases he : mrgB 2 l [] = l <;> simp [he]
  · rw [if_neg hv,if_neg hv];rfl
theorem qsb (p q : List qg) : q7r p q = some (if Qy p≠0 then Qy p else Qy q):=by
  unfold q7r
  simp only [qsd,Option.bind_some]
  by_cases h : Qy p = 0
  · simp [h]
  · have : (Qy p != 0) = true:=by simpa using h
    simp [h,this]
end Go.Sh
namespace Go.Sh
open Go Go.Am
def sumN : Nat→(Int→Int)→Int
  | 0,_=>0
  | n + 1,f=>sumN n f + f n
theorem ql0 {f g : Int→Int} : ∀ {n : Nat},(∀ k : Nat,k < n→f k = g k)→sumN n f = sumN n g
  | 0,_=>rfl
  | n + 1,h=>by rw [sumN,sumN,ql0 (n:=n) fun k hk=>h k (by omega),h n (by omega)]
theorem qkz {f g : Int→Int} : ∀ {n : Nat},sumN n (fun x=>f x + g x) = sumN n f + sumN n g
  | 0=>rfl
  | n + 1=>by rw [sumN,sumN,sumN,qkz (n:=n)];omega
theorem ql4 {f g : Int→Int} : ∀ {n : Nat},sumN n (fun x=>f x - g x) = sumN n f - sumN n g
  | 0=>rfl
  | n + 1=>by rw [sumN,sumN,sumN,ql4 (n:=n)];omega
theorem ql3 {c : Int} {f : Int→Int} : ∀ {n : Nat},sumN n (fun x=>c * f x) = c * sumN n f
  | 0=>by simp [sumN]
  | n + 1=>by rw [sumN,sumN,ql3 (n:=n),Int.mul_add]
theorem ql5 : ∀ {n : Nat},sumN n (fun _=>0) = 0
  | 0=>rfl
  | n + 1=>by rw [sumN,ql5 (n:=n)];rfl
theorem ql2 {f g : Int→Int} : ∀ {n : Nat},(∀ k : Nat,k < n→f k≤g k)→sumN n f≤sumN n g
  | 0,_=>Int.le_refl _
  | n + 1,h=>by have:=ql2 (n:=n) fun k hk=>h k (by omega);have:=h n (by omega);rw [sumN,sumN];omega
noncomputable def ind (p : Prop) : Int:=by classical exact if p then 1 else 0
theorem q4m {p : Prop} (h : p) : ind p = 1:=by unfold ind;simp [h]
theorem Zw {p : Prop} (h : ¬ p) : ind p = 0:=by unfold ind;simp [h]
theorem Jd {p q : Prop} (h : p↔q) : ind p = ind q:=by rw [propext h]
theorem q4k {p q : Prop} : ind (p∧q) = ind p * ind q:=by
  by_cases hp : p <;> by_cases hq : q
  · rw [q4m ⟨hp,hq⟩,q4m hp,q4m hq];rfl
  · rw [Zw (fun h=>hq h.2),Zw hq];simp
  · rw [Zw (fun h=>hp h.1),Zw hp];simp
  · rw [Zw (fun h=>hp h.1),Zw hp];simp
theorem qp5 {p q : Prop} : ind (p∨q) = ind p + ind q - ind (p∧q):=by
  by_cases hp : p <;> by_cases hq : q <;> simp [ind,hp,hq]
theorem qp4 {p : Prop} : ind (¬ p) = 1 - ind p:=by by_cases hp : p <;> simp [ind,hp]
theorem q4l {p : Prop} : 0≤ind p∧ind p≤1:=by by_cases hp : p <;> simp [ind,hp]
theorem ql1 (a b : Int) : ∀ {n : Nat},sumN n (fun x=>ind (a≤x∧x < b)) = max 0 (min b n - max a 0)
  | 0=>by rw [sumN];omega
  | n + 1=>by
    rw [sumN,ql1 a b (n:=n)]
    by_cases h : a≤(n : Int)∧(n : Int) < b
    · rw [q4m h];omega
    · rw [Zw h];omega
def sumZ (N : Nat) (f : Int→Int) : Int:=sumN (2 * N) fun k=>f (k - N)
theorem qen {N : Nat} {f g : Int→Int} (h : ∀ x : Int,-(N : Int)≤x→x < N→f x = g x) : sumZ N f = sumZ N g:=
  ql0 fun k hk=>h _ (by omega) (by omega)
theorem qyi {N : Nat} {f g : Int→Int} : sumZ N (fun x=>f x + g x) = sumZ N f + sumZ N g:=qkz
theorem qyj {N : Nat} {f g : Int→Int} : sumZ N (fun x=>f x - g x) = sumZ N f - sumZ N g:=ql4
theorem q13 {N : Nat} {c : Int} {f : Int→Int} : sumZ N (fun x=>c * f x) = c * sumZ N f:=ql3
theorem qer {N : Nat} : sumZ N (fun _=>0) = 0:=ql5
theorem qbh {N : Nat} {f g : Int→Int} (h : ∀ x : Int,-(N : Int)≤x→x < N→f x≤g x) : sumZ N f≤sumZ N g:=
  ql2 fun k hk=>h _ (by omega) (by omega)
theorem qbg {N : Nat} {a b : Int} (h1 : -N≤a) (h2 : a≤b) (h3 : b≤N) : sumZ N (fun x=>ind (a≤x∧x < b)) = b - a:=by
  unfold sumZ
  have : (fun k : Int=>ind (a≤k - N∧k - N < b)) = fun k=>ind (a + N≤k∧k < b + N):=by
    funext k;exact Jd ⟨fun h=>by omega,fun h=>by omega⟩
  simp only [this]
  rw [ql1];omega
theorem qep {N : Nat} {f : Int→Int} (h : ∀ x : Int,-(N : Int)≤x→x < N→0≤f x) : 0≤sumZ N f:=by
  rw [← qer (N:=N)];exact qbh h
theorem qeo {N : Nat} {c : Int} : sumZ N (fun _=>c) = 2 * N * c:=by
  have : ∀ n : Nat,sumN n (fun _=>c) = n * c:=by
    intro n
    induction n with
    | zero=>simp [sumN]
    | succ n ih=>rw [sumN,ih,Int.natCast_succ,Int.add_mul,Int.one_mul]
  unfold sumZ;rw [this];simp
noncomputable def cnt3 (N : Nat) (P : Int→Int→Int→Prop) : Int:=sumZ N fun x=>sumZ N fun y=>sumZ N fun z=>ind (P x y z)
theorem qnc {N : Nat} {P Q : Int→Int→Int→Prop} (h : ∀ x y z : Int,-(N : Int)≤x∧x < N→-(N : Int)≤y∧y < N→-(N : Int)≤z∧z < N→(P x y z↔Q x y z)) : cnt3 N P = cnt3 N Q:=
  qen fun x h1 h2=>qen fun y h3 h4=>qen fun z h5 h6=>Jd (h x y z ⟨h1,h2⟩ ⟨h3,h4⟩ ⟨h5,h6⟩)
def sumL {α : Type} (f : α→Int) : List α→Int
  | []=>0
  | a::r=>f a + sumL f r
theorem q9c {α : Type} (f : α→Int) (a b : List α) : sumL f (a ++ b) = sumL f a + sumL f b:=by
  induction a with
  | nil=>simp [sumL]
  | cons x a ih=>rw [List.cons_append,sumL,sumL,ih];omega
theorem Zl {α : Type} {f g : α→Int} {l : List α} (h : ∀ a∈l,f a = g a) : sumL f l = sumL g l:=by
  induction l with
  | nil=>rfl
  | cons a l ih=>rw [sumL,sumL,h a (by simp),ih fun b hb=>h b (by simp [hb])]
theorem qbd {α β : Type} (f : β→Int) (g : α→β) (l : List α) : sumL f (l.map g) = sumL (fun a=>f (g a)) l:=by
  induction l with
  | nil=>rfl
  | cons a l ih=>rw [List.map_cons,sumL,sumL,ih]
theorem qbe {α : Type} (c : Int) (f : α→Int) (l : List α) : sumL (fun a=>c * f a) l = c * sumL f l:=by
  induction l with
  | nil=>simp [sumL]
  | cons a l ih=>rw [sumL,sumL,ih,Int.mul_add]
theorem qem {α : Type} (f g : α→Int) (l : List α) : sumL (fun a=>f a + g a) l = sumL f l + sumL g l:=by
  induction l with
  | nil=>rfl
  | cons a l ih=>rw [sumL,sumL,sumL,ih];omega
theorem qkx {α : Type} (f g : α→Int) (l : List α) : sumL (fun a=>f a - g a) l = sumL f l - sumL g l:=by
  induction l with
  | nil=>rfl
  | cons a l ih=>rw [sumL,sumL,sumL,ih];omega
theorem qky {α : Type} (l : List α) : sumL (fun _ : α=>0) l = 0:=by
  induction l with
  | nil=>rfl
  | cons a l ih=>rw [sumL,ih];rfl
theorem qbf {α : Type} {N : Nat} (f : α→Int→Int) (l : List α) : sumL (fun a=>sumZ N (f a)) l = sumZ N fun x=>sumL (fun a=>f a x) l:=by
  induction l with
  | nil=>exact qer.symm
  | cons a l ih=>
    have : (fun x=>sumL (fun a=>f a x) (a::l)) = fun x=>f a x + (fun x=>sumL (fun a=>f a x) l) x:=rfl
    rw [sumL,ih,this,qyi]
def inB (b : qg) (x y z : Int) : Prop:=(b.Lo.X≤x∧x < b.Hi.X)∧(b.Lo.Y≤y∧y < b.Hi.Y)∧(b.Lo.Z≤z∧z < b.Hi.Z)
def inR (r : qi) (x y : Int) : Prop:=(r.X0≤x∧x < r.X1)∧(r.Y0≤y∧y < r.Y1)
def inS (t : qk) (x : Int) : Prop:=t.Lo≤x∧x < t.Hi
def volB (b : qg) : Int:=(b.Hi.X - b.Lo.X) * (b.Hi.Y - b.Lo.Y) * (b.Hi.Z - b.Lo.Z)
theorem qz1 {N : Nat} {b : qg} (h : (b.Lo.X≤b.Hi.X∧b.Lo.Y≤b.Hi.Y∧b.Lo.Z≤b.Hi.Z)∧(-(N : Int)≤b.Lo.X∧-(N : Int)≤b.Lo.Y∧-(N : Int)≤b.Lo.Z)∧b.Hi.X≤N∧b.Hi.Y≤N∧b.Hi.Z≤N) :
    volB b = cnt3 N (inB b):=by
  obtain ⟨⟨h1,h2,h3⟩,⟨h4,h5,h6⟩,h7,h8,h9⟩:=h
  unfold cnt3
  have e : ∀ x y,(sumZ N fun z=>ind (inB b x y z)) = ind (b.Lo.X≤x∧x < b.Hi.X) * (ind (b.Lo.Y≤y∧y < b.Hi.Y) * (b.Hi.Z - b.Lo.Z)):=fun x y=>by
    have : (fun z=>ind (inB b x y z)) = fun z=>ind (b.Lo.X≤x∧x < b.Hi.X) * (ind (b.Lo.Y≤y∧y < b.Hi.Y) * ind (b.Lo.Z≤z∧z < b.Hi.Z)):=by
      funext z;unfold inB;rw [q4k (p:=_∧_) (q:=(_∧_)∧_),q4k (p:=_∧_) (q:=_∧_)]
    rw [this,q13,q13,qbg h6 h3 h9]
  have e2 : ∀ x,(sumZ N fun y=>sumZ N fun z=>ind (inB b x y z)) = ind (b.Lo.X≤x∧x < b.Hi.X) * ((b.Hi.Y - b.Lo.Y) * (b.Hi.Z - b.Lo.Z)):=fun x=>by
    have : (fun y=>sumZ N fun z=>ind (inB b x y z)) = fun y=>ind (b.Lo.X≤x∧x < b.Hi.X) * ((b.Hi.Z - b.Lo.Z) * ind (b.Lo.Y≤y∧y < b.Hi.Y)):=by
      funext y;rw [e,Int.mul_comm (b.Hi.Z - b.Lo.Z)]
    rw [this,q13,q13,qbg h5 h2 h8,Int.mul_comm (b.Hi.Z - b.Lo.Z)]
  have : (fun x=>sumZ N fun y=>sumZ N fun z=>ind (inB b x y z)) = fun x=>((b.Hi.Y - b.Lo.Y) * (b.Hi.Z - b.Lo.Z)) * ind (b.Lo.X≤x∧x < b.Hi.X):=by
    funext x;rw [e2,Int.mul_comm]
  rw [this,q13,qbg h4 h1 h7,volB]
  simp only [Int.mul_assoc,Int.mul_left_comm,Int.mul_comm]
noncomputable def cntS (s : List qk) (y : Int) : Int:=sumL (fun t=>ind (inS t y)) s
noncomputable def cntR (l : List qi) (x y : Int) : Int:=sumL (fun t=>ind (inR t x y)) l
noncomputable def cntB (l : List qg) (x y z : Int) : Int:=sumL (fun t=>ind (inB t x y z)) l
theorem qfw : ∀ {s : List qk},Can s→∀ y,cntS s y = ind (has s y)
  | [],_,y=>by rw [Zw (Us y)];rfl
  | a::s,h,y=>by
    have ih:=qfw h.tail y
    unfold cntS at ih ⊢
    rw [sumL,ih,Jd (Yt (a:=a) (s:=s) (x:=y)),qp5]
    have : ¬ ((a.Lo≤y∧y < a.Hi)∧has s y):=fun ⟨h1,h2⟩=>by have:=h.tail_gt h2;omega
    rw [Zw this];unfold inS;omega
theorem qnf (l : List qi) (x y : Int) : cntR l x y = cntS (covS l x) y:=by
  unfold cntR cntS
  induction l with
  | nil=>rfl
  | cons r l ih=>
    have e : covS (r::l) x = (if covR x r = true then [ysp r] else []) ++ covS l x:=rfl
    rw [sumL,ih,e,q9c]
    congr 1
    by_cases hc : covR x r = true
    · rw [if_pos hc]
      have:=q4b.1 hc
      simp only [sumL,Int.add_zero]
      exact Jd ⟨fun h=>h.2,fun h=>⟨this,h⟩⟩
    · rw [if_neg hc]
      rw [q4b] at hc
      exact Zw fun h=>hc h.1
theorem qnd (l : List qg) (x y z : Int) : cntB l x y z = cntR (atB l z) x y:=by
  unfold cntB cntR
  induction l with
  | nil=>rfl
  | cons r l ih=>
    have e : atB (r::l) z = (if covB z r = true then [Zh r] else []) ++ atB l z:=rfl
    rw [sumL,ih,e,q9c]
    congr 1
    by_cases hc : covB z r = true
    · rw [if_pos hc]
      have:=q17.1 hc
      simp only [sumL,Int.add_zero]
      exact Jd ⟨fun h=>⟨h.1,h.2.1⟩,fun h=>⟨h.1,h.2,this⟩⟩
    · rw [if_neg hc]
      rw [q17] at hc
      exact Zw fun h=>hc h.2.2
theorem CanR.cnt {l : List qi} (h : CanR l) (x y : Int) : cntR l x y = ind (hasR l x y):=by
  rw [qnf,qfw (h.cov x),Jd U0]
theorem CanB.cnt {l : List qg} (h : CanB l) (x y z : Int) : cntB l x y z = ind (hasB l x y z):=by
  rw [qnd,(h.at z).cnt,Jd q2n]
def volL (l : List qg) : Int:=sumL volB l
theorem qev {N : Nat} {l : List qg} (hc : ∀ x y z,cntB l x y z = ind (hasB l x y z)) (h : ∀ b∈l,(b.Lo.X≤b.Hi.X∧b.Lo.Y≤b.Hi.Y∧b.Lo.Z≤b.Hi.Z)∧(-(N : Int)≤b.Lo.X∧-(N : Int)≤b.Lo.Y∧-(N : Int)≤b.Lo.Z)∧b.Hi.X≤N∧b.Hi.Y≤N∧b.Hi.Z≤N) :
    volL l = cnt3 N (hasB l):=by
  unfold volL
  rw [Zl fun b hb=>qz1 (h b hb)]
  unfold cnt3
  rw [qbf]
  congr 1;funext x
  rw [qbf]
  congr 1;funext y
  rw [qbf]
  congr 1;funext z
  exact hc x y z
theorem qli {l : List qg} (hc : CanB l) (h : ∀ b∈l,vB b) : volL l = cnt3 1000000 (hasB l):=
  qev hc.cnt fun b hb=>by have:=h b hb;unfold vB at this;omega
end Go.Sh
namespace Go.Sh
open Go Go.Am
theorem qgv {α β γ : Type} (l : List α) (hl : l.length≤1000000) (g : γ→α→γ) (fin : γ→β) (f : γ × Int→Option ((γ × Int) ⊕ β))
    (hs : ∀ k (h : k < l.length) (s : γ),f (s,(k : Int)) = some (.inl (g s l[k],((k + 1 : Nat) : Int)))) (hd : ∀ s,f (s,(l.length : Int)) = some (.inr (fin s))) (s : γ) :
    loop f (s,0) = some (fin (l.foldl g s)):=by
  have key:=Z4 (f:=f) (fun k=>((l.take k).foldl g s,(k : Int))) l.length (fin (l.foldl g s)) (fun k hk=>by
    rw [hs k hk,List.take_succ_eq_append_getElem hk,List.foldl_append];rfl) (by rw [List.take_length,hd]) (Nat.zero_le _)
  exact key
theorem qew (x : Int) : w64 x = if 9223372036854775808≤x % 18446744073709551616 then x % 18446744073709551616 - 18446744073709551616 else x % 18446744073709551616:=by
  unfold w64 IntKind.wrap
  simp [IntKind.bits,IntKind.signed]
theorem qlk (x y : Int) (h : x % 18446744073709551616 = y % 18446744073709551616) : w64 x = w64 y:=by rw [qew,qew,h]
theorem qll (x : Int) : w64 x % 18446744073709551616 = x % 18446744073709551616:=by rw [qew];split <;> omega
theorem qlj (a b : Int) : w64 (w64 a + b) = w64 (a + b):=qlk _ _ (by have:=qll a;omega)
theorem qz7 (a b : Int) : w64 (a - w64 b) = w64 (a - b):=qlk _ _ (by have:=qll b;omega)
theorem qak {x y z : Int} (hx : 0≤x∧x≤2000000) (hy : 0≤y∧y≤2000000) (hz : 0≤z∧z≤2000000) : (0≤x * y∧x * y≤4000000000000)∧0≤x * y * z∧x * y * z≤8000000000000000000:=by
  have h1 : 0≤x * y:=Int.mul_nonneg hx.1 hy.1
  have h2 : x * y≤2000000 * 2000000:=Int.mul_le_mul hx.2 hy.2 hy.1 (by omega)
  have h3 : 0≤x * y * z:=Int.mul_nonneg h1 hz.1
  have h4 : x * y * z≤4000000000000 * 2000000:=Int.mul_le_mul (by omega) hz.2 hz.1 (by omega)
  omega
theorem qz5 {b : qg} (h : vB b) : w64 ((w64 ((w64 (b.Hi.X - b.Lo.X)) * (w64 (b.Hi.Y - b.Lo.Y)))) * (w64 (b.Hi.Z - b.Lo.Z))) = volB b:=by
  unfold vB at h
  rw [qu (x:=b.Hi.X - b.Lo.X) (by omega),qu (x:=b.Hi.Y - b.Lo.Y) (by omega),qu (x:=b.Hi.Z - b.Lo.Z) (by omega)]
  have:=qak (x:=b.Hi.X - b.Lo.X) (y:=b.Hi.Y - b.Lo.Y) (z:=b.Hi.Z - b.Lo.Z) (by omega) (by omega) (by omega)
  rw [qu (x:=(b.Hi.X - b.Lo.X) * (b.Hi.Y - b.Lo.Y)) (by omega),qu (by omega)];rfl
theorem qch {α : Type} (f : α→Int) : ∀ (l : List α) (n m : Int),n = w64 m→l.foldl (fun n b=>w64 (n + f b)) n = w64 (m + sumL f l)
  | [],n,m,h=>by simp [sumL,h]
  | b::l,n,m,h=>by
    rw [List.foldl_cons,qch f l _ (m + f b) (by rw [h,qlj]),sumL,Int.add_assoc]
theorem qgz {α γ : Type} {f g : γ→α→γ} : ∀ {l : List α} {s : γ},(∀ b∈l,∀ s,f s b = g s b)→l.foldl f s = l.foldl g s
  | [],_,_=>rfl
  | b::l,s,h=>by rw [List.foldl_cons,List.foldl_cons,h b (by simp),qgz fun c hc=>h c (by simp [hc])]
theorem qfv (N : Nat) (P : Int→Int→Int→Prop) : 0≤cnt3 N P∧cnt3 N P≤2 * N * (2 * N * (2 * N * 1)):=by
  constructor
  · exact qep fun x _ _=>qep fun y _ _=>qep fun z _ _=>q4l.1
  · rw [← qeo (N:=N) (c:=1),← qeo,← qeo]
    exact qbh fun x _ _=>qbh fun y _ _=>qbh fun z _ _=>q4l.2
theorem qz2 {l : List qg} (h : Qy l = 0) : 0≤volL l∧volL l≤8000000000000000000:=by
  obtain ⟨h1,h2,h3⟩:=Zt.1 h
  rw [qli h3 h2]
  have:=qfv 1000000 (hasB l)
  omega
noncomputable def volume (l : List qg) : Int × Int:=if Qy l≠0 then (0,Qy l) else (volL l,0)
theorem qz4 {l : List qg} (h : Qy l = 0) : l.foldl (fun n b=>w64 (n + w64 ((w64 ((w64 (b.Hi.X - b.Lo.X)) * (w64 (b.Hi.Y - b.Lo.Y)))) * (w64 (b.Hi.Z - b.Lo.Z))))) 0 = volL l:=by
  obtain ⟨h1,h2,h3⟩:=Zt.1 h
  rw [qgz (g:=fun n b=>w64 (n + volB b)) fun b hb s=>by rw [qz5 (h2 b hb)]]
  rw [qch volB l 0 0 (by rw [qu (by omega)])]
  have:=qz2 h
  rw [qu (by unfold volL at this;omega),Int.zero_add];rfl
theorem qkh (l : List qg) : q3r l = some (volume l):=by
  unfold q3r volume
  rw [qee,Option.bind_some]
  by_cases h : Qy l = 0
  · rw [if_neg (by simp [h]),h,show ((0 : Int) != 0) = false from rfl,cond_false]
    have hl:=(Zt.1 h).1
    rw [qgv l (by omega) (fun n b=>w64 (n + w64 ((w64 ((w64 (b.Hi.X - b.Lo.X)) * (w64 (b.Hi.Y - b.Lo.Y)))) * (w64 (b.Hi.Z - b.Lo.Z))))) (fun n=>n) (q6e l) (fun k hk s=>by
      simp only [q6e,dlt hk,cond_true,Ql hk,Option.bind_some,q6i,w64s hk (by omega)]) (fun s=>by simp only [q6e,dnl,cond_false]) 0,qz4 h]
    rfl
  · have : (Qy l != 0) = true:=by simpa using h
    rw [if_pos h,this,cond_true]
theorem qhj {b : qg} {l : List qg} {x y z : Int} : hasB (b::l) x y z↔inB b x y z∨hasB l x y z:=by
  constructor
  · rintro ⟨c,hc,h⟩
    rcases List.mem_cons.1 hc with rfl | hc
    · exact .inl h
    · exact .inr ⟨c,hc,h⟩
  · rintro (h | ⟨c,hc,h⟩)
    · exact ⟨b,by simp,h⟩
    · exact ⟨c,by simp [hc],h⟩
instance (b : qg) (x y z : Int) : Decidable (inB b x y z):=by unfold inB;infer_instance
instance qo0 : (l : List qg)→(x y z : Int)→Decidable (hasB l x y z)
  | [],x,y,z=>isFalse (q75 x y z)
  | b::l,x,y,z=>by
    have:=qo0 l x y z
    exact decidable_of_iff _ qhj.symm
theorem qsg (b : qg) (v : qj) : qjf b v = some (decide (inB b v.X v.Y v.Z)):=by
  unfold qjf inB
  by_cases h1 : b.Lo.X≤v.X <;> by_cases h2 : v.X < b.Hi.X <;> by_cases h3 : b.Lo.Y≤v.Y <;> by_cases h4 : v.Y < b.Hi.Y <;> by_cases h5 : b.Lo.Z≤v.Z <;> by_cases h6 : v.Z < b.Hi.Z <;> simp [h1,h2,h3,h4,h5,h6]
theorem qxj (b : qg) (v : qj) : q6c b v = some (decide (inB b v.X v.Y v.Z)):=qsg b v
theorem qeg (l : List qg) (v : qj) (hl : l.length≤1000000) : q23 l v = some (decide (hasB l v.X v.Y v.Z)):=by
  unfold q23 q3a q87
  rcases q2g l (fun b=>decide (inB b v.X v.Y v.Z)) (fun k _=>(k : Int)) () (U8 l (fun x0=>q6c x0 v)) (fun k hk=>by
    simp only [U8,dlt hk,cond_true,Ql hk,Option.bind_some,qxj,w64s hk hl]
    by_cases hv : inB l[k] v.X v.Y v.Z <;> simp [hv]) (by simp only [U8,dnl,cond_false]) with ⟨h1,h2⟩ | ⟨k,hk,hc,_,h2⟩
  · rw [h2]
    simp only [Option.bind_some]
    congr 1
    rw [show decide ((-1 : Int) ≥ 0) = false from rfl]
    refine (decide_eq_false ?_).symm
    rintro ⟨b,hb,h⟩
    have:=h1 b hb
    simp at this
    exact this h
  · rw [h2]
    simp only [Option.bind_some]
    congr 1
    rw [decide_eq_true (by omega : (k : Int) ≥ 0)]
    refine (decide_eq_true ?_).symm
    exact ⟨l[k],List.getElem_mem hk,of_decide_eq_true hc⟩
end Go.Sh
